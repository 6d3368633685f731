-- PRINTED by print.py (a twelfth state) out of the translation. Not trusted: Lean checks it.
import Derived.Test.YtdddkkojgepnmaaDoorXcx0
import Derived.Test.YtdddkkojgepnmaaDoorXcx2
import Derived.Test.YtdddkkojgepnmaaDoorXcx3
import Derived.Test.YtdddkkojgepnmaaDoorXcx6
namespace Go.Proofs.YtdddkkojgepnmaaDoor.Xc
open Go.RowKit Go.Proofs.YtdddkkojgepnmaaDoorW.PrintWords Go.Proofs.YtdddkkojgepnmaaDoorW.PrintLast Go.Proofs.YtdddkkojgepnmaaDoorW.PrintMore
attribute [local go_sem] max2_int min2_int max_two min_two max_three min_three max_four min_four   -- for this text's walks alone
set_option linter.unusedVariables false
set_option linter.unusedSimpArgs false

/-! ### bits_Narrow: function 17 -/
mutual
def bits_Narrow.j0 : Nat → Int → Int → Bool → Bool → Int → Int → Int → Option (Int × Bool × Option Int)
  | 0, _, _, _, _, _, _, _ => none
  | k + 1, x9, x10, x85, x179000, x179001, x179002, x179003 => if x85 = true then (bits_Narrow.j1 k x9 (IntKind.u64.wrap (x10 + 1)) x179000 x179001 x179002 x179003) else (bits_Narrow.j1 k x9 x10 x179000 x179001 x179002 x179003)
def bits_Narrow.j1 : Nat → Int → Int → Bool → Int → Int → Int → Option (Int × Bool × Option Int)
  | 0, _, _, _, _, _, _ => none
  | k + 1, x9, x10, x179000, x179001, x179002, x179003 => if x10 = 0 then (bits_Narrow.j2 k x179000 x179001 x179002 x179003 x179000 1 x10 (wrap64 (x179003 + x9))) else (bits_Narrow.j2 k x179000 x179001 x179002 x179003 x179000 2 x10 (wrap64 (x179003 + x9)))
def bits_Narrow.j2 : Nat → Bool → Int → Int → Int → Bool → Int → Int → Int → Option (Int × Bool × Option Int)
  | 0, _, _, _, _, _, _, _, _ => none
  | k + 1, x179000, x179001, x179002, x179003, x189000, x189001, x189002, x189003 => (bits_Pack.f k x189000 x189001 x189002 x189003 32).bind fun bt189 => (if bt189.2.isNone = true then (some (bt189.1, false, none)) else ((bits_Inf.f k x179000 32).bind fun bt192 => (some (bt192.1, false, none))))
end
def bits_Narrow.f (k : Nat) (a0 : Int) : Option (Int × Bool × Option Int) := (bits_Unpack.f a0 64).bind fun bt173 => (if bt173.2.2.2.2.isNone = true then ((bits_Pack.f k bt173.1 bt173.2.1 bt173.2.2.1 bt173.2.2.2.1 32).bind fun bt180 => (if bt180.2.isNone = true then (some (bt180.1, (bt173.2.1 != 4), none)) else ((bits_Len64.f bt173.2.2.1).bind fun t184 => ((bits_format_least.f 23 8).bind fun t185 => (if (mx (mx (wrap64 (t184 - 24)) (wrap64 (t185 - bt173.2.2.2.1))) 0) > 63 then ((bits_Zero.f k bt173.1 32).bind fun bt186 => (some (bt186.1, false, none))) else (if (Go.bits .and .u64 bt173.2.2.1 (IntKind.u64.wrap ((shl .u64 1 (mx (mx (wrap64 (t184 - 24)) (wrap64 (t185 - bt173.2.2.2.1))) 0)) - 1))) > ((shl .u64 1 (mx (mx (wrap64 (t184 - 24)) (wrap64 (t185 - bt173.2.2.2.1))) 0)) / 2) then (bits_Narrow.j0 k (mx (mx (wrap64 (t184 - 24)) (wrap64 (t185 - bt173.2.2.2.1))) 0) (shr .u64 bt173.2.2.1 (mx (mx (wrap64 (t184 - 24)) (wrap64 (t185 - bt173.2.2.2.1))) 0)) true bt173.1 bt173.2.1 bt173.2.2.1 bt173.2.2.2.1) else (if (Go.bits .and .u64 bt173.2.2.1 (IntKind.u64.wrap ((shl .u64 1 (mx (mx (wrap64 (t184 - 24)) (wrap64 (t185 - bt173.2.2.2.1))) 0)) - 1))) = ((shl .u64 1 (mx (mx (wrap64 (t184 - 24)) (wrap64 (t185 - bt173.2.2.2.1))) 0)) / 2) then (if (Go.bits .and .u64 bt173.2.2.1 (IntKind.u64.wrap ((shl .u64 1 (mx (mx (wrap64 (t184 - 24)) (wrap64 (t185 - bt173.2.2.2.1))) 0)) - 1))) > 0 then (bits_Narrow.j0 k (mx (mx (wrap64 (t184 - 24)) (wrap64 (t185 - bt173.2.2.2.1))) 0) (shr .u64 bt173.2.2.1 (mx (mx (wrap64 (t184 - 24)) (wrap64 (t185 - bt173.2.2.2.1))) 0)) ((Int.tmod (shr .u64 bt173.2.2.1 (mx (mx (wrap64 (t184 - 24)) (wrap64 (t185 - bt173.2.2.2.1))) 0)) 2) == 1) bt173.1 bt173.2.1 bt173.2.2.1 bt173.2.2.2.1) else (bits_Narrow.j0 k (mx (mx (wrap64 (t184 - 24)) (wrap64 (t185 - bt173.2.2.2.1))) 0) (shr .u64 bt173.2.2.1 (mx (mx (wrap64 (t184 - 24)) (wrap64 (t185 - bt173.2.2.2.1))) 0)) false bt173.1 bt173.2.1 bt173.2.2.1 bt173.2.2.2.1)) else (bits_Narrow.j0 k (mx (mx (wrap64 (t184 - 24)) (wrap64 (t185 - bt173.2.2.2.1))) 0) (shr .u64 bt173.2.2.1 (mx (mx (wrap64 (t184 - 24)) (wrap64 (t185 - bt173.2.2.2.1))) 0)) false bt173.1 bt173.2.1 bt173.2.2.1 bt173.2.2.2.1)))))))) else (some (0, false, some (bt173.2.2.2.2.getD 0))))
theorem bits_Narrow.mono_l : ∀ k, (∀ y0 y1 y2 y3 y4 y5 y6, LeO (bits_Narrow.j0 k y0 y1 y2 y3 y4 y5 y6) (bits_Narrow.j0 (k + 1) y0 y1 y2 y3 y4 y5 y6)) ∧ (∀ y0 y1 y2 y3 y4 y5, LeO (bits_Narrow.j1 k y0 y1 y2 y3 y4 y5) (bits_Narrow.j1 (k + 1) y0 y1 y2 y3 y4 y5)) ∧ (∀ y0 y1 y2 y3 y4 y5 y6 y7, LeO (bits_Narrow.j2 k y0 y1 y2 y3 y4 y5 y6 y7) (bits_Narrow.j2 (k + 1) y0 y1 y2 y3 y4 y5 y6 y7))
  | 0 => ⟨fun _ _ _ _ _ _ _ r h => by simp [bits_Narrow.j0] at h, fun _ _ _ _ _ _ r h => by simp [bits_Narrow.j1] at h, fun _ _ _ _ _ _ _ _ r h => by simp [bits_Narrow.j2] at h⟩
  | k + 1 => by
    obtain ⟨ih0, ih1, ih2⟩ := bits_Narrow.mono_l k
    refine ⟨?_, ?_, ?_⟩
    · intro y0 y1 y2 y3 y4 y5 y6
      unfold bits_Narrow.j0
      repeat' first
      | (with_reducible exact ih0 _ _ _ _ _ _ _)
      | (with_reducible exact ih1 _ _ _ _ _ _)
      | (with_reducible exact ih2 _ _ _ _ _ _ _ _)
      | (with_reducible exact bits_Inf.mono _ _ _)
      | (with_reducible exact bits_Pack.mono _ _ _ _ _ _)
      | (with_reducible exact bits_Zero.mono _ _ _)
      | (with_reducible exact LeO.refl _)
      | (with_reducible exact LeO.none _)
      | (with_reducible refine LeO.ite ?_ ?_)
      | (with_reducible refine LeO.bind ?_ (fun _ => ?_))
      | exact ih0 _ _ _ _ _ _ _
      | exact ih1 _ _ _ _ _ _
      | exact ih2 _ _ _ _ _ _ _ _
      | exact bits_Inf.mono _ _ _
      | exact bits_Pack.mono _ _ _ _ _ _
      | exact bits_Zero.mono _ _ _
      | exact LeO.none _
      | refine LeO.ite ?_ ?_
      | refine LeO.bind ?_ (fun _ => ?_)
    · intro y0 y1 y2 y3 y4 y5
      unfold bits_Narrow.j1
      repeat' first
      | (with_reducible exact ih0 _ _ _ _ _ _ _)
      | (with_reducible exact ih1 _ _ _ _ _ _)
      | (with_reducible exact ih2 _ _ _ _ _ _ _ _)
      | (with_reducible exact bits_Inf.mono _ _ _)
      | (with_reducible exact bits_Pack.mono _ _ _ _ _ _)
      | (with_reducible exact bits_Zero.mono _ _ _)
      | (with_reducible exact LeO.refl _)
      | (with_reducible exact LeO.none _)
      | (with_reducible refine LeO.ite ?_ ?_)
      | (with_reducible refine LeO.bind ?_ (fun _ => ?_))
      | exact ih0 _ _ _ _ _ _ _
      | exact ih1 _ _ _ _ _ _
      | exact ih2 _ _ _ _ _ _ _ _
      | exact bits_Inf.mono _ _ _
      | exact bits_Pack.mono _ _ _ _ _ _
      | exact bits_Zero.mono _ _ _
      | exact LeO.none _
      | refine LeO.ite ?_ ?_
      | refine LeO.bind ?_ (fun _ => ?_)
    · intro y0 y1 y2 y3 y4 y5 y6 y7
      unfold bits_Narrow.j2
      repeat' first
      | (with_reducible exact ih0 _ _ _ _ _ _ _)
      | (with_reducible exact ih1 _ _ _ _ _ _)
      | (with_reducible exact ih2 _ _ _ _ _ _ _ _)
      | (with_reducible exact bits_Inf.mono _ _ _)
      | (with_reducible exact bits_Pack.mono _ _ _ _ _ _)
      | (with_reducible exact bits_Zero.mono _ _ _)
      | (with_reducible exact LeO.refl _)
      | (with_reducible exact LeO.none _)
      | (with_reducible refine LeO.ite ?_ ?_)
      | (with_reducible refine LeO.bind ?_ (fun _ => ?_))
      | exact ih0 _ _ _ _ _ _ _
      | exact ih1 _ _ _ _ _ _
      | exact ih2 _ _ _ _ _ _ _ _
      | exact bits_Inf.mono _ _ _
      | exact bits_Pack.mono _ _ _ _ _ _
      | exact bits_Zero.mono _ _ _
      | exact LeO.none _
      | refine LeO.ite ?_ ?_
      | refine LeO.bind ?_ (fun _ => ?_)
theorem bits_Narrow.mono : ∀ a0 k, LeO (bits_Narrow.f k a0) (bits_Narrow.f (k + 1) a0) := by
  intro a0 k
  obtain ⟨ih0, ih1, ih2⟩ := bits_Narrow.mono_l k
  unfold bits_Narrow.f
  repeat' first
      | (with_reducible exact ih0 _ _ _ _ _ _ _)
      | (with_reducible exact ih1 _ _ _ _ _ _)
      | (with_reducible exact ih2 _ _ _ _ _ _ _ _)
      | (with_reducible exact bits_Inf.mono _ _ _)
      | (with_reducible exact bits_Pack.mono _ _ _ _ _ _)
      | (with_reducible exact bits_Zero.mono _ _ _)
      | (with_reducible exact LeO.refl _)
      | (with_reducible exact LeO.none _)
      | (with_reducible refine LeO.ite ?_ ?_)
      | (with_reducible refine LeO.bind ?_ (fun _ => ?_))
      | exact ih0 _ _ _ _ _ _ _
      | exact ih1 _ _ _ _ _ _
      | exact ih2 _ _ _ _ _ _ _ _
      | exact bits_Inf.mono _ _ _
      | exact bits_Pack.mono _ _ _ _ _ _
      | exact bits_Zero.mono _ _ _
      | exact LeO.none _
      | refine LeO.ite ?_ ?_
      | refine LeO.bind ?_ (fun _ => ?_)
def bits_Narrow.T8 : Bool × List (List Nat × List Nat) := (true, [([], []), ([0], [0]), ([1], [1]), ([], []), ([3], [3]), ([4], [4]), ([2, 5], [2, 5]), ([], []), ([7, 2], [7]), ([], []), ([9], [9]), ([8, 10], [8, 10]), ([6, 11], [6, 11]), ([12, 8, 0, 1, 2, 3, 4, 5, 6, 7, 8, 9, 10, 11, 12], [12])])
def bits_Narrow.B8 : List Nat := [0, 1, 3, 0, 8, 24, 63, 0, 135, 0, 512, 1927, 4095, 8191]
theorem bits_Narrow.tab8 : rtab .any (opsOf Tryd.f17 8) = bits_Narrow.T8 := by kernel_rfl
theorem bits_Narrow.bits8 : waitsOk bits_Narrow.T8.2 bits_Narrow.B8 = true := by kernel_rfl
def bits_Narrow.T12 : Bool × List (List Nat × List Nat) := (true, [([], []), ([0], [0]), ([], []), ([1, 2], [1, 2]), ([], []), ([4], [4]), ([], []), ([6], [6]), ([7], [7]), ([5, 8], [5, 8]), ([3, 0, 1, 2, 3], [3]), ([9, 10, 0, 1, 2, 3, 4, 5, 6, 7, 8, 9, 10], [9])])
def bits_Narrow.B12 : List Nat := [0, 1, 0, 7, 0, 16, 0, 64, 192, 496, 15, 2047]
theorem bits_Narrow.tab12 : rtab .any (opsOf Tryd.f17 12) = bits_Narrow.T12 := by kernel_rfl
theorem bits_Narrow.bits12 : waitsOk bits_Narrow.T12.2 bits_Narrow.B12 = true := by kernel_rfl
set_option maxHeartbeats 8000000 in
set_option maxRecDepth 100000 in
theorem bits_Narrow.calls (k : Nat) (a0 : Int) (r1 : Int) (r2 : Bool) (r3 : Option Int) (w : World) (hl_DB64 : Laid_DB64 w) (h : bits_Narrow.f k a0 = some (r1, r2, r3)) :
    Calls Tryd.prog 17 #[.int .u64 a0] w fun e w' => e = .returned (.tuple #[.int .u64 r1, .bool r2, errW r3]) ∧ Below w.heap.size w w' := by
  have hwli6424 : wrap64 24 = 24 := by first | (unfold wrap64; omega) | decide
  have hu24 := Tryd.underlying24
  have hu65 := Tryd.underlying65
  have hu26 := Tryd.underlying26
  have hu72 := Tryd.underlying72
  have HB := Aside0.mk (Below.refl w.heap.size w)
  have HL_DB64 := Aside0.mk hl_DB64
  clear hl_DB64
  have H : ((bits_Unpack.f a0 64).bind fun bt173 => (if bt173.2.2.2.2.isNone = true then ((bits_Pack.f k bt173.1 bt173.2.1 bt173.2.2.1 bt173.2.2.2.1 32).bind fun bt180 => (if bt180.2.isNone = true then (some (bt180.1, (bt173.2.1 != 4), none)) else ((bits_Len64.f bt173.2.2.1).bind fun t184 => ((bits_format_least.f 23 8).bind fun t185 => (if (mx (mx (wrap64 (t184 - 24)) (wrap64 (t185 - bt173.2.2.2.1))) 0) > 63 then ((bits_Zero.f k bt173.1 32).bind fun bt186 => (some (bt186.1, false, none))) else (if (Go.bits .and .u64 bt173.2.2.1 (IntKind.u64.wrap ((shl .u64 1 (mx (mx (wrap64 (t184 - 24)) (wrap64 (t185 - bt173.2.2.2.1))) 0)) - 1))) > ((shl .u64 1 (mx (mx (wrap64 (t184 - 24)) (wrap64 (t185 - bt173.2.2.2.1))) 0)) / 2) then (bits_Narrow.j0 k (mx (mx (wrap64 (t184 - 24)) (wrap64 (t185 - bt173.2.2.2.1))) 0) (shr .u64 bt173.2.2.1 (mx (mx (wrap64 (t184 - 24)) (wrap64 (t185 - bt173.2.2.2.1))) 0)) true bt173.1 bt173.2.1 bt173.2.2.1 bt173.2.2.2.1) else (if (Go.bits .and .u64 bt173.2.2.1 (IntKind.u64.wrap ((shl .u64 1 (mx (mx (wrap64 (t184 - 24)) (wrap64 (t185 - bt173.2.2.2.1))) 0)) - 1))) = ((shl .u64 1 (mx (mx (wrap64 (t184 - 24)) (wrap64 (t185 - bt173.2.2.2.1))) 0)) / 2) then (if (Go.bits .and .u64 bt173.2.2.1 (IntKind.u64.wrap ((shl .u64 1 (mx (mx (wrap64 (t184 - 24)) (wrap64 (t185 - bt173.2.2.2.1))) 0)) - 1))) > 0 then (bits_Narrow.j0 k (mx (mx (wrap64 (t184 - 24)) (wrap64 (t185 - bt173.2.2.2.1))) 0) (shr .u64 bt173.2.2.1 (mx (mx (wrap64 (t184 - 24)) (wrap64 (t185 - bt173.2.2.2.1))) 0)) ((Int.tmod (shr .u64 bt173.2.2.1 (mx (mx (wrap64 (t184 - 24)) (wrap64 (t185 - bt173.2.2.2.1))) 0)) 2) == 1) bt173.1 bt173.2.1 bt173.2.2.1 bt173.2.2.2.1) else (bits_Narrow.j0 k (mx (mx (wrap64 (t184 - 24)) (wrap64 (t185 - bt173.2.2.2.1))) 0) (shr .u64 bt173.2.2.1 (mx (mx (wrap64 (t184 - 24)) (wrap64 (t185 - bt173.2.2.2.1))) 0)) false bt173.1 bt173.2.1 bt173.2.2.1 bt173.2.2.2.1)) else (bits_Narrow.j0 k (mx (mx (wrap64 (t184 - 24)) (wrap64 (t185 - bt173.2.2.2.1))) 0) (shr .u64 bt173.2.2.1 (mx (mx (wrap64 (t184 - 24)) (wrap64 (t185 - bt173.2.2.2.1))) 0)) false bt173.1 bt173.2.1 bt173.2.2.1 bt173.2.2.2.1)))))))) else (some (0, false, some (bt173.2.2.2.2.getD 0))))) = some (r1, r2, r3) := h
  clear h
  replace H := Option.bind_eq_some_iff.mp H
  obtain ⟨⟨t173, t174, t175, t176, t177⟩, A20, H⟩ := H
  replace H : (if t177.isNone = true then ((bits_Pack.f k t173 t174 t175 t176 32).bind fun bt180 => (if bt180.2.isNone = true then (some (bt180.1, (t174 != 4), none)) else ((bits_Len64.f t175).bind fun t184 => ((bits_format_least.f 23 8).bind fun t185 => (if (mx (mx (wrap64 (t184 - 24)) (wrap64 (t185 - t176))) 0) > 63 then ((bits_Zero.f k t173 32).bind fun bt186 => (some (bt186.1, false, none))) else (if (Go.bits .and .u64 t175 (IntKind.u64.wrap ((shl .u64 1 (mx (mx (wrap64 (t184 - 24)) (wrap64 (t185 - t176))) 0)) - 1))) > ((shl .u64 1 (mx (mx (wrap64 (t184 - 24)) (wrap64 (t185 - t176))) 0)) / 2) then (bits_Narrow.j0 k (mx (mx (wrap64 (t184 - 24)) (wrap64 (t185 - t176))) 0) (shr .u64 t175 (mx (mx (wrap64 (t184 - 24)) (wrap64 (t185 - t176))) 0)) true t173 t174 t175 t176) else (if (Go.bits .and .u64 t175 (IntKind.u64.wrap ((shl .u64 1 (mx (mx (wrap64 (t184 - 24)) (wrap64 (t185 - t176))) 0)) - 1))) = ((shl .u64 1 (mx (mx (wrap64 (t184 - 24)) (wrap64 (t185 - t176))) 0)) / 2) then (if (Go.bits .and .u64 t175 (IntKind.u64.wrap ((shl .u64 1 (mx (mx (wrap64 (t184 - 24)) (wrap64 (t185 - t176))) 0)) - 1))) > 0 then (bits_Narrow.j0 k (mx (mx (wrap64 (t184 - 24)) (wrap64 (t185 - t176))) 0) (shr .u64 t175 (mx (mx (wrap64 (t184 - 24)) (wrap64 (t185 - t176))) 0)) ((Int.tmod (shr .u64 t175 (mx (mx (wrap64 (t184 - 24)) (wrap64 (t185 - t176))) 0)) 2) == 1) t173 t174 t175 t176) else (bits_Narrow.j0 k (mx (mx (wrap64 (t184 - 24)) (wrap64 (t185 - t176))) 0) (shr .u64 t175 (mx (mx (wrap64 (t184 - 24)) (wrap64 (t185 - t176))) 0)) false t173 t174 t175 t176)) else (bits_Narrow.j0 k (mx (mx (wrap64 (t184 - 24)) (wrap64 (t185 - t176))) 0) (shr .u64 t175 (mx (mx (wrap64 (t184 - 24)) (wrap64 (t185 - t176))) 0)) false t173 t174 t175 t176)))))))) else (some (0, false, some (t177.getD 0)))) = some (r1, r2, r3) := H
  have A2 := Aside0.mk A20
  clear A20
  rcases t177 with _ | q179
  · have H1 : ((bits_Pack.f k t173 t174 t175 t176 32).bind fun bt180 => (if bt180.2.isNone = true then (some (bt180.1, (t174 != 4), none)) else ((bits_Len64.f t175).bind fun t184 => ((bits_format_least.f 23 8).bind fun t185 => (if (mx (mx (wrap64 (t184 - 24)) (wrap64 (t185 - t176))) 0) > 63 then ((bits_Zero.f k t173 32).bind fun bt186 => (some (bt186.1, false, none))) else (if (Go.bits .and .u64 t175 (IntKind.u64.wrap ((shl .u64 1 (mx (mx (wrap64 (t184 - 24)) (wrap64 (t185 - t176))) 0)) - 1))) > ((shl .u64 1 (mx (mx (wrap64 (t184 - 24)) (wrap64 (t185 - t176))) 0)) / 2) then (bits_Narrow.j0 k (mx (mx (wrap64 (t184 - 24)) (wrap64 (t185 - t176))) 0) (shr .u64 t175 (mx (mx (wrap64 (t184 - 24)) (wrap64 (t185 - t176))) 0)) true t173 t174 t175 t176) else (if (Go.bits .and .u64 t175 (IntKind.u64.wrap ((shl .u64 1 (mx (mx (wrap64 (t184 - 24)) (wrap64 (t185 - t176))) 0)) - 1))) = ((shl .u64 1 (mx (mx (wrap64 (t184 - 24)) (wrap64 (t185 - t176))) 0)) / 2) then (if (Go.bits .and .u64 t175 (IntKind.u64.wrap ((shl .u64 1 (mx (mx (wrap64 (t184 - 24)) (wrap64 (t185 - t176))) 0)) - 1))) > 0 then (bits_Narrow.j0 k (mx (mx (wrap64 (t184 - 24)) (wrap64 (t185 - t176))) 0) (shr .u64 t175 (mx (mx (wrap64 (t184 - 24)) (wrap64 (t185 - t176))) 0)) ((Int.tmod (shr .u64 t175 (mx (mx (wrap64 (t184 - 24)) (wrap64 (t185 - t176))) 0)) 2) == 1) t173 t174 t175 t176) else (bits_Narrow.j0 k (mx (mx (wrap64 (t184 - 24)) (wrap64 (t185 - t176))) 0) (shr .u64 t175 (mx (mx (wrap64 (t184 - 24)) (wrap64 (t185 - t176))) 0)) false t173 t174 t175 t176)) else (bits_Narrow.j0 k (mx (mx (wrap64 (t184 - 24)) (wrap64 (t185 - t176))) 0) (shr .u64 t175 (mx (mx (wrap64 (t184 - 24)) (wrap64 (t185 - t176))) 0)) false t173 t174 t175 t176)))))))) = some (r1, r2, r3) := by rw [if_pos (show (none : Option Int).isNone = true by rfl)] at H; exact H
    clear H
    have H := H1
    clear H1
    try simp only [errW_none, errW_some]
    replace H := Option.bind_eq_some_iff.mp H
    obtain ⟨⟨t180, t181⟩, A30, H⟩ := H
    replace H : (if t181.isNone = true then (some (t180, (t174 != 4), none)) else ((bits_Len64.f t175).bind fun t184 => ((bits_format_least.f 23 8).bind fun t185 => (if (mx (mx (wrap64 (t184 - 24)) (wrap64 (t185 - t176))) 0) > 63 then ((bits_Zero.f k t173 32).bind fun bt186 => (some (bt186.1, false, none))) else (if (Go.bits .and .u64 t175 (IntKind.u64.wrap ((shl .u64 1 (mx (mx (wrap64 (t184 - 24)) (wrap64 (t185 - t176))) 0)) - 1))) > ((shl .u64 1 (mx (mx (wrap64 (t184 - 24)) (wrap64 (t185 - t176))) 0)) / 2) then (bits_Narrow.j0 k (mx (mx (wrap64 (t184 - 24)) (wrap64 (t185 - t176))) 0) (shr .u64 t175 (mx (mx (wrap64 (t184 - 24)) (wrap64 (t185 - t176))) 0)) true t173 t174 t175 t176) else (if (Go.bits .and .u64 t175 (IntKind.u64.wrap ((shl .u64 1 (mx (mx (wrap64 (t184 - 24)) (wrap64 (t185 - t176))) 0)) - 1))) = ((shl .u64 1 (mx (mx (wrap64 (t184 - 24)) (wrap64 (t185 - t176))) 0)) / 2) then (if (Go.bits .and .u64 t175 (IntKind.u64.wrap ((shl .u64 1 (mx (mx (wrap64 (t184 - 24)) (wrap64 (t185 - t176))) 0)) - 1))) > 0 then (bits_Narrow.j0 k (mx (mx (wrap64 (t184 - 24)) (wrap64 (t185 - t176))) 0) (shr .u64 t175 (mx (mx (wrap64 (t184 - 24)) (wrap64 (t185 - t176))) 0)) ((Int.tmod (shr .u64 t175 (mx (mx (wrap64 (t184 - 24)) (wrap64 (t185 - t176))) 0)) 2) == 1) t173 t174 t175 t176) else (bits_Narrow.j0 k (mx (mx (wrap64 (t184 - 24)) (wrap64 (t185 - t176))) 0) (shr .u64 t175 (mx (mx (wrap64 (t184 - 24)) (wrap64 (t185 - t176))) 0)) false t173 t174 t175 t176)) else (bits_Narrow.j0 k (mx (mx (wrap64 (t184 - 24)) (wrap64 (t185 - t176))) 0) (shr .u64 t175 (mx (mx (wrap64 (t184 - 24)) (wrap64 (t185 - t176))) 0)) false t173 t174 t175 t176))))))) = some (r1, r2, r3) := H
    have A3 := Aside0.mk A30
    clear A30
    rcases t181 with _ | q182
    · have H1 : (some (t180, (t174 != 4), none)) = some (r1, r2, r3) := by rw [if_pos (show (none : Option Int).isNone = true by rfl)] at H; exact H
      clear H
      have H := H1
      clear H1
      try simp only [errW_none, errW_some]
      simp only [Option.some.injEq, Prod.mk.injEq] at H
      obtain ⟨rfl, rfl, rfl⟩ := H
      go_enter Tryd.func17, Tryd.ntmps17
      try go_wp2_with (first | ((with_reducible refine gate_callee (f := 9) rfl ?_); refine goesL_ (some 16) rfl rfl Tryd.func9 (by kernel_rfl) rfl #[.int .u64 a0, .int .i64 64] rfl (by (try simp only [List.map_toArray, List.map_cons, List.map_nil]); first | done | rfl | (simp only [List.length_drop, List.length_take]; rfl)) ?_; (with_reducible refine (bits_Unpack.calls a0 64 t173 t174 t175 t176 none _ A2.out).mono ?_); rintro e w4 ⟨rfl, hb⟩; refine ⟨_, rfl, ?_⟩; have n0_ := Aside0.mk (below_step (by repeat (first | (with_reducible first | exact HB.out | apply below_alloc | apply pw_below_drewN | apply below_drew1) | exact HB.out)) hb); clear HB; have HB := n0_; clear n0_; (try clear hb); (try clear hb2); (try clear hk); (try clear hi); (try simp only [errW_none, errW_some])) | ((with_reducible refine gate_dst (N := 5) rfl ?_); refine box_event ?hg (N := 5) ?hd (cs := #[.bool false, .int .i64 0, .int .u64 0, .int .i64 0]) (t := 24) ?hr ?_; (case hd => rfl); (case hg => rfl); (case hr => first | (go_simp; done) | (go_simp; rfl)); intro gb178 hg w5 hbox hb; have n0_ := Aside0.mk (below_step (by repeat (first | (with_reducible first | exact HB.out | apply below_alloc | apply pw_below_drewN | apply below_drew1) | exact HB.out)) hb); have n1_ := Aside0.mk (hbox); have n2_ := Aside0.mk ((by rw [hg]; exact (below_size (by repeat (first | (with_reducible first | exact HB.out | apply below_alloc | apply pw_below_drewN | apply below_drew1) | exact HB.out))) : w.heap.size ≤ gb178)); have n3_ := Aside0.mk ((by rw [hg]; exact (below_size (by repeat (first | (with_reducible first | exact HB.out | apply below_alloc | apply pw_below_drewN | apply below_drew1) | exact HB.out))) : w.heap.size ≤ gb178)); clear HB; have HB := n0_; have BK178 := n1_; have GW178 := n2_; have GE178 := n3_; clear n0_ n1_ n2_ n3_; clear hb hbox hg; have hcz6_0 : w5.cell? ⟨gb178, 0, none⟩ = some (.bool false) := (blk_cell BK178.out 0).trans rfl; have hcz6_1 : w5.cell? ⟨gb178, 1, none⟩ = some (.int .i64 0) := (blk_cell BK178.out 1).trans rfl; have hcz6_2 : w5.cell? ⟨gb178, 2, none⟩ = some (.int .u64 0) := (blk_cell BK178.out 2).trans rfl; have hcz6_3 : w5.cell? ⟨gb178, 3, none⟩ = some (.int .i64 0) := (blk_cell BK178.out 3).trans rfl; have hfz6_0 := blk_frozen BK178.out 0; have hfz6_1 := blk_frozen BK178.out 1; have hfz6_2 := blk_frozen BK178.out 2; have hfz6_3 := blk_frozen BK178.out 3) | ((with_reducible refine gate_callee (f := 11) rfl ?_); refine goesL_ (some 24) rfl rfl Tryd.func11 (by kernel_rfl) rfl #[.agg #[.bool t173, .int .i64 t174, .int .u64 t175, .int .i64 t176], .int .i64 32] rfl (by (try simp only [List.map_toArray, List.map_cons, List.map_nil]); first | done | rfl | (simp only [List.length_drop, List.length_take]; rfl)) ?_; (with_reducible refine (bits_Pack.calls k t173 t174 t175 t176 32 t180 none _ ?side1 A3.out).mono ?_); (case side1 => exact Laid_DB64.of_below HL_DB64.out (by repeat (first | (with_reducible first | exact HB.out | apply below_alloc | apply pw_below_drewN | apply below_drew1 | refine below_set ?_ GE178.out) | exact HB.out))); rintro e w7 ⟨rfl, hb⟩; refine ⟨_, rfl, ?_⟩; have n0_ := Aside0.mk (blk_below (g := gb178) (o := .cells #[.bool t173, .int .i64 t174, .int .u64 t175, .int .i64 t176] 24 (0, 0)) (by (with_reducible repeat (first | refine blk_drewN ?_ _ | refine blk_drew ?_ | refine blk_alloc ?_ _)); refine blk_put (cs := #[.bool t173, .int .i64 t174, .int .u64 t175, .int .i64 0]) ?_ 3 _ rfl; (with_reducible repeat (first | refine blk_drewN ?_ _ | refine blk_drew ?_ | refine blk_alloc ?_ _)); refine blk_put (cs := #[.bool t173, .int .i64 t174, .int .u64 0, .int .i64 0]) ?_ 2 _ rfl; (with_reducible repeat (first | refine blk_drewN ?_ _ | refine blk_drew ?_ | refine blk_alloc ?_ _)); refine blk_put (cs := #[.bool t173, .int .i64 0, .int .u64 0, .int .i64 0]) ?_ 1 _ rfl; (with_reducible repeat (first | refine blk_drewN ?_ _ | refine blk_drew ?_ | refine blk_alloc ?_ _)); refine blk_put (cs := #[.bool false, .int .i64 0, .int .u64 0, .int .i64 0]) ?_ 0 _ rfl; (with_reducible repeat (first | refine blk_drewN ?_ _ | refine blk_drew ?_ | refine blk_alloc ?_ _)); exact BK178.out) hb); have n1_ := Aside0.mk (below_step (by repeat (first | (with_reducible first | exact HB.out | apply below_alloc | apply pw_below_drewN | apply below_drew1 | refine below_set ?_ GE178.out) | exact HB.out)) hb); clear BK178; clear HB; have BK178 := n0_; have HB := n1_; clear n0_ n1_; (try clear hb); (try clear hb2); (try clear hk); (try clear hi); (try simp only [errW_none, errW_some])))
      have n0_ := Aside0.mk (blk_drew BK178.out)
      have n1_ := Aside0.mk (below_drew1 HB.out)
      clear BK178
      clear HB
      have BK178 := n0_
      have HB := n1_
      clear n0_ n1_
      refine start_ (n := 7) (S := fun w' => w'.cell? ⟨gb178, 0, none⟩ = some (.bool t173) ∧ w'.cell? ⟨gb178, 1, none⟩ = some (.int .i64 t174) ∧ w'.cell? ⟨gb178, 2, none⟩ = some (.int .u64 t175) ∧ w'.cell? ⟨gb178, 3, none⟩ = some (.int .i64 t176)) (ds := []) #[false, false, false, false, false, false, false] (by kernel_rfl) rfl rfl ⟨(blk_cell BK178.out 0).trans rfl, (blk_cell BK178.out 1).trans rfl, (blk_cell BK178.out 2).trans rfl, (blk_cell BK178.out 3).trans rfl⟩ (fun hHeld => ?_)
      generalize w7.drew = w8 at BK178 HB hHeld ⊢
      refine pure_ (i := 0) (N := some 29) (v := ?_) (a' := ?_) #[true, false, false, false, false, false, false] rfl rfl (by kernel_rfl) (fun _ _ _ h => h) (Or.inl ⟨by rfl, ?_⟩) ?_ ?_
      rotate_left
      · intro w'
        go_simp
        with_reducible rfl
      rotate_left
      · simp only [Act.put, List.setIfInBounds_toArray, List.set_cons_zero, List.set_cons_succ, i64_w, i32_w]
        rfl
      refine pure_ (i := 1) (N := some 30) (v := ?_) (a' := ?_) #[true, true, false, false, false, false, false] rfl rfl (by kernel_rfl) (fun _ _ _ h => h) (Or.inl ⟨by rfl, ?_⟩) ?_ ?_
      rotate_left
      · intro w'
        go_simp
        with_reducible rfl
      rotate_left
      · simp only [Act.put, List.setIfInBounds_toArray, List.set_cons_zero, List.set_cons_succ, i64_w, i32_w]
        rfl
      refine pure_ (i := 4) (N := some 2) (v := ?_) (a' := ?_) #[true, true, false, false, true, false, false] rfl rfl (by kernel_rfl) (fun _ _ _ h => h) (Or.inl ⟨by rfl, ?_⟩) ?_ ?_
      rotate_left
      · intro w'
        go_simp
        with_reducible rfl
      rotate_left
      · simp only [Act.put, List.setIfInBounds_toArray, List.set_cons_zero, List.set_cons_succ, i64_w, i32_w]
        rfl
      refine take_ (i := 2) (N := some 31) (v := ?_) (a' := ?_) #[true, true, true, false, true, false, false] rfl rfl (by kernel_rfl) (fun _ _ _ h => h) (Or.inl ⟨by rfl, ?_⟩) hHeld ?_ ?_
      rotate_left
      · rintro w' ⟨s0, s1, s2, s3⟩
        go_simp
        with_reducible rfl
      rotate_left
      · simp only [Act.put, List.setIfInBounds_toArray, List.set_cons_zero, List.set_cons_succ, i64_w, i32_w]
        rfl
      refine pure_ (i := 3) (N := some 32) (v := ?_) (a' := ?_) #[true, true, true, true, true, false, false] rfl rfl (by kernel_rfl) (fun _ _ _ h => h) (Or.inl ⟨by rfl, ?_⟩) ?_ ?_
      rotate_left
      · intro w'
        go_simp
        with_reducible rfl
      rotate_left
      · simp only [Act.put, List.setIfInBounds_toArray, List.set_cons_zero, List.set_cons_succ, i64_w, i32_w]
        rfl
      refine pure_ (i := 5) (N := some 3) (v := ?_) (a' := ?_) #[true, true, true, true, true, true, false] rfl rfl (by kernel_rfl) (fun _ _ _ h => h) (Or.inl ⟨by rfl, ?_⟩) ?_ ?_
      rotate_left
      · intro w'
        go_simp
        with_reducible rfl
      rotate_left
      · simp only [Act.put, List.setIfInBounds_toArray, List.set_cons_zero, List.set_cons_succ, i64_w, i32_w]
        rfl
      refine pure_ (i := 6) (N := some 4) (v := ?_) (a' := ?_) #[true, true, true, true, true, true, true] rfl rfl (by kernel_rfl) (fun _ _ _ h => h) (Or.inl ⟨by rfl, ?_⟩) ?_ ?_
      rotate_left
      · intro w'
        go_simp
        with_reducible rfl
      rotate_left
      · simp only [Act.put, List.setIfInBounds_toArray, List.set_cons_zero, List.set_cons_succ, i64_w, i32_w]
        rfl
      refine done_ (by kernel_rfl) ?_
      try go_wp2
      go_ret3
      exact ⟨by first | rfl | (simp [errW_none, errW_some] <;> rfl) | (simp [*, errW_none, errW_some] <;> rfl), by repeat (first | (with_reducible first | exact HB.out | apply below_alloc | apply pw_below_drewN | apply below_drew1 | refine below_set ?_ GE178.out) | exact HB.out)⟩
    · have H1 : ((bits_Len64.f t175).bind fun t184 => ((bits_format_least.f 23 8).bind fun t185 => (if (mx (mx (wrap64 (t184 - 24)) (wrap64 (t185 - t176))) 0) > 63 then ((bits_Zero.f k t173 32).bind fun bt186 => (some (bt186.1, false, none))) else (if (Go.bits .and .u64 t175 (IntKind.u64.wrap ((shl .u64 1 (mx (mx (wrap64 (t184 - 24)) (wrap64 (t185 - t176))) 0)) - 1))) > ((shl .u64 1 (mx (mx (wrap64 (t184 - 24)) (wrap64 (t185 - t176))) 0)) / 2) then (bits_Narrow.j0 k (mx (mx (wrap64 (t184 - 24)) (wrap64 (t185 - t176))) 0) (shr .u64 t175 (mx (mx (wrap64 (t184 - 24)) (wrap64 (t185 - t176))) 0)) true t173 t174 t175 t176) else (if (Go.bits .and .u64 t175 (IntKind.u64.wrap ((shl .u64 1 (mx (mx (wrap64 (t184 - 24)) (wrap64 (t185 - t176))) 0)) - 1))) = ((shl .u64 1 (mx (mx (wrap64 (t184 - 24)) (wrap64 (t185 - t176))) 0)) / 2) then (if (Go.bits .and .u64 t175 (IntKind.u64.wrap ((shl .u64 1 (mx (mx (wrap64 (t184 - 24)) (wrap64 (t185 - t176))) 0)) - 1))) > 0 then (bits_Narrow.j0 k (mx (mx (wrap64 (t184 - 24)) (wrap64 (t185 - t176))) 0) (shr .u64 t175 (mx (mx (wrap64 (t184 - 24)) (wrap64 (t185 - t176))) 0)) ((Int.tmod (shr .u64 t175 (mx (mx (wrap64 (t184 - 24)) (wrap64 (t185 - t176))) 0)) 2) == 1) t173 t174 t175 t176) else (bits_Narrow.j0 k (mx (mx (wrap64 (t184 - 24)) (wrap64 (t185 - t176))) 0) (shr .u64 t175 (mx (mx (wrap64 (t184 - 24)) (wrap64 (t185 - t176))) 0)) false t173 t174 t175 t176)) else (bits_Narrow.j0 k (mx (mx (wrap64 (t184 - 24)) (wrap64 (t185 - t176))) 0) (shr .u64 t175 (mx (mx (wrap64 (t184 - 24)) (wrap64 (t185 - t176))) 0)) false t173 t174 t175 t176)))))) = some (r1, r2, r3) := by rw [if_neg (show ¬ (some q182).isNone = true by simp)] at H; exact H
      clear H
      have H := H1
      clear H1
      try simp only [errW_none, errW_some]
      replace H := Option.bind_eq_some_iff.mp H
      obtain ⟨t184, A90, H⟩ := H
      replace H : ((bits_format_least.f 23 8).bind fun t185 => (if (mx (mx (wrap64 (t184 - 24)) (wrap64 (t185 - t176))) 0) > 63 then ((bits_Zero.f k t173 32).bind fun bt186 => (some (bt186.1, false, none))) else (if (Go.bits .and .u64 t175 (IntKind.u64.wrap ((shl .u64 1 (mx (mx (wrap64 (t184 - 24)) (wrap64 (t185 - t176))) 0)) - 1))) > ((shl .u64 1 (mx (mx (wrap64 (t184 - 24)) (wrap64 (t185 - t176))) 0)) / 2) then (bits_Narrow.j0 k (mx (mx (wrap64 (t184 - 24)) (wrap64 (t185 - t176))) 0) (shr .u64 t175 (mx (mx (wrap64 (t184 - 24)) (wrap64 (t185 - t176))) 0)) true t173 t174 t175 t176) else (if (Go.bits .and .u64 t175 (IntKind.u64.wrap ((shl .u64 1 (mx (mx (wrap64 (t184 - 24)) (wrap64 (t185 - t176))) 0)) - 1))) = ((shl .u64 1 (mx (mx (wrap64 (t184 - 24)) (wrap64 (t185 - t176))) 0)) / 2) then (if (Go.bits .and .u64 t175 (IntKind.u64.wrap ((shl .u64 1 (mx (mx (wrap64 (t184 - 24)) (wrap64 (t185 - t176))) 0)) - 1))) > 0 then (bits_Narrow.j0 k (mx (mx (wrap64 (t184 - 24)) (wrap64 (t185 - t176))) 0) (shr .u64 t175 (mx (mx (wrap64 (t184 - 24)) (wrap64 (t185 - t176))) 0)) ((Int.tmod (shr .u64 t175 (mx (mx (wrap64 (t184 - 24)) (wrap64 (t185 - t176))) 0)) 2) == 1) t173 t174 t175 t176) else (bits_Narrow.j0 k (mx (mx (wrap64 (t184 - 24)) (wrap64 (t185 - t176))) 0) (shr .u64 t175 (mx (mx (wrap64 (t184 - 24)) (wrap64 (t185 - t176))) 0)) false t173 t174 t175 t176)) else (bits_Narrow.j0 k (mx (mx (wrap64 (t184 - 24)) (wrap64 (t185 - t176))) 0) (shr .u64 t175 (mx (mx (wrap64 (t184 - 24)) (wrap64 (t185 - t176))) 0)) false t173 t174 t175 t176))))) = some (r1, r2, r3) := H
      have A9 := Aside0.mk A90
      clear A90
      replace H := Option.bind_eq_some_iff.mp H
      obtain ⟨t185, A100, H⟩ := H
      replace H : (if (mx (mx (wrap64 (t184 - 24)) (wrap64 (t185 - t176))) 0) > 63 then ((bits_Zero.f k t173 32).bind fun bt186 => (some (bt186.1, false, none))) else (if (Go.bits .and .u64 t175 (IntKind.u64.wrap ((shl .u64 1 (mx (mx (wrap64 (t184 - 24)) (wrap64 (t185 - t176))) 0)) - 1))) > ((shl .u64 1 (mx (mx (wrap64 (t184 - 24)) (wrap64 (t185 - t176))) 0)) / 2) then (bits_Narrow.j0 k (mx (mx (wrap64 (t184 - 24)) (wrap64 (t185 - t176))) 0) (shr .u64 t175 (mx (mx (wrap64 (t184 - 24)) (wrap64 (t185 - t176))) 0)) true t173 t174 t175 t176) else (if (Go.bits .and .u64 t175 (IntKind.u64.wrap ((shl .u64 1 (mx (mx (wrap64 (t184 - 24)) (wrap64 (t185 - t176))) 0)) - 1))) = ((shl .u64 1 (mx (mx (wrap64 (t184 - 24)) (wrap64 (t185 - t176))) 0)) / 2) then (if (Go.bits .and .u64 t175 (IntKind.u64.wrap ((shl .u64 1 (mx (mx (wrap64 (t184 - 24)) (wrap64 (t185 - t176))) 0)) - 1))) > 0 then (bits_Narrow.j0 k (mx (mx (wrap64 (t184 - 24)) (wrap64 (t185 - t176))) 0) (shr .u64 t175 (mx (mx (wrap64 (t184 - 24)) (wrap64 (t185 - t176))) 0)) ((Int.tmod (shr .u64 t175 (mx (mx (wrap64 (t184 - 24)) (wrap64 (t185 - t176))) 0)) 2) == 1) t173 t174 t175 t176) else (bits_Narrow.j0 k (mx (mx (wrap64 (t184 - 24)) (wrap64 (t185 - t176))) 0) (shr .u64 t175 (mx (mx (wrap64 (t184 - 24)) (wrap64 (t185 - t176))) 0)) false t173 t174 t175 t176)) else (bits_Narrow.j0 k (mx (mx (wrap64 (t184 - 24)) (wrap64 (t185 - t176))) 0) (shr .u64 t175 (mx (mx (wrap64 (t184 - 24)) (wrap64 (t185 - t176))) 0)) false t173 t174 t175 t176)))) = some (r1, r2, r3) := H
      have A10 := Aside0.mk A100
      clear A100
      obtain ⟨ji11, hji11⟩ : ∃ j_ : Int, (mx (wrap64 (t184 - 24)) (wrap64 (t185 - t176))) = j_ := ⟨_, rfl⟩
      replace H : (if (mx (ji11) 0) > 63 then ((bits_Zero.f k t173 32).bind fun bt186 => (some (bt186.1, false, none))) else (if (Go.bits .and .u64 t175 (IntKind.u64.wrap ((shl .u64 1 (mx (ji11) 0)) - 1))) > ((shl .u64 1 (mx (ji11) 0)) / 2) then (bits_Narrow.j0 k (mx (ji11) 0) (shr .u64 t175 (mx (ji11) 0)) true t173 t174 t175 t176) else (if (Go.bits .and .u64 t175 (IntKind.u64.wrap ((shl .u64 1 (mx (ji11) 0)) - 1))) = ((shl .u64 1 (mx (ji11) 0)) / 2) then (if (Go.bits .and .u64 t175 (IntKind.u64.wrap ((shl .u64 1 (mx (ji11) 0)) - 1))) > 0 then (bits_Narrow.j0 k (mx (ji11) 0) (shr .u64 t175 (mx (ji11) 0)) ((Int.tmod (shr .u64 t175 (mx (ji11) 0)) 2) == 1) t173 t174 t175 t176) else (bits_Narrow.j0 k (mx (ji11) 0) (shr .u64 t175 (mx (ji11) 0)) false t173 t174 t175 t176)) else (bits_Narrow.j0 k (mx (ji11) 0) (shr .u64 t175 (mx (ji11) 0)) false t173 t174 t175 t176)))) = some (r1, r2, r3) := by first | (rw [hji11] at H; exact H) | (simp only [hji11] at H ⊢; exact H)
      (try rw [hji11] at A2)
      (try rw [hji11] at A3)
      (try rw [hji11] at A9)
      (try rw [hji11] at A10)
      have hji11_ : (if (wrap64 (t184 - 24)) < (wrap64 (t185 - t176)) then (wrap64 (t185 - t176)) else (wrap64 (t184 - 24))) = ji11 := hji11
      obtain ⟨ji12, hji12⟩ : ∃ j_ : Int, (mx (ji11) 0) = j_ := ⟨_, rfl⟩
      replace H : (if (ji12) > 63 then ((bits_Zero.f k t173 32).bind fun bt186 => (some (bt186.1, false, none))) else (if (Go.bits .and .u64 t175 (IntKind.u64.wrap ((shl .u64 1 (ji12)) - 1))) > ((shl .u64 1 (ji12)) / 2) then (bits_Narrow.j0 k ji12 (shr .u64 t175 (ji12)) true t173 t174 t175 t176) else (if (Go.bits .and .u64 t175 (IntKind.u64.wrap ((shl .u64 1 (ji12)) - 1))) = ((shl .u64 1 (ji12)) / 2) then (if (Go.bits .and .u64 t175 (IntKind.u64.wrap ((shl .u64 1 (ji12)) - 1))) > 0 then (bits_Narrow.j0 k ji12 (shr .u64 t175 (ji12)) ((Int.tmod (shr .u64 t175 (ji12)) 2) == 1) t173 t174 t175 t176) else (bits_Narrow.j0 k ji12 (shr .u64 t175 (ji12)) false t173 t174 t175 t176)) else (bits_Narrow.j0 k ji12 (shr .u64 t175 (ji12)) false t173 t174 t175 t176)))) = some (r1, r2, r3) := by first | (rw [hji12] at H; exact H) | (simp only [hji12] at H ⊢; exact H)
      (try rw [hji12] at A2)
      (try rw [hji12] at A3)
      (try rw [hji12] at A9)
      (try rw [hji12] at A10)
      (try (have hji12l : 0 ≤ ji12 := by (rw [← hji12]; unfold mx; (repeat' split) <;> omega)))
      (try (have hji12m : 0 ≤ ji12 := by omega))
      have hji12_ : (if (ji11) < 0 then 0 else (ji11)) = ji12 := hji12
      by_cases c13 : (ji12) > 63
      · rw [if_pos c13] at H
        have c13b0 : decide (63 < (ji12)) = true := decide_eq_true c13
        clear c13
        replace H := Option.bind_eq_some_iff.mp H
        obtain ⟨⟨t186, t187⟩, A140, H⟩ := H
        replace H : (some (t186, false, none)) = some (r1, r2, r3) := H
        have A14 := Aside0.mk A140
        clear A140
        simp only [Option.some.injEq, Prod.mk.injEq] at H
        obtain ⟨rfl, rfl, rfl⟩ := H
        go_enter Tryd.func17, Tryd.ntmps17
        try go_wp2_with (first | ((with_reducible refine gate_callee (f := 9) rfl ?_); refine goesL_ (some 16) rfl rfl Tryd.func9 (by kernel_rfl) rfl #[.int .u64 a0, .int .i64 64] rfl (by (try simp only [List.map_toArray, List.map_cons, List.map_nil]); first | done | rfl | (simp only [List.length_drop, List.length_take]; rfl)) ?_; (with_reducible refine (bits_Unpack.calls a0 64 t173 t174 t175 t176 none _ A2.out).mono ?_); rintro e w15 ⟨rfl, hb⟩; refine ⟨_, rfl, ?_⟩; have n0_ := Aside0.mk (below_step (by repeat (first | (with_reducible first | exact HB.out | apply below_alloc | apply pw_below_drewN | apply below_drew1) | exact HB.out)) hb); clear HB; have HB := n0_; clear n0_; (try clear hb); (try clear hb2); (try clear hk); (try clear hi); (try simp only [errW_none, errW_some])) | ((with_reducible refine gate_dst (N := 5) rfl ?_); refine box_event ?hg (N := 5) ?hd (cs := #[.bool false, .int .i64 0, .int .u64 0, .int .i64 0]) (t := 24) ?hr ?_; (case hd => rfl); (case hg => rfl); (case hr => first | (go_simp; done) | (go_simp; rfl)); intro gb178 hg w16 hbox hb; have n0_ := Aside0.mk (below_step (by repeat (first | (with_reducible first | exact HB.out | apply below_alloc | apply pw_below_drewN | apply below_drew1) | exact HB.out)) hb); have n1_ := Aside0.mk (hbox); have n2_ := Aside0.mk ((by rw [hg]; exact (below_size (by repeat (first | (with_reducible first | exact HB.out | apply below_alloc | apply pw_below_drewN | apply below_drew1) | exact HB.out))) : w.heap.size ≤ gb178)); have n3_ := Aside0.mk ((by rw [hg]; exact (below_size (by repeat (first | (with_reducible first | exact HB.out | apply below_alloc | apply pw_below_drewN | apply below_drew1) | exact HB.out))) : w.heap.size ≤ gb178)); clear HB; have HB := n0_; have BK178 := n1_; have GW178 := n2_; have GE178 := n3_; clear n0_ n1_ n2_ n3_; clear hb hbox hg; have hcz17_0 : w16.cell? ⟨gb178, 0, none⟩ = some (.bool false) := (blk_cell BK178.out 0).trans rfl; have hcz17_1 : w16.cell? ⟨gb178, 1, none⟩ = some (.int .i64 0) := (blk_cell BK178.out 1).trans rfl; have hcz17_2 : w16.cell? ⟨gb178, 2, none⟩ = some (.int .u64 0) := (blk_cell BK178.out 2).trans rfl; have hcz17_3 : w16.cell? ⟨gb178, 3, none⟩ = some (.int .i64 0) := (blk_cell BK178.out 3).trans rfl; have hfz17_0 := blk_frozen BK178.out 0; have hfz17_1 := blk_frozen BK178.out 1; have hfz17_2 := blk_frozen BK178.out 2; have hfz17_3 := blk_frozen BK178.out 3) | ((with_reducible refine gate_callee (f := 11) rfl ?_); refine goesL_ (some 24) rfl rfl Tryd.func11 (by kernel_rfl) rfl #[.agg #[.bool t173, .int .i64 t174, .int .u64 t175, .int .i64 t176], .int .i64 32] rfl (by (try simp only [List.map_toArray, List.map_cons, List.map_nil]); first | done | rfl | (simp only [List.length_drop, List.length_take]; rfl)) ?_; (with_reducible refine (bits_Pack.calls k t173 t174 t175 t176 32 t180 (some q182) _ ?side1 A3.out).mono ?_); (case side1 => exact Laid_DB64.of_below HL_DB64.out (by repeat (first | (with_reducible first | exact HB.out | apply below_alloc | apply pw_below_drewN | apply below_drew1 | refine below_set ?_ GE178.out) | exact HB.out))); rintro e w18 ⟨rfl, hb⟩; refine ⟨_, rfl, ?_⟩; have n0_ := Aside0.mk (blk_below (g := gb178) (o := .cells #[.bool t173, .int .i64 t174, .int .u64 t175, .int .i64 t176] 24 (0, 0)) (by (with_reducible repeat (first | refine blk_drewN ?_ _ | refine blk_drew ?_ | refine blk_alloc ?_ _)); refine blk_put (cs := #[.bool t173, .int .i64 t174, .int .u64 t175, .int .i64 0]) ?_ 3 _ rfl; (with_reducible repeat (first | refine blk_drewN ?_ _ | refine blk_drew ?_ | refine blk_alloc ?_ _)); refine blk_put (cs := #[.bool t173, .int .i64 t174, .int .u64 0, .int .i64 0]) ?_ 2 _ rfl; (with_reducible repeat (first | refine blk_drewN ?_ _ | refine blk_drew ?_ | refine blk_alloc ?_ _)); refine blk_put (cs := #[.bool t173, .int .i64 0, .int .u64 0, .int .i64 0]) ?_ 1 _ rfl; (with_reducible repeat (first | refine blk_drewN ?_ _ | refine blk_drew ?_ | refine blk_alloc ?_ _)); refine blk_put (cs := #[.bool false, .int .i64 0, .int .u64 0, .int .i64 0]) ?_ 0 _ rfl; (with_reducible repeat (first | refine blk_drewN ?_ _ | refine blk_drew ?_ | refine blk_alloc ?_ _)); exact BK178.out) hb); have n1_ := Aside0.mk (below_step (by repeat (first | (with_reducible first | exact HB.out | apply below_alloc | apply pw_below_drewN | apply below_drew1 | refine below_set ?_ GE178.out) | exact HB.out)) hb); clear BK178; clear HB; have BK178 := n0_; have HB := n1_; clear n0_ n1_; (try clear hb); (try clear hb2); (try clear hk); (try clear hi); (try simp only [errW_none, errW_some])) | ((with_reducible refine gate_dst (N := 8) rfl ?_); refine box_event ?hg (N := 8) ?hd (cs := #[.int .i64 0, .int .i64 0]) (t := 65) ?hr ?_; (case hd => rfl); (case hg => rfl); (case hr => first | (go_simp; done) | (go_simp; rfl)); intro gb183 hg w19 hbox hb; have n0_ := Aside0.mk (blk_below (g := gb178) (o := .cells #[.bool t173, .int .i64 t174, .int .u64 t175, .int .i64 t176] 24 (0, 0)) (by (with_reducible repeat (first | refine blk_drewN ?_ _ | refine blk_drew ?_ | refine blk_alloc ?_ _)); exact BK178.out) hb); have n1_ := Aside0.mk (below_step (by repeat (first | (with_reducible first | exact HB.out | apply below_alloc | apply pw_below_drewN | apply below_drew1 | refine below_set ?_ GE178.out) | exact HB.out)) hb); have n2_ := Aside0.mk (hbox); have n3_ := Aside0.mk ((by rw [hg]; exact (below_size (by repeat (first | (with_reducible first | exact HB.out | apply below_alloc | apply pw_below_drewN | apply below_drew1 | refine below_set ?_ GE178.out) | exact HB.out))) : w.heap.size ≤ gb183)); have n4_ := Aside0.mk ((by rw [hg]; exact (below_size (by repeat (first | (with_reducible first | exact HB.out | apply below_alloc | apply pw_below_drewN | apply below_drew1 | refine below_set ?_ GE178.out) | exact HB.out))) : w.heap.size ≤ gb183)); have n5_ := Aside0.mk ((by rw [hg]; exact Nat.ne_of_lt (blk_lt (g := gb178) (o := .cells #[.bool t173, .int .i64 t174, .int .u64 t175, .int .i64 t176] 24 (0, 0)) (by (with_reducible repeat (first | refine blk_drewN ?_ _ | refine blk_drew ?_ | refine blk_alloc ?_ _)); exact BK178.out)) : gb178 ≠ gb183)); have n6_ := Aside0.mk ((by rw [hg]; exact Nat.ne_of_gt (blk_lt (g := gb178) (o := .cells #[.bool t173, .int .i64 t174, .int .u64 t175, .int .i64 t176] 24 (0, 0)) (by (with_reducible repeat (first | refine blk_drewN ?_ _ | refine blk_drew ?_ | refine blk_alloc ?_ _)); exact BK178.out)) : gb183 ≠ gb178)); clear BK178; clear HB; have BK178 := n0_; have HB := n1_; have BK183 := n2_; have GW183 := n3_; have GE183 := n4_; have NB178_183 := n5_; have NB183_178 := n6_; clear n0_ n1_ n2_ n3_ n4_ n5_ n6_; clear hb hbox hg; have hnb20 := NB183_178.out; have hnc20 := NB178_183.out; have hcz21_0 : w19.cell? ⟨gb183, 0, none⟩ = some (.int .i64 0) := (blk_cell BK183.out 0).trans rfl; have hcz21_1 : w19.cell? ⟨gb183, 1, none⟩ = some (.int .i64 0) := (blk_cell BK183.out 1).trans rfl; have hfz21_0 := blk_frozen BK183.out 0; have hfz21_1 := blk_frozen BK183.out 1))
        have n0_ : Aside0 (((w19.setCell ⟨gb183, 0, none⟩ (.int .i64 23)).setCell ⟨gb183, 1, none⟩ (.int .i64 8)).heap[gb178]? = some (.cells #[.bool t173, .int .i64 t174, .int .u64 t175, .int .i64 t176] 24 (0, 0))) := ⟨by (with_reducible repeat (first | refine blk_drewN ?_ _ | refine blk_drew ?_ | refine blk_alloc ?_ _)); refine blk_far ?_ NB178_183.out _; (with_reducible repeat (first | refine blk_drewN ?_ _ | refine blk_drew ?_ | refine blk_alloc ?_ _)); refine blk_far ?_ NB178_183.out _; (with_reducible repeat (first | refine blk_drewN ?_ _ | refine blk_drew ?_ | refine blk_alloc ?_ _)); exact BK178.out⟩
        have n1_ : Aside0 (((w19.setCell ⟨gb183, 0, none⟩ (.int .i64 23)).setCell ⟨gb183, 1, none⟩ (.int .i64 8)).heap[gb183]? = some (.cells #[.int .i64 23, .int .i64 8] 65 (0, 0))) := ⟨by (with_reducible repeat (first | refine blk_drewN ?_ _ | refine blk_drew ?_ | refine blk_alloc ?_ _)); refine blk_put (cs := #[.int .i64 23, .int .i64 0]) ?_ 1 _ rfl; (with_reducible repeat (first | refine blk_drewN ?_ _ | refine blk_drew ?_ | refine blk_alloc ?_ _)); refine blk_put (cs := #[.int .i64 0, .int .i64 0]) ?_ 0 _ rfl; (with_reducible repeat (first | refine blk_drewN ?_ _ | refine blk_drew ?_ | refine blk_alloc ?_ _)); exact BK183.out⟩
        have n2_ : Aside0 (Below w.heap.size w ((w19.setCell ⟨gb183, 0, none⟩ (.int .i64 23)).setCell ⟨gb183, 1, none⟩ (.int .i64 8))) := ⟨by repeat (first | (with_reducible first | exact HB.out | apply below_alloc | apply pw_below_drewN | apply below_drew1 | refine below_set ?_ GE178.out | refine below_set ?_ GE183.out) | exact HB.out)⟩
        (try clear BK178)
        (try clear BK183)
        (try clear HB)
        generalize ((w19.setCell ⟨gb183, 0, none⟩ (.int .i64 23)).setCell ⟨gb183, 1, none⟩ (.int .i64 8)) = w22 at n0_ n1_ n2_ ⊢
        have BK178 := n0_
        have BK183 := n1_
        have HB := n2_
        clear n0_ n1_ n2_
        have n0_ := Aside0.mk (blk_drew BK178.out)
        have n1_ := Aside0.mk (blk_drew BK183.out)
        have n2_ := Aside0.mk (below_drew1 HB.out)
        clear BK178
        clear BK183
        clear HB
        have BK178 := n0_
        have BK183 := n1_
        have HB := n2_
        clear n0_ n1_ n2_
        refine start_ (n := 14) (S := fun w' => w'.cell? ⟨gb178, 0, none⟩ = some (.bool t173) ∧ w'.cell? ⟨gb178, 1, none⟩ = some (.int .i64 t174) ∧ w'.cell? ⟨gb178, 2, none⟩ = some (.int .u64 t175) ∧ w'.cell? ⟨gb178, 3, none⟩ = some (.int .i64 t176) ∧ w'.cell? ⟨gb183, 0, none⟩ = some (.int .i64 23) ∧ w'.cell? ⟨gb183, 1, none⟩ = some (.int .i64 8)) (ds := []) #[false, false, false, false, false, false, false, false, false, false, false, false, false, false] (by kernel_rfl) rfl rfl ⟨(blk_cell BK178.out 0).trans rfl, (blk_cell BK178.out 1).trans rfl, (blk_cell BK178.out 2).trans rfl, (blk_cell BK178.out 3).trans rfl, (blk_cell BK183.out 0).trans rfl, (blk_cell BK183.out 1).trans rfl⟩ (fun hHeld => ?_); refine with_tabW bits_Narrow.tab8 bits_Narrow.bits8 (fun HT_ HW_ => ?_)
        generalize w22.drew = w23 at BK178 BK183 HB hHeld ⊢
        refine pure_ (i := 0) (N := some 34) (v := ?_) (a' := ?_) #[true, false, false, false, false, false, false, false, false, false, false, false, false, false] rfl rfl (any_of HT_.out (by kernel_rfl)) (fun _ _ _ h => h) (Or.inl ⟨by rfl, ?_⟩) ?_ ?_
        rotate_left
        · intro w'
          go_simp
          with_reducible rfl
        rotate_left
        · simp only [Act.put, List.setIfInBounds_toArray, List.set_cons_zero, List.set_cons_succ, i64_w, i32_w]
          rfl
        refine pure_ (i := 3) (N := some 37) (v := ?_) (a' := ?_) #[true, false, false, true, false, false, false, false, false, false, false, false, false, false] rfl rfl (any_of HT_.out (by kernel_rfl)) (fun _ _ _ h => h) (Or.inl ⟨by rfl, ?_⟩) ?_ ?_
        rotate_left
        · intro w'
          go_simp
          with_reducible rfl
        rotate_left
        · simp only [Act.put, List.setIfInBounds_toArray, List.set_cons_zero, List.set_cons_succ, i64_w, i32_w]
          rfl
        refine pure_ (i := 9) (N := some 43) (v := ?_) (a' := ?_) #[true, false, false, true, false, false, false, false, false, true, false, false, false, false] rfl rfl (any_of HT_.out (by kernel_rfl)) (fun _ _ _ h => h) (Or.inl ⟨by rfl, ?_⟩) ?_ ?_
        rotate_left
        · intro w'
          go_simp
          with_reducible rfl
        rotate_left
        · simp only [Act.put, List.setIfInBounds_toArray, List.set_cons_zero, List.set_cons_succ, i64_w, i32_w]
          rfl
        refine take_ (i := 1) (N := some 35) (v := ?_) (a' := ?_) #[true, true, false, true, false, false, false, false, false, true, false, false, false, false] rfl rfl (take_ofW HT_.out HW_.out (by kernel_rfl)) (fun _ _ _ h => h) (Or.inl ⟨by rfl, ?_⟩) hHeld ?_ ?_
        rotate_left
        · rintro w' ⟨s0, s1, s2, s3, s4, s5⟩
          go_simp
          with_reducible rfl
        rotate_left
        · simp only [Act.put, List.setIfInBounds_toArray, List.set_cons_zero, List.set_cons_succ, i64_w, i32_w]
          rfl
        refine take_ (i := 4) (N := some 38) (v := ?_) (a' := ?_) #[true, true, false, true, true, false, false, false, false, true, false, false, false, false] rfl rfl (take_ofW HT_.out HW_.out (by kernel_rfl)) (fun _ _ _ h => h) (Or.inl ⟨by rfl, ?_⟩) hHeld ?_ ?_
        rotate_left
        · rintro w' ⟨s0, s1, s2, s3, s4, s5⟩
          go_simp
          with_reducible rfl
        rotate_left
        · simp only [Act.put, List.setIfInBounds_toArray, List.set_cons_zero, List.set_cons_succ, i64_w, i32_w]
          rfl
        refine pure_ (i := 5) (N := some 39) (v := ?_) (a' := ?_) #[true, true, false, true, true, true, false, false, false, true, false, false, false, false] rfl rfl (any_of HT_.out (by kernel_rfl)) (fun _ _ _ h => h) (Or.inl ⟨by rfl, ?_⟩) ?_ ?_
        rotate_left
        · intro w'
          go_simp
          with_reducible rfl
        rotate_left
        · simp only [Act.put, List.setIfInBounds_toArray, List.set_cons_zero, List.set_cons_succ, i64_w, i32_w]
          rfl
        refine take_ (i := 7) (N := some 41) (v := ?_) (a' := ?_) #[true, true, false, true, true, true, false, true, false, true, false, false, false, false] rfl rfl (take_ofW HT_.out HW_.out (by kernel_rfl)) (fun _ _ _ h => h) (Or.inl ⟨by rfl, ?_⟩) hHeld ?_ ?_
        rotate_left
        · rintro w' ⟨s0, s1, s2, s3, s4, s5⟩
          go_simp
          with_reducible rfl
        rotate_left
        · simp only [Act.put, List.setIfInBounds_toArray, List.set_cons_zero, List.set_cons_succ, i64_w, i32_w]
          rfl
        refine take_ (i := 10) (N := some 44) (v := ?_) (a' := ?_) #[true, true, false, true, true, true, false, true, false, true, true, false, false, false] rfl rfl (take_ofW HT_.out HW_.out (by kernel_rfl)) (fun _ _ _ h => h) (Or.inl ⟨by rfl, ?_⟩) hHeld ?_ ?_
        rotate_left
        · rintro w' ⟨s0, s1, s2, s3, s4, s5⟩
          go_simp
          with_reducible rfl
        rotate_left
        · simp only [Act.put, List.setIfInBounds_toArray, List.set_cons_zero, List.set_cons_succ, i64_w, i32_w]
          rfl
        refine one_ (i := 2) (N := some 36) #[true, true, true, true, true, true, false, true, false, true, true, false, false, false] rfl rfl (one_of HT_.out (by kernel_rfl)) (by decide) (fun K hK => ?_)
        refine goes_ Tryd.func47 (by kernel_rfl) rfl #[.int .u64 t175] (by rfl) rfl rfl (by (try simp only [List.map_toArray, List.map_cons, List.map_nil]); first | done | rfl | (simp only [List.length_drop, List.length_take]; rfl)) ?_
        with_reducible refine (bits_Len64.calls t175 t184 _ A9.out).mono ?_
        rintro e w24 ⟨rfl, hb⟩
        refine ⟨_, rfl, ?_⟩
        have n0_ := Aside0.mk (blk_below (g := gb178) (o := .cells #[.bool t173, .int .i64 t174, .int .u64 t175, .int .i64 t176] 24 (0, 0)) (by (with_reducible repeat (first | refine blk_drewN ?_ _ | refine blk_drew ?_ | refine blk_alloc ?_ _)); exact BK178.out) hb)
        have n1_ := Aside0.mk (blk_below (g := gb183) (o := .cells #[.int .i64 23, .int .i64 8] 65 (0, 0)) (by (with_reducible repeat (first | refine blk_drewN ?_ _ | refine blk_drew ?_ | refine blk_alloc ?_ _)); exact BK183.out) hb)
        have n2_ := Aside0.mk (below_step (by repeat (first | (with_reducible first | exact HB.out | apply below_alloc | apply pw_below_drewN | apply below_drew1 | refine below_set ?_ GE178.out | refine below_set ?_ GE183.out) | exact HB.out)) hb)
        clear BK178
        clear BK183
        clear HB
        have BK178 := n0_
        have BK183 := n1_
        have HB := n2_
        clear n0_ n1_ n2_
        (try clear hb)
        (try clear hb2)
        (try clear hk)
        (try clear hi)
        refine hK.out _ _ ⟨(blk_cell BK178.out 0).trans rfl, (blk_cell BK178.out 1).trans rfl, (blk_cell BK178.out 2).trans rfl, (blk_cell BK178.out 3).trans rfl, (blk_cell BK183.out 0).trans rfl, (blk_cell BK183.out 1).trans rfl⟩ (fun hHeld => ?_)
        clear hK K
        refine norm_ (a' := ?_) ?_ ?_
        rotate_left
        · show Act.put _ (some 36) _ = _
          simp only [Act.put, List.setIfInBounds_toArray, List.set_cons_zero, List.set_cons_succ, i64_w, i32_w]
          rfl
        refine pure_ (i := 6) (N := some 40) (v := ?_) (a' := ?_) #[true, true, true, true, true, true, true, true, false, true, true, false, false, false] rfl rfl (any_of HT_.out (by kernel_rfl)) (fun _ _ _ h => h) (Or.inl ⟨by rfl, ?_⟩) ?_ ?_
        rotate_left
        · intro w'
          go_simp
          with_reducible rfl
        rotate_left
        · simp only [Act.put, List.setIfInBounds_toArray, List.set_cons_zero, List.set_cons_succ, i64_w, i32_w]
          rfl
        refine one_ (i := 8) (N := some 42) #[true, true, true, true, true, true, true, true, true, true, true, false, false, false] rfl rfl (one_of HT_.out (by kernel_rfl)) (by decide) (fun K hK => ?_)
        refine goes_ Tryd.func41 (by kernel_rfl) rfl #[.agg #[.int .i64 23, .int .i64 8]] (by rfl) rfl rfl (by (try simp only [List.map_toArray, List.map_cons, List.map_nil]); first | done | rfl | (simp only [List.length_drop, List.length_take]; rfl)) ?_
        with_reducible refine (bits_format_least.calls 23 8 t185 _ A10.out).mono ?_
        rintro e w25 ⟨rfl, hb⟩
        refine ⟨_, rfl, ?_⟩
        have n0_ := Aside0.mk (blk_below (g := gb178) (o := .cells #[.bool t173, .int .i64 t174, .int .u64 t175, .int .i64 t176] 24 (0, 0)) (by (with_reducible repeat (first | refine blk_drewN ?_ _ | refine blk_drew ?_ | refine blk_alloc ?_ _)); exact BK178.out) hb)
        have n1_ := Aside0.mk (blk_below (g := gb183) (o := .cells #[.int .i64 23, .int .i64 8] 65 (0, 0)) (by (with_reducible repeat (first | refine blk_drewN ?_ _ | refine blk_drew ?_ | refine blk_alloc ?_ _)); exact BK183.out) hb)
        have n2_ := Aside0.mk (below_step (by repeat (first | (with_reducible first | exact HB.out | apply below_alloc | apply pw_below_drewN | apply below_drew1 | refine below_set ?_ GE178.out | refine below_set ?_ GE183.out) | exact HB.out)) hb)
        clear BK178
        clear BK183
        clear HB
        have BK178 := n0_
        have BK183 := n1_
        have HB := n2_
        clear n0_ n1_ n2_
        (try clear hb)
        (try clear hb2)
        (try clear hk)
        (try clear hi)
        refine hK.out _ _ ⟨(blk_cell BK178.out 0).trans rfl, (blk_cell BK178.out 1).trans rfl, (blk_cell BK178.out 2).trans rfl, (blk_cell BK178.out 3).trans rfl, (blk_cell BK183.out 0).trans rfl, (blk_cell BK183.out 1).trans rfl⟩ (fun hHeld => ?_)
        clear hK K
        refine norm_ (a' := ?_) ?_ ?_
        rotate_left
        · show Act.put _ (some 42) _ = _
          simp only [Act.put, List.setIfInBounds_toArray, List.set_cons_zero, List.set_cons_succ, i64_w, i32_w]
          rfl
        refine pure_ (i := 11) (N := some 45) (v := ?_) (a' := ?_) #[true, true, true, true, true, true, true, true, true, true, true, true, false, false] rfl rfl (any_of HT_.out (by kernel_rfl)) (fun _ _ _ h => h) (Or.inl ⟨by rfl, ?_⟩) ?_ ?_
        rotate_left
        · intro w'
          go_simp
          with_reducible rfl
        rotate_left
        · simp only [Act.put, List.setIfInBounds_toArray, List.set_cons_zero, List.set_cons_succ, i64_w, i32_w]
          rfl
        refine pure_ (i := 12) (N := some 46) (v := ?_) (a' := ?_) #[true, true, true, true, true, true, true, true, true, true, true, true, true, false] rfl rfl (any_of HT_.out (by kernel_rfl)) (fun _ _ _ h => h) (Or.inl ⟨by rfl, ?_⟩) ?_ ?_
        rotate_left
        · intro w'
          go_simp
          with_reducible rfl
        rotate_left
        · simp only [Act.put, List.setIfInBounds_toArray, List.set_cons_zero, List.set_cons_succ, i64_w, i32_w]
          rfl
        refine pure_ (i := 13) (N := some 9) (v := ?_) (a' := ?_) #[true, true, true, true, true, true, true, true, true, true, true, true, true, true] rfl rfl (any_of HT_.out (by kernel_rfl)) (fun _ _ _ h => h) (Or.inl ⟨by rfl, ?_⟩) ?_ ?_
        rotate_left
        · intro w'
          go_simp
          with_reducible rfl
        rotate_left
        · simp only [Act.put, List.setIfInBounds_toArray, List.set_cons_zero, List.set_cons_succ, i64_w, i32_w]
          rfl
        refine done_ (done_of HT_.out (by kernel_rfl)) ?_
        have hcz26_0 : w25.cell? ⟨gb178, 0, none⟩ = some (.bool t173) := (blk_cell BK178.out 0).trans rfl
        have hcz26_1 : w25.cell? ⟨gb178, 1, none⟩ = some (.int .i64 t174) := (blk_cell BK178.out 1).trans rfl
        have hcz26_2 : w25.cell? ⟨gb178, 2, none⟩ = some (.int .u64 t175) := (blk_cell BK178.out 2).trans rfl
        have hcz26_3 : w25.cell? ⟨gb178, 3, none⟩ = some (.int .i64 t176) := (blk_cell BK178.out 3).trans rfl
        have hfz26_0 := blk_frozen BK178.out 0
        have hfz26_1 := blk_frozen BK178.out 1
        have hfz26_2 := blk_frozen BK178.out 2
        have hfz26_3 := blk_frozen BK178.out 3
        try go_wp2_with (first | ((with_reducible refine gate_callee (f := 26) rfl ?_); refine goesL_ (some 52) rfl rfl Tryd.func26 (by kernel_rfl) rfl #[.bool t173, .int .i64 32] rfl (by (try simp only [List.map_toArray, List.map_cons, List.map_nil]); first | done | rfl | (simp only [List.length_drop, List.length_take]; rfl)) ?_; (with_reducible refine (bits_Zero.calls k t173 32 t186 t187 _ ?side1 A14.out).mono ?_); (case side1 => exact Laid_DB64.of_below HL_DB64.out (by repeat (first | (with_reducible first | exact HB.out | apply below_alloc | apply pw_below_drewN | apply below_drew1 | refine below_set ?_ GE178.out | refine below_set ?_ GE183.out) | exact HB.out))); rintro e w27 ⟨rfl, hb⟩; refine ⟨_, rfl, ?_⟩; have n0_ := Aside0.mk (blk_below (g := gb178) (o := .cells #[.bool t173, .int .i64 t174, .int .u64 t175, .int .i64 t176] 24 (0, 0)) (by (with_reducible repeat (first | refine blk_drewN ?_ _ | refine blk_drew ?_ | refine blk_alloc ?_ _)); exact BK178.out) hb); have n1_ := Aside0.mk (blk_below (g := gb183) (o := .cells #[.int .i64 23, .int .i64 8] 65 (0, 0)) (by (with_reducible repeat (first | refine blk_drewN ?_ _ | refine blk_drew ?_ | refine blk_alloc ?_ _)); exact BK183.out) hb); have n2_ := Aside0.mk (below_step (by repeat (first | (with_reducible first | exact HB.out | apply below_alloc | apply pw_below_drewN | apply below_drew1 | refine below_set ?_ GE178.out | refine below_set ?_ GE183.out) | exact HB.out)) hb); clear BK178; clear BK183; clear HB; have BK178 := n0_; have BK183 := n1_; have HB := n2_; clear n0_ n1_ n2_; (try clear hb); (try clear hb2); (try clear hk); (try clear hi); (try simp only [errW_none, errW_some])))
        go_ret3
        exact ⟨by first | rfl | (simp [errW_none, errW_some] <;> rfl) | (simp only [← hji11, ← hji12]; first | rfl | (simp [errW_none, errW_some] <;> rfl)) | (simp [*, errW_none, errW_some] <;> rfl), by repeat (first | (with_reducible first | exact HB.out | apply below_alloc | apply pw_below_drewN | apply below_drew1 | refine below_set ?_ GE178.out | refine below_set ?_ GE183.out) | exact HB.out)⟩
      · rw [if_neg c13] at H
        have c13b0 : decide (63 < (ji12)) = false := decide_eq_false c13
        clear c13
        obtain ⟨ji28, hji28⟩ : ∃ j_ : Int, (shr .u64 t175 (ji12)) = j_ := ⟨_, rfl⟩
        replace H : (if (Go.bits .and .u64 t175 (IntKind.u64.wrap ((shl .u64 1 (ji12)) - 1))) > ((shl .u64 1 (ji12)) / 2) then (bits_Narrow.j0 k ji12 ji28 true t173 t174 t175 t176) else (if (Go.bits .and .u64 t175 (IntKind.u64.wrap ((shl .u64 1 (ji12)) - 1))) = ((shl .u64 1 (ji12)) / 2) then (if (Go.bits .and .u64 t175 (IntKind.u64.wrap ((shl .u64 1 (ji12)) - 1))) > 0 then (bits_Narrow.j0 k ji12 ji28 ((Int.tmod (ji28) 2) == 1) t173 t174 t175 t176) else (bits_Narrow.j0 k ji12 ji28 false t173 t174 t175 t176)) else (bits_Narrow.j0 k ji12 ji28 false t173 t174 t175 t176))) = some (r1, r2, r3) := by first | (rw [hji28] at H; exact H) | (simp only [hji28] at H ⊢; exact H)
        (try rw [hji28] at A2)
        (try rw [hji28] at A3)
        (try rw [hji28] at A9)
        (try rw [hji28] at A10)
        have hji28_ : (t175 / 2 ^ min (ji12).toNat 64) = ji28 := hji28
        have hji28z : (ji12) ≤ 64 → (t175 / 2 ^ (ji12).toNat) = ji28 := shr_small hji28
        obtain ⟨ji29, hji29⟩ : ∃ j_ : Int, (shl .u64 1 (ji12)) = j_ := ⟨_, rfl⟩
        replace H : (if (Go.bits .and .u64 t175 (IntKind.u64.wrap ((ji29) - 1))) > ((ji29) / 2) then (bits_Narrow.j0 k ji12 ji28 true t173 t174 t175 t176) else (if (Go.bits .and .u64 t175 (IntKind.u64.wrap ((ji29) - 1))) = ((ji29) / 2) then (if (Go.bits .and .u64 t175 (IntKind.u64.wrap ((ji29) - 1))) > 0 then (bits_Narrow.j0 k ji12 ji28 ((Int.tmod (ji28) 2) == 1) t173 t174 t175 t176) else (bits_Narrow.j0 k ji12 ji28 false t173 t174 t175 t176)) else (bits_Narrow.j0 k ji12 ji28 false t173 t174 t175 t176))) = some (r1, r2, r3) := by first | (rw [hji29] at H; exact H) | (simp only [hji29] at H ⊢; exact H)
        (try rw [hji29] at A2)
        (try rw [hji29] at A3)
        (try rw [hji29] at A9)
        (try rw [hji29] at A10)
        have hji29_ : (IntKind.u64.wrap (1 * 2 ^ min (ji12).toNat 64)) = ji29 := hji29
        have hji29z : (ji12) ≤ 64 → (IntKind.u64.wrap (1 * 2 ^ (ji12).toNat)) = ji29 := shl_small hji29
        have hji29u : (IntKind.u64.wrap (2 ^ min (ji12).toNat 64)) = ji29 := by have h_ := hji29_; rw [Int.one_mul] at h_; exact h_
        have hji29v : (ji12) ≤ 64 → (IntKind.u64.wrap (2 ^ (ji12).toNat)) = ji29 := fun hle_ => by have h_ := hji29z hle_; rw [Int.one_mul] at h_; exact h_
        have HC30 := Aside0.mk H
        clear H
        go_enter Tryd.func17, Tryd.ntmps17
        try go_wp2_with (first | ((with_reducible refine gate_callee (f := 9) rfl ?_); refine goesL_ (some 16) rfl rfl Tryd.func9 (by kernel_rfl) rfl #[.int .u64 a0, .int .i64 64] rfl (by (try simp only [List.map_toArray, List.map_cons, List.map_nil]); first | done | rfl | (simp only [List.length_drop, List.length_take]; rfl)) ?_; (with_reducible refine (bits_Unpack.calls a0 64 t173 t174 t175 t176 none _ A2.out).mono ?_); rintro e w31 ⟨rfl, hb⟩; refine ⟨_, rfl, ?_⟩; have n0_ := Aside0.mk (below_step (by repeat (first | (with_reducible first | exact HB.out | apply below_alloc | apply pw_below_drewN | apply below_drew1) | exact HB.out)) hb); clear HB; have HB := n0_; clear n0_; (try clear hb); (try clear hb2); (try clear hk); (try clear hi); (try simp only [errW_none, errW_some])) | ((with_reducible refine gate_dst (N := 5) rfl ?_); refine box_event ?hg (N := 5) ?hd (cs := #[.bool false, .int .i64 0, .int .u64 0, .int .i64 0]) (t := 24) ?hr ?_; (case hd => rfl); (case hg => rfl); (case hr => first | (go_simp; done) | (go_simp; rfl)); intro gb178 hg w32 hbox hb; have n0_ := Aside0.mk (below_step (by repeat (first | (with_reducible first | exact HB.out | apply below_alloc | apply pw_below_drewN | apply below_drew1) | exact HB.out)) hb); have n1_ := Aside0.mk (hbox); have n2_ := Aside0.mk ((by rw [hg]; exact (below_size (by repeat (first | (with_reducible first | exact HB.out | apply below_alloc | apply pw_below_drewN | apply below_drew1) | exact HB.out))) : w.heap.size ≤ gb178)); have n3_ := Aside0.mk ((by rw [hg]; exact (below_size (by repeat (first | (with_reducible first | exact HB.out | apply below_alloc | apply pw_below_drewN | apply below_drew1) | exact HB.out))) : w.heap.size ≤ gb178)); clear HB; have HB := n0_; have BK178 := n1_; have GW178 := n2_; have GE178 := n3_; clear n0_ n1_ n2_ n3_; clear hb hbox hg; have hcz33_0 : w32.cell? ⟨gb178, 0, none⟩ = some (.bool false) := (blk_cell BK178.out 0).trans rfl; have hcz33_1 : w32.cell? ⟨gb178, 1, none⟩ = some (.int .i64 0) := (blk_cell BK178.out 1).trans rfl; have hcz33_2 : w32.cell? ⟨gb178, 2, none⟩ = some (.int .u64 0) := (blk_cell BK178.out 2).trans rfl; have hcz33_3 : w32.cell? ⟨gb178, 3, none⟩ = some (.int .i64 0) := (blk_cell BK178.out 3).trans rfl; have hfz33_0 := blk_frozen BK178.out 0; have hfz33_1 := blk_frozen BK178.out 1; have hfz33_2 := blk_frozen BK178.out 2; have hfz33_3 := blk_frozen BK178.out 3) | ((with_reducible refine gate_callee (f := 11) rfl ?_); refine goesL_ (some 24) rfl rfl Tryd.func11 (by kernel_rfl) rfl #[.agg #[.bool t173, .int .i64 t174, .int .u64 t175, .int .i64 t176], .int .i64 32] rfl (by (try simp only [List.map_toArray, List.map_cons, List.map_nil]); first | done | rfl | (simp only [List.length_drop, List.length_take]; rfl)) ?_; (with_reducible refine (bits_Pack.calls k t173 t174 t175 t176 32 t180 (some q182) _ ?side1 A3.out).mono ?_); (case side1 => exact Laid_DB64.of_below HL_DB64.out (by repeat (first | (with_reducible first | exact HB.out | apply below_alloc | apply pw_below_drewN | apply below_drew1 | refine below_set ?_ GE178.out) | exact HB.out))); rintro e w34 ⟨rfl, hb⟩; refine ⟨_, rfl, ?_⟩; have n0_ := Aside0.mk (blk_below (g := gb178) (o := .cells #[.bool t173, .int .i64 t174, .int .u64 t175, .int .i64 t176] 24 (0, 0)) (by (with_reducible repeat (first | refine blk_drewN ?_ _ | refine blk_drew ?_ | refine blk_alloc ?_ _)); refine blk_put (cs := #[.bool t173, .int .i64 t174, .int .u64 t175, .int .i64 0]) ?_ 3 _ rfl; (with_reducible repeat (first | refine blk_drewN ?_ _ | refine blk_drew ?_ | refine blk_alloc ?_ _)); refine blk_put (cs := #[.bool t173, .int .i64 t174, .int .u64 0, .int .i64 0]) ?_ 2 _ rfl; (with_reducible repeat (first | refine blk_drewN ?_ _ | refine blk_drew ?_ | refine blk_alloc ?_ _)); refine blk_put (cs := #[.bool t173, .int .i64 0, .int .u64 0, .int .i64 0]) ?_ 1 _ rfl; (with_reducible repeat (first | refine blk_drewN ?_ _ | refine blk_drew ?_ | refine blk_alloc ?_ _)); refine blk_put (cs := #[.bool false, .int .i64 0, .int .u64 0, .int .i64 0]) ?_ 0 _ rfl; (with_reducible repeat (first | refine blk_drewN ?_ _ | refine blk_drew ?_ | refine blk_alloc ?_ _)); exact BK178.out) hb); have n1_ := Aside0.mk (below_step (by repeat (first | (with_reducible first | exact HB.out | apply below_alloc | apply pw_below_drewN | apply below_drew1 | refine below_set ?_ GE178.out) | exact HB.out)) hb); clear BK178; clear HB; have BK178 := n0_; have HB := n1_; clear n0_ n1_; (try clear hb); (try clear hb2); (try clear hk); (try clear hi); (try simp only [errW_none, errW_some])) | ((with_reducible refine gate_dst (N := 8) rfl ?_); refine box_event ?hg (N := 8) ?hd (cs := #[.int .i64 0, .int .i64 0]) (t := 65) ?hr ?_; (case hd => rfl); (case hg => rfl); (case hr => first | (go_simp; done) | (go_simp; rfl)); intro gb183 hg w35 hbox hb; have n0_ := Aside0.mk (blk_below (g := gb178) (o := .cells #[.bool t173, .int .i64 t174, .int .u64 t175, .int .i64 t176] 24 (0, 0)) (by (with_reducible repeat (first | refine blk_drewN ?_ _ | refine blk_drew ?_ | refine blk_alloc ?_ _)); exact BK178.out) hb); have n1_ := Aside0.mk (below_step (by repeat (first | (with_reducible first | exact HB.out | apply below_alloc | apply pw_below_drewN | apply below_drew1 | refine below_set ?_ GE178.out) | exact HB.out)) hb); have n2_ := Aside0.mk (hbox); have n3_ := Aside0.mk ((by rw [hg]; exact (below_size (by repeat (first | (with_reducible first | exact HB.out | apply below_alloc | apply pw_below_drewN | apply below_drew1 | refine below_set ?_ GE178.out) | exact HB.out))) : w.heap.size ≤ gb183)); have n4_ := Aside0.mk ((by rw [hg]; exact (below_size (by repeat (first | (with_reducible first | exact HB.out | apply below_alloc | apply pw_below_drewN | apply below_drew1 | refine below_set ?_ GE178.out) | exact HB.out))) : w.heap.size ≤ gb183)); have n5_ := Aside0.mk ((by rw [hg]; exact Nat.ne_of_lt (blk_lt (g := gb178) (o := .cells #[.bool t173, .int .i64 t174, .int .u64 t175, .int .i64 t176] 24 (0, 0)) (by (with_reducible repeat (first | refine blk_drewN ?_ _ | refine blk_drew ?_ | refine blk_alloc ?_ _)); exact BK178.out)) : gb178 ≠ gb183)); have n6_ := Aside0.mk ((by rw [hg]; exact Nat.ne_of_gt (blk_lt (g := gb178) (o := .cells #[.bool t173, .int .i64 t174, .int .u64 t175, .int .i64 t176] 24 (0, 0)) (by (with_reducible repeat (first | refine blk_drewN ?_ _ | refine blk_drew ?_ | refine blk_alloc ?_ _)); exact BK178.out)) : gb183 ≠ gb178)); clear BK178; clear HB; have BK178 := n0_; have HB := n1_; have BK183 := n2_; have GW183 := n3_; have GE183 := n4_; have NB178_183 := n5_; have NB183_178 := n6_; clear n0_ n1_ n2_ n3_ n4_ n5_ n6_; clear hb hbox hg; have hnb36 := NB183_178.out; have hnc36 := NB178_183.out; have hcz37_0 : w35.cell? ⟨gb183, 0, none⟩ = some (.int .i64 0) := (blk_cell BK183.out 0).trans rfl; have hcz37_1 : w35.cell? ⟨gb183, 1, none⟩ = some (.int .i64 0) := (blk_cell BK183.out 1).trans rfl; have hfz37_0 := blk_frozen BK183.out 0; have hfz37_1 := blk_frozen BK183.out 1))
        have n0_ : Aside0 (((w35.setCell ⟨gb183, 0, none⟩ (.int .i64 23)).setCell ⟨gb183, 1, none⟩ (.int .i64 8)).heap[gb178]? = some (.cells #[.bool t173, .int .i64 t174, .int .u64 t175, .int .i64 t176] 24 (0, 0))) := ⟨by (with_reducible repeat (first | refine blk_drewN ?_ _ | refine blk_drew ?_ | refine blk_alloc ?_ _)); refine blk_far ?_ NB178_183.out _; (with_reducible repeat (first | refine blk_drewN ?_ _ | refine blk_drew ?_ | refine blk_alloc ?_ _)); refine blk_far ?_ NB178_183.out _; (with_reducible repeat (first | refine blk_drewN ?_ _ | refine blk_drew ?_ | refine blk_alloc ?_ _)); exact BK178.out⟩
        have n1_ : Aside0 (((w35.setCell ⟨gb183, 0, none⟩ (.int .i64 23)).setCell ⟨gb183, 1, none⟩ (.int .i64 8)).heap[gb183]? = some (.cells #[.int .i64 23, .int .i64 8] 65 (0, 0))) := ⟨by (with_reducible repeat (first | refine blk_drewN ?_ _ | refine blk_drew ?_ | refine blk_alloc ?_ _)); refine blk_put (cs := #[.int .i64 23, .int .i64 0]) ?_ 1 _ rfl; (with_reducible repeat (first | refine blk_drewN ?_ _ | refine blk_drew ?_ | refine blk_alloc ?_ _)); refine blk_put (cs := #[.int .i64 0, .int .i64 0]) ?_ 0 _ rfl; (with_reducible repeat (first | refine blk_drewN ?_ _ | refine blk_drew ?_ | refine blk_alloc ?_ _)); exact BK183.out⟩
        have n2_ : Aside0 (Below w.heap.size w ((w35.setCell ⟨gb183, 0, none⟩ (.int .i64 23)).setCell ⟨gb183, 1, none⟩ (.int .i64 8))) := ⟨by repeat (first | (with_reducible first | exact HB.out | apply below_alloc | apply pw_below_drewN | apply below_drew1 | refine below_set ?_ GE178.out | refine below_set ?_ GE183.out) | exact HB.out)⟩
        (try clear BK178)
        (try clear BK183)
        (try clear HB)
        generalize ((w35.setCell ⟨gb183, 0, none⟩ (.int .i64 23)).setCell ⟨gb183, 1, none⟩ (.int .i64 8)) = w38 at n0_ n1_ n2_ ⊢
        have BK178 := n0_
        have BK183 := n1_
        have HB := n2_
        clear n0_ n1_ n2_
        have n0_ := Aside0.mk (blk_drew BK178.out)
        have n1_ := Aside0.mk (blk_drew BK183.out)
        have n2_ := Aside0.mk (below_drew1 HB.out)
        clear BK178
        clear BK183
        clear HB
        have BK178 := n0_
        have BK183 := n1_
        have HB := n2_
        clear n0_ n1_ n2_
        refine start_ (n := 14) (S := fun w' => w'.cell? ⟨gb178, 0, none⟩ = some (.bool t173) ∧ w'.cell? ⟨gb178, 1, none⟩ = some (.int .i64 t174) ∧ w'.cell? ⟨gb178, 2, none⟩ = some (.int .u64 t175) ∧ w'.cell? ⟨gb178, 3, none⟩ = some (.int .i64 t176) ∧ w'.cell? ⟨gb183, 0, none⟩ = some (.int .i64 23) ∧ w'.cell? ⟨gb183, 1, none⟩ = some (.int .i64 8)) (ds := []) #[false, false, false, false, false, false, false, false, false, false, false, false, false, false] (by kernel_rfl) rfl rfl ⟨(blk_cell BK178.out 0).trans rfl, (blk_cell BK178.out 1).trans rfl, (blk_cell BK178.out 2).trans rfl, (blk_cell BK178.out 3).trans rfl, (blk_cell BK183.out 0).trans rfl, (blk_cell BK183.out 1).trans rfl⟩ (fun hHeld => ?_); refine with_tabW bits_Narrow.tab8 bits_Narrow.bits8 (fun HT_ HW_ => ?_)
        generalize w38.drew = w39 at BK178 BK183 HB hHeld ⊢
        refine pure_ (i := 0) (N := some 34) (v := ?_) (a' := ?_) #[true, false, false, false, false, false, false, false, false, false, false, false, false, false] rfl rfl (any_of HT_.out (by kernel_rfl)) (fun _ _ _ h => h) (Or.inl ⟨by rfl, ?_⟩) ?_ ?_
        rotate_left
        · intro w'
          go_simp
          with_reducible rfl
        rotate_left
        · simp only [Act.put, List.setIfInBounds_toArray, List.set_cons_zero, List.set_cons_succ, i64_w, i32_w]
          rfl
        refine pure_ (i := 3) (N := some 37) (v := ?_) (a' := ?_) #[true, false, false, true, false, false, false, false, false, false, false, false, false, false] rfl rfl (any_of HT_.out (by kernel_rfl)) (fun _ _ _ h => h) (Or.inl ⟨by rfl, ?_⟩) ?_ ?_
        rotate_left
        · intro w'
          go_simp
          with_reducible rfl
        rotate_left
        · simp only [Act.put, List.setIfInBounds_toArray, List.set_cons_zero, List.set_cons_succ, i64_w, i32_w]
          rfl
        refine pure_ (i := 9) (N := some 43) (v := ?_) (a' := ?_) #[true, false, false, true, false, false, false, false, false, true, false, false, false, false] rfl rfl (any_of HT_.out (by kernel_rfl)) (fun _ _ _ h => h) (Or.inl ⟨by rfl, ?_⟩) ?_ ?_
        rotate_left
        · intro w'
          go_simp
          with_reducible rfl
        rotate_left
        · simp only [Act.put, List.setIfInBounds_toArray, List.set_cons_zero, List.set_cons_succ, i64_w, i32_w]
          rfl
        refine take_ (i := 1) (N := some 35) (v := ?_) (a' := ?_) #[true, true, false, true, false, false, false, false, false, true, false, false, false, false] rfl rfl (take_ofW HT_.out HW_.out (by kernel_rfl)) (fun _ _ _ h => h) (Or.inl ⟨by rfl, ?_⟩) hHeld ?_ ?_
        rotate_left
        · rintro w' ⟨s0, s1, s2, s3, s4, s5⟩
          go_simp
          with_reducible rfl
        rotate_left
        · simp only [Act.put, List.setIfInBounds_toArray, List.set_cons_zero, List.set_cons_succ, i64_w, i32_w]
          rfl
        refine take_ (i := 4) (N := some 38) (v := ?_) (a' := ?_) #[true, true, false, true, true, false, false, false, false, true, false, false, false, false] rfl rfl (take_ofW HT_.out HW_.out (by kernel_rfl)) (fun _ _ _ h => h) (Or.inl ⟨by rfl, ?_⟩) hHeld ?_ ?_
        rotate_left
        · rintro w' ⟨s0, s1, s2, s3, s4, s5⟩
          go_simp
          with_reducible rfl
        rotate_left
        · simp only [Act.put, List.setIfInBounds_toArray, List.set_cons_zero, List.set_cons_succ, i64_w, i32_w]
          rfl
        refine pure_ (i := 5) (N := some 39) (v := ?_) (a' := ?_) #[true, true, false, true, true, true, false, false, false, true, false, false, false, false] rfl rfl (any_of HT_.out (by kernel_rfl)) (fun _ _ _ h => h) (Or.inl ⟨by rfl, ?_⟩) ?_ ?_
        rotate_left
        · intro w'
          go_simp
          with_reducible rfl
        rotate_left
        · simp only [Act.put, List.setIfInBounds_toArray, List.set_cons_zero, List.set_cons_succ, i64_w, i32_w]
          rfl
        refine take_ (i := 7) (N := some 41) (v := ?_) (a' := ?_) #[true, true, false, true, true, true, false, true, false, true, false, false, false, false] rfl rfl (take_ofW HT_.out HW_.out (by kernel_rfl)) (fun _ _ _ h => h) (Or.inl ⟨by rfl, ?_⟩) hHeld ?_ ?_
        rotate_left
        · rintro w' ⟨s0, s1, s2, s3, s4, s5⟩
          go_simp
          with_reducible rfl
        rotate_left
        · simp only [Act.put, List.setIfInBounds_toArray, List.set_cons_zero, List.set_cons_succ, i64_w, i32_w]
          rfl
        refine take_ (i := 10) (N := some 44) (v := ?_) (a' := ?_) #[true, true, false, true, true, true, false, true, false, true, true, false, false, false] rfl rfl (take_ofW HT_.out HW_.out (by kernel_rfl)) (fun _ _ _ h => h) (Or.inl ⟨by rfl, ?_⟩) hHeld ?_ ?_
        rotate_left
        · rintro w' ⟨s0, s1, s2, s3, s4, s5⟩
          go_simp
          with_reducible rfl
        rotate_left
        · simp only [Act.put, List.setIfInBounds_toArray, List.set_cons_zero, List.set_cons_succ, i64_w, i32_w]
          rfl
        refine one_ (i := 2) (N := some 36) #[true, true, true, true, true, true, false, true, false, true, true, false, false, false] rfl rfl (one_of HT_.out (by kernel_rfl)) (by decide) (fun K hK => ?_)
        refine goes_ Tryd.func47 (by kernel_rfl) rfl #[.int .u64 t175] (by rfl) rfl rfl (by (try simp only [List.map_toArray, List.map_cons, List.map_nil]); first | done | rfl | (simp only [List.length_drop, List.length_take]; rfl)) ?_
        with_reducible refine (bits_Len64.calls t175 t184 _ A9.out).mono ?_
        rintro e w40 ⟨rfl, hb⟩
        refine ⟨_, rfl, ?_⟩
        have n0_ := Aside0.mk (blk_below (g := gb178) (o := .cells #[.bool t173, .int .i64 t174, .int .u64 t175, .int .i64 t176] 24 (0, 0)) (by (with_reducible repeat (first | refine blk_drewN ?_ _ | refine blk_drew ?_ | refine blk_alloc ?_ _)); exact BK178.out) hb)
        have n1_ := Aside0.mk (blk_below (g := gb183) (o := .cells #[.int .i64 23, .int .i64 8] 65 (0, 0)) (by (with_reducible repeat (first | refine blk_drewN ?_ _ | refine blk_drew ?_ | refine blk_alloc ?_ _)); exact BK183.out) hb)
        have n2_ := Aside0.mk (below_step (by repeat (first | (with_reducible first | exact HB.out | apply below_alloc | apply pw_below_drewN | apply below_drew1 | refine below_set ?_ GE178.out | refine below_set ?_ GE183.out) | exact HB.out)) hb)
        clear BK178
        clear BK183
        clear HB
        have BK178 := n0_
        have BK183 := n1_
        have HB := n2_
        clear n0_ n1_ n2_
        (try clear hb)
        (try clear hb2)
        (try clear hk)
        (try clear hi)
        refine hK.out _ _ ⟨(blk_cell BK178.out 0).trans rfl, (blk_cell BK178.out 1).trans rfl, (blk_cell BK178.out 2).trans rfl, (blk_cell BK178.out 3).trans rfl, (blk_cell BK183.out 0).trans rfl, (blk_cell BK183.out 1).trans rfl⟩ (fun hHeld => ?_)
        clear hK K
        refine norm_ (a' := ?_) ?_ ?_
        rotate_left
        · show Act.put _ (some 36) _ = _
          simp only [Act.put, List.setIfInBounds_toArray, List.set_cons_zero, List.set_cons_succ, i64_w, i32_w]
          rfl
        refine pure_ (i := 6) (N := some 40) (v := ?_) (a' := ?_) #[true, true, true, true, true, true, true, true, false, true, true, false, false, false] rfl rfl (any_of HT_.out (by kernel_rfl)) (fun _ _ _ h => h) (Or.inl ⟨by rfl, ?_⟩) ?_ ?_
        rotate_left
        · intro w'
          go_simp
          with_reducible rfl
        rotate_left
        · simp only [Act.put, List.setIfInBounds_toArray, List.set_cons_zero, List.set_cons_succ, i64_w, i32_w]
          rfl
        refine one_ (i := 8) (N := some 42) #[true, true, true, true, true, true, true, true, true, true, true, false, false, false] rfl rfl (one_of HT_.out (by kernel_rfl)) (by decide) (fun K hK => ?_)
        refine goes_ Tryd.func41 (by kernel_rfl) rfl #[.agg #[.int .i64 23, .int .i64 8]] (by rfl) rfl rfl (by (try simp only [List.map_toArray, List.map_cons, List.map_nil]); first | done | rfl | (simp only [List.length_drop, List.length_take]; rfl)) ?_
        with_reducible refine (bits_format_least.calls 23 8 t185 _ A10.out).mono ?_
        rintro e w41 ⟨rfl, hb⟩
        refine ⟨_, rfl, ?_⟩
        have n0_ := Aside0.mk (blk_below (g := gb178) (o := .cells #[.bool t173, .int .i64 t174, .int .u64 t175, .int .i64 t176] 24 (0, 0)) (by (with_reducible repeat (first | refine blk_drewN ?_ _ | refine blk_drew ?_ | refine blk_alloc ?_ _)); exact BK178.out) hb)
        have n1_ := Aside0.mk (blk_below (g := gb183) (o := .cells #[.int .i64 23, .int .i64 8] 65 (0, 0)) (by (with_reducible repeat (first | refine blk_drewN ?_ _ | refine blk_drew ?_ | refine blk_alloc ?_ _)); exact BK183.out) hb)
        have n2_ := Aside0.mk (below_step (by repeat (first | (with_reducible first | exact HB.out | apply below_alloc | apply pw_below_drewN | apply below_drew1 | refine below_set ?_ GE178.out | refine below_set ?_ GE183.out) | exact HB.out)) hb)
        clear BK178
        clear BK183
        clear HB
        have BK178 := n0_
        have BK183 := n1_
        have HB := n2_
        clear n0_ n1_ n2_
        (try clear hb)
        (try clear hb2)
        (try clear hk)
        (try clear hi)
        refine hK.out _ _ ⟨(blk_cell BK178.out 0).trans rfl, (blk_cell BK178.out 1).trans rfl, (blk_cell BK178.out 2).trans rfl, (blk_cell BK178.out 3).trans rfl, (blk_cell BK183.out 0).trans rfl, (blk_cell BK183.out 1).trans rfl⟩ (fun hHeld => ?_)
        clear hK K
        refine norm_ (a' := ?_) ?_ ?_
        rotate_left
        · show Act.put _ (some 42) _ = _
          simp only [Act.put, List.setIfInBounds_toArray, List.set_cons_zero, List.set_cons_succ, i64_w, i32_w]
          rfl
        refine pure_ (i := 11) (N := some 45) (v := ?_) (a' := ?_) #[true, true, true, true, true, true, true, true, true, true, true, true, false, false] rfl rfl (any_of HT_.out (by kernel_rfl)) (fun _ _ _ h => h) (Or.inl ⟨by rfl, ?_⟩) ?_ ?_
        rotate_left
        · intro w'
          go_simp
          with_reducible rfl
        rotate_left
        · simp only [Act.put, List.setIfInBounds_toArray, List.set_cons_zero, List.set_cons_succ, i64_w, i32_w]
          rfl
        refine pure_ (i := 12) (N := some 46) (v := ?_) (a' := ?_) #[true, true, true, true, true, true, true, true, true, true, true, true, true, false] rfl rfl (any_of HT_.out (by kernel_rfl)) (fun _ _ _ h => h) (Or.inl ⟨by rfl, ?_⟩) ?_ ?_
        rotate_left
        · intro w'
          go_simp
          with_reducible rfl
        rotate_left
        · simp only [Act.put, List.setIfInBounds_toArray, List.set_cons_zero, List.set_cons_succ, i64_w, i32_w]
          rfl
        refine pure_ (i := 13) (N := some 9) (v := ?_) (a' := ?_) #[true, true, true, true, true, true, true, true, true, true, true, true, true, true] rfl rfl (any_of HT_.out (by kernel_rfl)) (fun _ _ _ h => h) (Or.inl ⟨by rfl, ?_⟩) ?_ ?_
        rotate_left
        · intro w'
          go_simp
          with_reducible rfl
        rotate_left
        · simp only [Act.put, List.setIfInBounds_toArray, List.set_cons_zero, List.set_cons_succ, i64_w, i32_w]
          rfl
        refine done_ (done_of HT_.out (by kernel_rfl)) ?_
        try go_wp2
        have n0_ := Aside0.mk (blk_drew BK178.out)
        have n1_ := Aside0.mk (blk_drew BK183.out)
        have n2_ := Aside0.mk (below_drew1 HB.out)
        clear BK178
        clear BK183
        clear HB
        have BK178 := n0_
        have BK183 := n1_
        have HB := n2_
        clear n0_ n1_ n2_
        refine start_ (n := 12) (S := fun w' => w'.cell? ⟨gb178, 0, none⟩ = some (.bool t173) ∧ w'.cell? ⟨gb178, 1, none⟩ = some (.int .i64 t174) ∧ w'.cell? ⟨gb178, 2, none⟩ = some (.int .u64 t175) ∧ w'.cell? ⟨gb178, 3, none⟩ = some (.int .i64 t176)) (ds := []) #[false, false, false, false, false, false, false, false, false, false, false, false] (by kernel_rfl) rfl rfl ⟨(blk_cell BK178.out 0).trans rfl, (blk_cell BK178.out 1).trans rfl, (blk_cell BK178.out 2).trans rfl, (blk_cell BK178.out 3).trans rfl⟩ (fun hHeld => ?_); refine with_tabW bits_Narrow.tab12 bits_Narrow.bits12 (fun HT_ HW_ => ?_)
        generalize w41.drew = w42 at BK178 BK183 HB hHeld ⊢
        refine pure_ (i := 0) (N := some 56) (v := ?_) (a' := ?_) #[true, false, false, false, false, false, false, false, false, false, false, false] rfl rfl (any_of HT_.out (by kernel_rfl)) (fun _ _ _ h => h) (Or.inl ⟨by rfl, ?_⟩) ?_ ?_
        rotate_left
        · intro w'
          go_simp
          with_reducible rfl
        rotate_left
        · simp only [Act.put, List.setIfInBounds_toArray, List.set_cons_zero, List.set_cons_succ, i64_w, i32_w]
          rfl
        refine pure_ (i := 2) (N := some 58) (v := ?_) (a' := ?_) #[true, false, true, false, false, false, false, false, false, false, false, false] rfl rfl (any_of HT_.out (by kernel_rfl)) (fun _ _ _ h => h) (Or.inl ⟨by rfl, ?_⟩) ?_ ?_
        rotate_left
        · intro w'
          go_simp
          with_reducible rfl
        rotate_left
        · simp only [Act.put, List.setIfInBounds_toArray, List.set_cons_zero, List.set_cons_succ, i64_w, i32_w]
          rfl
        refine pure_ (i := 4) (N := some 60) (v := ?_) (a' := ?_) #[true, false, true, false, true, false, false, false, false, false, false, false] rfl rfl (any_of HT_.out (by kernel_rfl)) (fun _ _ _ h => h) (Or.inl ⟨by rfl, ?_⟩) ?_ ?_
        rotate_left
        · intro w'
          go_simp
          with_reducible rfl
        rotate_left
        · simp only [Act.put, List.setIfInBounds_toArray, List.set_cons_zero, List.set_cons_succ, i64_w, i32_w]
          rfl
        refine pure_ (i := 6) (N := some 62) (v := ?_) (a' := ?_) #[true, false, true, false, true, false, true, false, false, false, false, false] rfl rfl (any_of HT_.out (by kernel_rfl)) (fun _ _ _ h => h) (Or.inl ⟨by rfl, ?_⟩) ?_ ?_
        rotate_left
        · intro w'
          go_simp
          with_reducible rfl
        rotate_left
        · simp only [Act.put, List.setIfInBounds_toArray, List.set_cons_zero, List.set_cons_succ, i64_w, i32_w]
          rfl
        refine pure_ (i := 7) (N := some 63) (v := ?_) (a' := ?_) #[true, false, true, false, true, false, true, true, false, false, false, false] rfl rfl (any_of HT_.out (by kernel_rfl)) (fun _ _ _ h => h) (Or.inl ⟨by rfl, ?_⟩) ?_ ?_
        rotate_left
        · intro w'
          go_simp
          with_reducible rfl
        rotate_left
        · simp only [Act.put, List.setIfInBounds_toArray, List.set_cons_zero, List.set_cons_succ, i64_w, i32_w]
          rfl
        refine pure_ (i := 8) (N := some 64) (v := ?_) (a' := ?_) #[true, false, true, false, true, false, true, true, true, false, false, false] rfl rfl (any_of HT_.out (by kernel_rfl)) (fun _ _ _ h => h) (Or.inl ⟨by rfl, ?_⟩) ?_ ?_
        rotate_left
        · intro w'
          go_simp
          with_reducible rfl
        rotate_left
        · simp only [Act.put, List.setIfInBounds_toArray, List.set_cons_zero, List.set_cons_succ, i64_w, i32_w]
          rfl
        refine take_ (i := 1) (N := some 57) (v := ?_) (a' := ?_) #[true, true, true, false, true, false, true, true, true, false, false, false] rfl rfl (take_ofW HT_.out HW_.out (by kernel_rfl)) (fun _ _ _ h => h) (Or.inl ⟨by rfl, ?_⟩) hHeld ?_ ?_
        rotate_left
        · rintro w' ⟨s0, s1, s2, s3⟩
          go_simp
          with_reducible rfl
        rotate_left
        · simp only [Act.put, List.setIfInBounds_toArray, List.set_cons_zero, List.set_cons_succ, i64_w, i32_w]
          rfl
        refine pure_ (i := 3) (N := some 59) (v := ?_) (a' := ?_) #[true, true, true, true, true, false, true, true, true, false, false, false] rfl rfl (any_of HT_.out (by kernel_rfl)) (fun _ _ _ h => h) (Or.inl ⟨by rfl, ?_⟩) ?_ ?_
        rotate_left
        · intro w'
          go_simp
          with_reducible rfl
        rotate_left
        · simp only [Act.put, List.setIfInBounds_toArray, List.set_cons_zero, List.set_cons_succ, i64_w, i32_w]
          rfl
        refine pure_ (i := 10) (N := some 10) (v := ?_) (a' := ?_) #[true, true, true, true, true, false, true, true, true, false, true, false] rfl rfl (any_of HT_.out (by kernel_rfl)) (fun _ _ _ h => h) (Or.inl ⟨by rfl, ?_⟩) ?_ ?_
        rotate_left
        · intro w'
          go_simp
          with_reducible rfl
        rotate_left
        · simp only [Act.put, List.setIfInBounds_toArray, List.set_cons_zero, List.set_cons_succ, i64_w, i32_w]
          rfl
        refine take_ (i := 5) (N := some 61) (v := ?_) (a' := ?_) #[true, true, true, true, true, true, true, true, true, false, true, false] rfl rfl (take_ofW HT_.out HW_.out (by kernel_rfl)) (fun _ _ _ h => h) (Or.inl ⟨by rfl, ?_⟩) hHeld ?_ ?_
        rotate_left
        · rintro w' ⟨s0, s1, s2, s3⟩
          go_simp
          with_reducible rfl
        rotate_left
        · simp only [Act.put, List.setIfInBounds_toArray, List.set_cons_zero, List.set_cons_succ, i64_w, i32_w]
          rfl
        refine pure_ (i := 9) (N := some 65) (v := ?_) (a' := ?_) #[true, true, true, true, true, true, true, true, true, true, true, false] rfl rfl (any_of HT_.out (by kernel_rfl)) (fun _ _ _ h => h) (Or.inl ⟨by rfl, ?_⟩) ?_ ?_
        rotate_left
        · intro w'
          go_simp
          with_reducible rfl
        rotate_left
        · simp only [Act.put, List.setIfInBounds_toArray, List.set_cons_zero, List.set_cons_succ, i64_w, i32_w]
          rfl
        refine pure_ (i := 11) (N := some 11) (v := ?_) (a' := ?_) #[true, true, true, true, true, true, true, true, true, true, true, true] rfl rfl (any_of HT_.out (by kernel_rfl)) (fun _ _ _ h => h) (Or.inl ⟨by rfl, ?_⟩) ?_ ?_
        rotate_left
        · intro w'
          go_simp
          with_reducible rfl
        rotate_left
        · simp only [Act.put, List.setIfInBounds_toArray, List.set_cons_zero, List.set_cons_succ, i64_w, i32_w]
          rfl
        refine done_ (done_of HT_.out (by kernel_rfl)) ?_
        go_upto_region 14 with (fail)
        go_cut [85] (fun v85 wc => ∃ (kq : Nat) (x85_29 : Bool), v85 = .bool x85_29 ∧ Aside0 (bits_Narrow.j0 kq ji12 ji28 x85_29 t173 t174 t175 t176 = some (r1, r2, r3)) ∧ Aside0 (kq ≤ k) ∧ Aside0 (wc.heap[gb178]? = some (.cells #[.bool t173, .int .i64 t174, .int .u64 t175, .int .i64 t176] 24 (0, 0))) ∧ Aside0 (wc.heap[gb183]? = some (.cells #[.int .i64 23, .int .i64 8] 65 (0, 0))) ∧ Aside0 (Below w.heap.size w wc))
        case first =>
          have H := HC30.out
          clear HC30
          by_cases c43 : (Go.bits .and .u64 t175 (IntKind.u64.wrap ((ji29) - 1))) > ((ji29) / 2)
          · rw [if_pos c43] at H
            have c43b0 : decide (((ji29) / 2) < (Go.bits .and .u64 t175 (IntKind.u64.wrap ((ji29) - 1)))) = true := decide_eq_true c43
            clear c43
            (first | rw [c43b0] | (simp only [i64_w, i32_w]; rw [c43b0]) | skip)
            have H' := Aside0.mk H
            clear H
            go_wp2
            go_meet
            case rel => exact ⟨_, (true), (by first | rfl | (simp; done) | (simp [*]; done)), H', ⟨by first | omega | exact Nat.le_refl _⟩, ⟨by (with_reducible repeat (first | refine blk_drewN ?_ _ | refine blk_drew ?_ | refine blk_alloc ?_ _)); exact BK178.out⟩, ⟨by (with_reducible repeat (first | refine blk_drewN ?_ _ | refine blk_drew ?_ | refine blk_alloc ?_ _)); exact BK183.out⟩, ⟨by repeat (first | (with_reducible first | exact HB.out | apply below_alloc | apply pw_below_drewN | apply below_drew1 | refine below_set ?_ GE178.out | refine below_set ?_ GE183.out) | exact HB.out)⟩⟩
          · rw [if_neg c43] at H
            have c43b0 : decide (((ji29) / 2) < (Go.bits .and .u64 t175 (IntKind.u64.wrap ((ji29) - 1)))) = false := decide_eq_false c43
            clear c43
            (first | rw [c43b0] | (simp only [i64_w, i32_w]; rw [c43b0]) | skip)
            by_cases c44 : (Go.bits .and .u64 t175 (IntKind.u64.wrap ((ji29) - 1))) = ((ji29) / 2)
            · rw [if_pos c44] at H
              have c44b0 : ((Go.bits .and .u64 t175 (IntKind.u64.wrap ((ji29) - 1))) == ((ji29) / 2)) = true := beq_iff_eq.mpr c44
              have c44b1 : ((Go.bits .and .u64 t175 (IntKind.u64.wrap ((ji29) - 1))) != ((ji29) / 2)) = false := bne_eq_false_iff_eq.mpr c44
              clear c44
              by_cases c45 : (Go.bits .and .u64 t175 (IntKind.u64.wrap ((ji29) - 1))) > 0
              · rw [if_pos c45] at H
                have c45b0 : decide (0 < (Go.bits .and .u64 t175 (IntKind.u64.wrap ((ji29) - 1)))) = true := decide_eq_true c45
                clear c45
                have H' := Aside0.mk H
                clear H
                go_wp2
                go_meet
                case rel => exact ⟨_, (((Int.tmod (ji28) 2) == 1)), (by first | rfl | (simp; done) | (simp only [← hji28] <;> (first | rfl | simp)) | (simp [*]; done)), H', ⟨by first | omega | exact Nat.le_refl _⟩, ⟨by (with_reducible repeat (first | refine blk_drewN ?_ _ | refine blk_drew ?_ | refine blk_alloc ?_ _)); exact BK178.out⟩, ⟨by (with_reducible repeat (first | refine blk_drewN ?_ _ | refine blk_drew ?_ | refine blk_alloc ?_ _)); exact BK183.out⟩, ⟨by repeat (first | (with_reducible first | exact HB.out | apply below_alloc | apply pw_below_drewN | apply below_drew1 | refine below_set ?_ GE178.out | refine below_set ?_ GE183.out) | exact HB.out)⟩⟩
              · rw [if_neg c45] at H
                have c45b0 : decide (0 < (Go.bits .and .u64 t175 (IntKind.u64.wrap ((ji29) - 1)))) = false := decide_eq_false c45
                clear c45
                have H' := Aside0.mk H
                clear H
                go_wp2
                go_meet
                case rel => exact ⟨_, (false), (by first | rfl | (simp; done) | (simp [*]; done)), H', ⟨by first | omega | exact Nat.le_refl _⟩, ⟨by (with_reducible repeat (first | refine blk_drewN ?_ _ | refine blk_drew ?_ | refine blk_alloc ?_ _)); exact BK178.out⟩, ⟨by (with_reducible repeat (first | refine blk_drewN ?_ _ | refine blk_drew ?_ | refine blk_alloc ?_ _)); exact BK183.out⟩, ⟨by repeat (first | (with_reducible first | exact HB.out | apply below_alloc | apply pw_below_drewN | apply below_drew1 | refine below_set ?_ GE178.out | refine below_set ?_ GE183.out) | exact HB.out)⟩⟩
            · rw [if_neg c44] at H
              have c44b0 : ((Go.bits .and .u64 t175 (IntKind.u64.wrap ((ji29) - 1))) == ((ji29) / 2)) = false := beq_eq_false_iff_ne.mpr c44
              have c44b1 : ((Go.bits .and .u64 t175 (IntKind.u64.wrap ((ji29) - 1))) != ((ji29) / 2)) = true := bne_iff_ne.mpr c44
              have H' := Aside0.mk H
              clear H
              go_wp2
              go_meet
              case rel => exact ⟨_, (false), (by first | rfl | (simp; done) | (simp [*]; done)), H', ⟨by first | omega | exact Nat.le_refl _⟩, ⟨by (with_reducible repeat (first | refine blk_drewN ?_ _ | refine blk_drew ?_ | refine blk_alloc ?_ _)); exact BK178.out⟩, ⟨by (with_reducible repeat (first | refine blk_drewN ?_ _ | refine blk_drew ?_ | refine blk_alloc ?_ _)); exact BK183.out⟩, ⟨by repeat (first | (with_reducible first | exact HB.out | apply below_alloc | apply pw_below_drewN | apply below_drew1 | refine below_set ?_ GE178.out | refine below_set ?_ GE183.out) | exact HB.out)⟩⟩
        case rest =>
          clear HC30
          try clear c1
          try clear q1
          try clear c2
          try clear p2
          try clear c3
          try clear c4
          try clear p6
          try clear c9
          try clear c11
          try clear c13
          try clear c13b0
          try clear c17
          try clear q18
          try clear c20
          try clear c26
          try clear c36
          try clear c41
          try clear c43
          try clear c43b0
          try clear c44
          try clear c44b0
          try clear c44b1
          try clear c45
          try clear c45b0
          try clear hcz17_0
          try clear hcz17_1
          try clear hcz17_2
          try clear hcz17_3
          try clear hcz21_0
          try clear hcz21_1
          try clear hcz26_0
          try clear hcz26_1
          try clear hcz26_2
          try clear hcz26_3
          try clear hcz33_0
          try clear hcz33_1
          try clear hcz33_2
          try clear hcz33_3
          try clear hcz37_0
          try clear hcz37_1
          try clear hfz17_0
          try clear hfz17_1
          try clear hfz17_2
          try clear hfz17_3
          try clear hfz21_0
          try clear hfz21_1
          try clear hfz26_0
          try clear hfz26_1
          try clear hfz26_2
          try clear hfz26_3
          try clear hfz33_0
          try clear hfz33_1
          try clear hfz33_2
          try clear hfz33_3
          try clear hfz37_0
          try clear hfz37_1
          try clear q182
          obtain ⟨kq, x85_29, rfl, HA, HJ29, BK178, BK183, HB⟩ := hcut
          cases kq with
          | zero => exact absurd HA.out (by simp [bits_Narrow.j0])
          | succ kj29 =>
            have H := HA.out
            clear HA
            simp only [bits_Narrow.j0] at H
            have HC46 := Aside0.mk H
            clear H
            go_upto_if 85 with (fail)
            go_cut [10] (fun v10 wc => ∃ (kq : Nat) (x10_45 : Int), v10 = .int .u64 x10_45 ∧ Aside0 (bits_Narrow.j1 kq ji12 x10_45 t173 t174 t175 t176 = some (r1, r2, r3)) ∧ Aside0 (kq ≤ kj29) ∧ Aside0 (wc.heap[gb178]? = some (.cells #[.bool t173, .int .i64 t174, .int .u64 t175, .int .i64 t176] 24 (0, 0))) ∧ Aside0 (wc.heap[gb183]? = some (.cells #[.int .i64 23, .int .i64 8] 65 (0, 0))) ∧ Aside0 (Below w.heap.size w wc))
            case first =>
              have H := HC46.out
              clear HC46
              by_cases c47 : x85_29 = true
              · subst c47
                have H1 : (bits_Narrow.j1 kj29 ji12 (IntKind.u64.wrap (ji28 + 1)) t173 t174 t175 t176) = some (r1, r2, r3) := by rw [if_pos rfl] at H; exact H
                clear H
                have H := H1
                clear H1
                have H' := Aside0.mk H
                clear H
                go_wp2
                go_meet
                case rel => exact ⟨_, (IntKind.u64.wrap (ji28 + 1)), (by first | rfl | (simp; done) | (simp only [← hji28] <;> (first | rfl | simp)) | (simp [*]; done)), H', ⟨by have := HJ29.out; first | omega | exact Nat.le_refl _⟩, ⟨by (with_reducible repeat (first | refine blk_drewN ?_ _ | refine blk_drew ?_ | refine blk_alloc ?_ _)); exact BK178.out⟩, ⟨by (with_reducible repeat (first | refine blk_drewN ?_ _ | refine blk_drew ?_ | refine blk_alloc ?_ _)); exact BK183.out⟩, ⟨by repeat (first | (with_reducible first | exact HB.out | apply below_alloc | apply pw_below_drewN | apply below_drew1 | refine below_set ?_ GE178.out | refine below_set ?_ GE183.out) | exact HB.out)⟩⟩
              · replace c47 := Bool.eq_false_iff.mpr c47
                subst c47
                have H1 : (bits_Narrow.j1 kj29 ji12 ji28 t173 t174 t175 t176) = some (r1, r2, r3) := by rw [if_neg (show ¬ (false = true) by decide)] at H; exact H
                clear H
                have H := H1
                clear H1
                have H' := Aside0.mk H
                clear H
                go_wp2
                go_meet
                case rel => exact ⟨_, (ji28), (by first | rfl | (simp; done) | (simp only [← hji28] <;> (first | rfl | simp)) | (simp [*]; done)), H', ⟨by have := HJ29.out; first | omega | exact Nat.le_refl _⟩, ⟨by (with_reducible repeat (first | refine blk_drewN ?_ _ | refine blk_drew ?_ | refine blk_alloc ?_ _)); exact BK178.out⟩, ⟨by (with_reducible repeat (first | refine blk_drewN ?_ _ | refine blk_drew ?_ | refine blk_alloc ?_ _)); exact BK183.out⟩, ⟨by repeat (first | (with_reducible first | exact HB.out | apply below_alloc | apply pw_below_drewN | apply below_drew1 | refine below_set ?_ GE178.out | refine below_set ?_ GE183.out) | exact HB.out)⟩⟩
            case rest =>
              clear HC46
              try clear c1
              try clear q1
              try clear c2
              try clear p2
              try clear c3
              try clear c4
              try clear p6
              try clear c9
              try clear c11
              try clear c13
              try clear c13b0
              try clear c17
              try clear q18
              try clear c20
              try clear c26
              try clear c36
              try clear c41
              try clear c43
              try clear c43b0
              try clear c44
              try clear c44b0
              try clear c44b1
              try clear c45
              try clear c45b0
              try clear c47
              try clear hcz17_0
              try clear hcz17_1
              try clear hcz17_2
              try clear hcz17_3
              try clear hcz21_0
              try clear hcz21_1
              try clear hcz26_0
              try clear hcz26_1
              try clear hcz26_2
              try clear hcz26_3
              try clear hcz33_0
              try clear hcz33_1
              try clear hcz33_2
              try clear hcz33_3
              try clear hcz37_0
              try clear hcz37_1
              try clear hfz17_0
              try clear hfz17_1
              try clear hfz17_2
              try clear hfz17_3
              try clear hfz21_0
              try clear hfz21_1
              try clear hfz26_0
              try clear hfz26_1
              try clear hfz26_2
              try clear hfz26_3
              try clear hfz33_0
              try clear hfz33_1
              try clear hfz33_2
              try clear hfz33_3
              try clear hfz37_0
              try clear hfz37_1
              try clear p2
              try clear p6
              try clear q1
              try clear q18
              try clear q182
              obtain ⟨kq, x10_45, rfl, HA, HJ45, BK178, BK183, HB⟩ := hcut
              cases kq with
              | zero => exact absurd HA.out (by simp [bits_Narrow.j1])
              | succ kj45 =>
                have H := HA.out
                clear HA
                simp only [bits_Narrow.j1] at H
                have HC48 := Aside0.mk H
                clear H
                have hnb49 := NB178_183.out
                have hnc49 := NB183_178.out
                have hcz50_0 : wc.cell? ⟨gb178, 0, none⟩ = some (.bool t173) := (blk_cell BK178.out 0).trans rfl
                have hcz50_1 : wc.cell? ⟨gb178, 1, none⟩ = some (.int .i64 t174) := (blk_cell BK178.out 1).trans rfl
                have hcz50_2 : wc.cell? ⟨gb178, 2, none⟩ = some (.int .u64 t175) := (blk_cell BK178.out 2).trans rfl
                have hcz50_3 : wc.cell? ⟨gb178, 3, none⟩ = some (.int .i64 t176) := (blk_cell BK178.out 3).trans rfl
                have hfz50_0 := blk_frozen BK178.out 0
                have hfz50_1 := blk_frozen BK178.out 1
                have hfz50_2 := blk_frozen BK178.out 2
                have hfz50_3 := blk_frozen BK178.out 3
                go_upto_if 97 with (first | ((with_reducible refine gate_dst (N := 13) rfl ?_); refine box_event ?hg (N := 13) ?hd (cs := #[.bool false, .int .i64 0, .int .u64 0, .int .i64 0]) (t := 24) ?hr ?_; (case hd => rfl); (case hg => rfl); (case hr => first | (go_simp; done) | (go_simp; rfl)); intro gb188 hg w51 hbox hb; have n0_ := Aside0.mk (blk_below (g := gb178) (o := .cells #[.bool t173, .int .i64 t174, .int .u64 t175, .int .i64 t176] 24 (0, 0)) (by (with_reducible repeat (first | refine blk_drewN ?_ _ | refine blk_drew ?_ | refine blk_alloc ?_ _)); exact BK178.out) hb); have n1_ := Aside0.mk (blk_below (g := gb183) (o := .cells #[.int .i64 23, .int .i64 8] 65 (0, 0)) (by (with_reducible repeat (first | refine blk_drewN ?_ _ | refine blk_drew ?_ | refine blk_alloc ?_ _)); exact BK183.out) hb); have n2_ := Aside0.mk (below_step (by repeat (first | (with_reducible first | exact HB.out | apply below_alloc | apply pw_below_drewN | apply below_drew1 | refine below_set ?_ GE178.out | refine below_set ?_ GE183.out) | exact HB.out)) hb); have n3_ := Aside0.mk (hbox); have n4_ := Aside0.mk ((by rw [hg]; exact (below_size (by repeat (first | (with_reducible first | exact HB.out | apply below_alloc | apply pw_below_drewN | apply below_drew1 | refine below_set ?_ GE178.out | refine below_set ?_ GE183.out) | exact HB.out))) : w.heap.size ≤ gb188)); have n5_ := Aside0.mk ((by rw [hg]; exact (below_size (by repeat (first | (with_reducible first | exact HB.out | apply below_alloc | apply pw_below_drewN | apply below_drew1 | refine below_set ?_ GE178.out | refine below_set ?_ GE183.out) | exact HB.out))) : w.heap.size ≤ gb188)); have n6_ := Aside0.mk ((by rw [hg]; exact Nat.ne_of_lt (blk_lt (g := gb178) (o := .cells #[.bool t173, .int .i64 t174, .int .u64 t175, .int .i64 t176] 24 (0, 0)) (by (with_reducible repeat (first | refine blk_drewN ?_ _ | refine blk_drew ?_ | refine blk_alloc ?_ _)); exact BK178.out)) : gb178 ≠ gb188)); have n7_ := Aside0.mk ((by rw [hg]; exact Nat.ne_of_gt (blk_lt (g := gb178) (o := .cells #[.bool t173, .int .i64 t174, .int .u64 t175, .int .i64 t176] 24 (0, 0)) (by (with_reducible repeat (first | refine blk_drewN ?_ _ | refine blk_drew ?_ | refine blk_alloc ?_ _)); exact BK178.out)) : gb188 ≠ gb178)); have n8_ := Aside0.mk ((by rw [hg]; exact Nat.ne_of_lt (blk_lt (g := gb183) (o := .cells #[.int .i64 23, .int .i64 8] 65 (0, 0)) (by (with_reducible repeat (first | refine blk_drewN ?_ _ | refine blk_drew ?_ | refine blk_alloc ?_ _)); exact BK183.out)) : gb183 ≠ gb188)); have n9_ := Aside0.mk ((by rw [hg]; exact Nat.ne_of_gt (blk_lt (g := gb183) (o := .cells #[.int .i64 23, .int .i64 8] 65 (0, 0)) (by (with_reducible repeat (first | refine blk_drewN ?_ _ | refine blk_drew ?_ | refine blk_alloc ?_ _)); exact BK183.out)) : gb188 ≠ gb183)); clear BK178; clear BK183; clear HB; have BK178 := n0_; have BK183 := n1_; have HB := n2_; have BK188 := n3_; have GW188 := n4_; have GE188 := n5_; have NB178_188 := n6_; have NB188_178 := n7_; have NB183_188 := n8_; have NB188_183 := n9_; clear n0_ n1_ n2_ n3_ n4_ n5_ n6_ n7_ n8_ n9_; clear hb hbox hg; have hnb52 := NB188_178.out; have hnc52 := NB178_188.out; have hnb53 := NB188_183.out; have hnc53 := NB183_188.out; have hcz54_0 : w51.cell? ⟨gb188, 0, none⟩ = some (.bool false) := (blk_cell BK188.out 0).trans rfl; have hcz54_1 : w51.cell? ⟨gb188, 1, none⟩ = some (.int .i64 0) := (blk_cell BK188.out 1).trans rfl; have hcz54_2 : w51.cell? ⟨gb188, 2, none⟩ = some (.int .u64 0) := (blk_cell BK188.out 2).trans rfl; have hcz54_3 : w51.cell? ⟨gb188, 3, none⟩ = some (.int .i64 0) := (blk_cell BK188.out 3).trans rfl; have hfz54_0 := blk_frozen BK188.out 0; have hfz54_1 := blk_frozen BK188.out 1; have hfz54_2 := blk_frozen BK188.out 2; have hfz54_3 := blk_frozen BK188.out 3))
                (try simp only [Act.put, List.setIfInBounds_toArray, List.set_cons_zero, List.set_cons_succ])
                go_cut [] (fun wc => ∃ (kq : Nat) (x189001_47 : Int), Aside0 (bits_Narrow.j2 kq t173 t174 t175 t176 t173 x189001_47 x10_45 (wrap64 (t176 + ji12)) = some (r1, r2, r3)) ∧ Aside0 (kq ≤ kj45) ∧ Aside0 (wc.heap[gb178]? = some (.cells #[.bool t173, .int .i64 t174, .int .u64 t175, .int .i64 t176] 24 (0, 0))) ∧ Aside0 (wc.heap[gb183]? = some (.cells #[.int .i64 23, .int .i64 8] 65 (0, 0))) ∧ Aside0 (wc.heap[gb188]? = some (.cells #[.bool t173, .int .i64 x189001_47, .int .u64 x10_45, .int .i64 (wrap64 (t176 + ji12))] 24 (0, 0))) ∧ Aside0 (Below w.heap.size w wc))
                case first =>
                  have H := HC48.out
                  clear HC48
                  by_cases c55 : x10_45 = 0
                  · rw [if_pos c55] at H
                    have c55b0 : (x10_45 == 0) = true := beq_iff_eq.mpr c55
                    have c55b1 : (x10_45 != 0) = false := bne_eq_false_iff_eq.mpr c55
                    clear c55
                    (first | rw [c55b0] | (simp only [i64_w, i32_w]; rw [c55b0]) | skip)
                    have H' := Aside0.mk H
                    clear H
                    have hnb56 := NB188_178.out
                    have hnc56 := NB178_188.out
                    have hnb57 := NB188_183.out
                    have hnc57 := NB183_188.out
                    have hcz58_0 : w51.cell? ⟨gb188, 0, none⟩ = some (.bool false) := (blk_cell BK188.out 0).trans rfl
                    have hcz58_1 : w51.cell? ⟨gb188, 1, none⟩ = some (.int .i64 0) := (blk_cell BK188.out 1).trans rfl
                    have hcz58_2 : w51.cell? ⟨gb188, 2, none⟩ = some (.int .u64 0) := (blk_cell BK188.out 2).trans rfl
                    have hcz58_3 : w51.cell? ⟨gb188, 3, none⟩ = some (.int .i64 0) := (blk_cell BK188.out 3).trans rfl
                    have hfz58_0 := blk_frozen BK188.out 0
                    have hfz58_1 := blk_frozen BK188.out 1
                    have hfz58_2 := blk_frozen BK188.out 2
                    have hfz58_3 := blk_frozen BK188.out 3
                    go_wp2
                    go_meet
                    case rel => exact ⟨_, (1), H', ⟨by have := HJ29.out; have := HJ45.out; first | omega | exact Nat.le_refl _⟩, ⟨by (with_reducible repeat (first | refine blk_drewN ?_ _ | refine blk_drew ?_ | refine blk_alloc ?_ _)); refine blk_far ?_ NB178_188.out _; (with_reducible repeat (first | refine blk_drewN ?_ _ | refine blk_drew ?_ | refine blk_alloc ?_ _)); refine blk_far ?_ NB178_188.out _; (with_reducible repeat (first | refine blk_drewN ?_ _ | refine blk_drew ?_ | refine blk_alloc ?_ _)); refine blk_far ?_ NB178_188.out _; (with_reducible repeat (first | refine blk_drewN ?_ _ | refine blk_drew ?_ | refine blk_alloc ?_ _)); refine blk_far ?_ NB178_188.out _; (with_reducible repeat (first | refine blk_drewN ?_ _ | refine blk_drew ?_ | refine blk_alloc ?_ _)); refine blk_far ?_ NB178_188.out _; (with_reducible repeat (first | refine blk_drewN ?_ _ | refine blk_drew ?_ | refine blk_alloc ?_ _)); exact BK178.out⟩, ⟨by (with_reducible repeat (first | refine blk_drewN ?_ _ | refine blk_drew ?_ | refine blk_alloc ?_ _)); refine blk_far ?_ NB183_188.out _; (with_reducible repeat (first | refine blk_drewN ?_ _ | refine blk_drew ?_ | refine blk_alloc ?_ _)); refine blk_far ?_ NB183_188.out _; (with_reducible repeat (first | refine blk_drewN ?_ _ | refine blk_drew ?_ | refine blk_alloc ?_ _)); refine blk_far ?_ NB183_188.out _; (with_reducible repeat (first | refine blk_drewN ?_ _ | refine blk_drew ?_ | refine blk_alloc ?_ _)); refine blk_far ?_ NB183_188.out _; (with_reducible repeat (first | refine blk_drewN ?_ _ | refine blk_drew ?_ | refine blk_alloc ?_ _)); refine blk_far ?_ NB183_188.out _; (with_reducible repeat (first | refine blk_drewN ?_ _ | refine blk_drew ?_ | refine blk_alloc ?_ _)); exact BK183.out⟩, ⟨by (with_reducible repeat (first | refine blk_drewN ?_ _ | refine blk_drew ?_ | refine blk_alloc ?_ _)); refine blk_put (cs := #[.bool t173, .int .i64 2, .int .u64 x10_45, .int .i64 (wrap64 (t176 + ji12))]) ?_ 1 _ rfl; (with_reducible repeat (first | refine blk_drewN ?_ _ | refine blk_drew ?_ | refine blk_alloc ?_ _)); refine blk_put (cs := #[.bool t173, .int .i64 2, .int .u64 x10_45, .int .i64 0]) ?_ 3 _ rfl; (with_reducible repeat (first | refine blk_drewN ?_ _ | refine blk_drew ?_ | refine blk_alloc ?_ _)); refine blk_put (cs := #[.bool t173, .int .i64 2, .int .u64 0, .int .i64 0]) ?_ 2 _ rfl; (with_reducible repeat (first | refine blk_drewN ?_ _ | refine blk_drew ?_ | refine blk_alloc ?_ _)); refine blk_put (cs := #[.bool t173, .int .i64 0, .int .u64 0, .int .i64 0]) ?_ 1 _ rfl; (with_reducible repeat (first | refine blk_drewN ?_ _ | refine blk_drew ?_ | refine blk_alloc ?_ _)); refine blk_put (cs := #[.bool false, .int .i64 0, .int .u64 0, .int .i64 0]) ?_ 0 _ rfl; (with_reducible repeat (first | refine blk_drewN ?_ _ | refine blk_drew ?_ | refine blk_alloc ?_ _)); exact BK188.out⟩, ⟨by repeat (first | (with_reducible first | exact HB.out | apply below_alloc | apply pw_below_drewN | apply below_drew1 | refine below_set ?_ GE178.out | refine below_set ?_ GE183.out | refine below_set ?_ GE188.out) | exact HB.out)⟩⟩
                  · rw [if_neg c55] at H
                    have c55b0 : (x10_45 == 0) = false := beq_eq_false_iff_ne.mpr c55
                    have c55b1 : (x10_45 != 0) = true := bne_iff_ne.mpr c55
                    (first | rw [c55b0] | (simp only [i64_w, i32_w]; rw [c55b0]) | skip)
                    have H' := Aside0.mk H
                    clear H
                    go_wp2
                    go_meet
                    case rel => exact ⟨_, (2), H', ⟨by have := HJ29.out; have := HJ45.out; first | omega | exact Nat.le_refl _⟩, ⟨by (with_reducible repeat (first | refine blk_drewN ?_ _ | refine blk_drew ?_ | refine blk_alloc ?_ _)); refine blk_far ?_ NB178_188.out _; (with_reducible repeat (first | refine blk_drewN ?_ _ | refine blk_drew ?_ | refine blk_alloc ?_ _)); refine blk_far ?_ NB178_188.out _; (with_reducible repeat (first | refine blk_drewN ?_ _ | refine blk_drew ?_ | refine blk_alloc ?_ _)); refine blk_far ?_ NB178_188.out _; (with_reducible repeat (first | refine blk_drewN ?_ _ | refine blk_drew ?_ | refine blk_alloc ?_ _)); refine blk_far ?_ NB178_188.out _; (with_reducible repeat (first | refine blk_drewN ?_ _ | refine blk_drew ?_ | refine blk_alloc ?_ _)); exact BK178.out⟩, ⟨by (with_reducible repeat (first | refine blk_drewN ?_ _ | refine blk_drew ?_ | refine blk_alloc ?_ _)); refine blk_far ?_ NB183_188.out _; (with_reducible repeat (first | refine blk_drewN ?_ _ | refine blk_drew ?_ | refine blk_alloc ?_ _)); refine blk_far ?_ NB183_188.out _; (with_reducible repeat (first | refine blk_drewN ?_ _ | refine blk_drew ?_ | refine blk_alloc ?_ _)); refine blk_far ?_ NB183_188.out _; (with_reducible repeat (first | refine blk_drewN ?_ _ | refine blk_drew ?_ | refine blk_alloc ?_ _)); refine blk_far ?_ NB183_188.out _; (with_reducible repeat (first | refine blk_drewN ?_ _ | refine blk_drew ?_ | refine blk_alloc ?_ _)); exact BK183.out⟩, ⟨by (with_reducible repeat (first | refine blk_drewN ?_ _ | refine blk_drew ?_ | refine blk_alloc ?_ _)); refine blk_put (cs := #[.bool t173, .int .i64 2, .int .u64 x10_45, .int .i64 0]) ?_ 3 _ rfl; (with_reducible repeat (first | refine blk_drewN ?_ _ | refine blk_drew ?_ | refine blk_alloc ?_ _)); refine blk_put (cs := #[.bool t173, .int .i64 2, .int .u64 0, .int .i64 0]) ?_ 2 _ rfl; (with_reducible repeat (first | refine blk_drewN ?_ _ | refine blk_drew ?_ | refine blk_alloc ?_ _)); refine blk_put (cs := #[.bool t173, .int .i64 0, .int .u64 0, .int .i64 0]) ?_ 1 _ rfl; (with_reducible repeat (first | refine blk_drewN ?_ _ | refine blk_drew ?_ | refine blk_alloc ?_ _)); refine blk_put (cs := #[.bool false, .int .i64 0, .int .u64 0, .int .i64 0]) ?_ 0 _ rfl; (with_reducible repeat (first | refine blk_drewN ?_ _ | refine blk_drew ?_ | refine blk_alloc ?_ _)); exact BK188.out⟩, ⟨by repeat (first | (with_reducible first | exact HB.out | apply below_alloc | apply pw_below_drewN | apply below_drew1 | refine below_set ?_ GE178.out | refine below_set ?_ GE183.out | refine below_set ?_ GE188.out) | exact HB.out)⟩⟩
                case rest =>
                  clear HC48
                  try clear c1
                  try clear q1
                  try clear c2
                  try clear p2
                  try clear c3
                  try clear c4
                  try clear c5
                  try clear p6
                  try clear c9
                  try clear c11
                  try clear c13
                  try clear c13b0
                  try clear c17
                  try clear q18
                  try clear c20
                  try clear c26
                  try clear c36
                  try clear c41
                  try clear c43
                  try clear c43b0
                  try clear c44
                  try clear c44b0
                  try clear c44b1
                  try clear c45
                  try clear c45b0
                  try clear c47
                  try clear c49
                  try clear c52
                  try clear c53
                  try clear c55
                  try clear c55b0
                  try clear c55b1
                  try clear c56
                  try clear c57
                  try clear hcz17_0
                  try clear hcz17_1
                  try clear hcz17_2
                  try clear hcz17_3
                  try clear hcz21_0
                  try clear hcz21_1
                  try clear hcz26_0
                  try clear hcz26_1
                  try clear hcz26_2
                  try clear hcz26_3
                  try clear hcz33_0
                  try clear hcz33_1
                  try clear hcz33_2
                  try clear hcz33_3
                  try clear hcz37_0
                  try clear hcz37_1
                  try clear hcz50_0
                  try clear hcz50_1
                  try clear hcz50_2
                  try clear hcz50_3
                  try clear hcz54_0
                  try clear hcz54_1
                  try clear hcz54_2
                  try clear hcz54_3
                  try clear hcz58_0
                  try clear hcz58_1
                  try clear hcz58_2
                  try clear hcz58_3
                  try clear hfz17_0
                  try clear hfz17_1
                  try clear hfz17_2
                  try clear hfz17_3
                  try clear hfz21_0
                  try clear hfz21_1
                  try clear hfz26_0
                  try clear hfz26_1
                  try clear hfz26_2
                  try clear hfz26_3
                  try clear hfz33_0
                  try clear hfz33_1
                  try clear hfz33_2
                  try clear hfz33_3
                  try clear hfz37_0
                  try clear hfz37_1
                  try clear hfz50_0
                  try clear hfz50_1
                  try clear hfz50_2
                  try clear hfz50_3
                  try clear hfz54_0
                  try clear hfz54_1
                  try clear hfz54_2
                  try clear hfz54_3
                  try clear hfz58_0
                  try clear hfz58_1
                  try clear hfz58_2
                  try clear hfz58_3
                  try clear p2
                  try clear p6
                  try clear q1
                  try clear q18
                  try clear q182
                  obtain ⟨kq, x189001_47, HA, HJ47, BK178, BK183, BK188, HB⟩ := hcut
                  cases kq with
                  | zero => exact absurd HA.out (by simp [bits_Narrow.j2])
                  | succ kj47 =>
                    have H := HA.out
                    clear HA
                    simp only [bits_Narrow.j2] at H
                    replace H := Option.bind_eq_some_iff.mp H
                    obtain ⟨⟨t189, t190⟩, A590, H⟩ := H
                    replace H : (if t190.isNone = true then (some (t189, false, none)) else ((bits_Inf.f kj47 t173 32).bind fun bt192 => (some (bt192.1, false, none)))) = some (r1, r2, r3) := H
                    have A59 := Aside0.mk A590
                    clear A590
                    rcases t190 with _ | q191
                    · have H1 : (some (t189, false, none)) = some (r1, r2, r3) := by rw [if_pos (show (none : Option Int).isNone = true by rfl)] at H; exact H
                      clear H
                      have H := H1
                      clear H1
                      try simp only [errW_none, errW_some]
                      simp only [Option.some.injEq, Prod.mk.injEq] at H
                      obtain ⟨rfl, rfl, rfl⟩ := H
                      have hnb60 := NB188_178.out
                      have hnc60 := NB178_188.out
                      have hnb61 := NB188_183.out
                      have hnc61 := NB183_188.out
                      have hcz62_0 : wc.cell? ⟨gb188, 0, none⟩ = some (.bool t173) := (blk_cell BK188.out 0).trans rfl
                      have hcz62_1 : wc.cell? ⟨gb188, 1, none⟩ = some (.int .i64 x189001_47) := (blk_cell BK188.out 1).trans rfl
                      have hcz62_2 : wc.cell? ⟨gb188, 2, none⟩ = some (.int .u64 x10_45) := (blk_cell BK188.out 2).trans rfl
                      have hcz62_3 : wc.cell? ⟨gb188, 3, none⟩ = some (.int .i64 (wrap64 (t176 + ji12))) := (blk_cell BK188.out 3).trans rfl
                      have hfz62_0 := blk_frozen BK188.out 0
                      have hfz62_1 := blk_frozen BK188.out 1
                      have hfz62_2 := blk_frozen BK188.out 2
                      have hfz62_3 := blk_frozen BK188.out 3
                      go_wp2_with (first | ((with_reducible refine gate_callee (f := 11) rfl ?_); refine goesL_ (some 101) rfl rfl Tryd.func11 (by kernel_rfl) rfl #[.agg #[.bool t173, .int .i64 x189001_47, .int .u64 x10_45, .int .i64 (wrap64 (t176 + ji12))], .int .i64 32] rfl (by (try simp only [List.map_toArray, List.map_cons, List.map_nil]); first | done | (simp only [hji12]; rfl) | rfl | (simp only [List.length_drop, List.length_take]; rfl)) ?_; (with_reducible refine (bits_Pack.calls kj47 t173 x189001_47 x10_45 (wrap64 (t176 + ji12)) 32 t189 none _ ?side1 A59.out).mono ?_); (case side1 => exact Laid_DB64.of_below HL_DB64.out (by repeat (first | (with_reducible first | exact HB.out | apply below_alloc | apply pw_below_drewN | apply below_drew1 | refine below_set ?_ GE178.out | refine below_set ?_ GE183.out | refine below_set ?_ GE188.out) | exact HB.out))); rintro e w63 ⟨rfl, hb⟩; refine ⟨_, rfl, ?_⟩; have n0_ := Aside0.mk (blk_below (g := gb178) (o := .cells #[.bool t173, .int .i64 t174, .int .u64 t175, .int .i64 t176] 24 (0, 0)) (by (with_reducible repeat (first | refine blk_drewN ?_ _ | refine blk_drew ?_ | refine blk_alloc ?_ _)); exact BK178.out) hb); have n1_ := Aside0.mk (blk_below (g := gb183) (o := .cells #[.int .i64 23, .int .i64 8] 65 (0, 0)) (by (with_reducible repeat (first | refine blk_drewN ?_ _ | refine blk_drew ?_ | refine blk_alloc ?_ _)); exact BK183.out) hb); have n2_ := Aside0.mk (blk_below (g := gb188) (o := .cells #[.bool t173, .int .i64 x189001_47, .int .u64 x10_45, .int .i64 (wrap64 (t176 + ji12))] 24 (0, 0)) (by (with_reducible repeat (first | refine blk_drewN ?_ _ | refine blk_drew ?_ | refine blk_alloc ?_ _)); exact BK188.out) hb); have n3_ := Aside0.mk (below_step (by repeat (first | (with_reducible first | exact HB.out | apply below_alloc | apply pw_below_drewN | apply below_drew1 | refine below_set ?_ GE178.out | refine below_set ?_ GE183.out | refine below_set ?_ GE188.out) | exact HB.out)) hb); clear BK178; clear BK183; clear BK188; clear HB; have BK178 := n0_; have BK183 := n1_; have BK188 := n2_; have HB := n3_; clear n0_ n1_ n2_ n3_; (try clear hb); (try clear hb2); (try clear hk); (try clear hi); (try simp only [errW_none, errW_some])))
                      go_ret3
                      exact ⟨by first | rfl | (simp [errW_none, errW_some] <;> rfl) | (simp only [← hji11, ← hji12, ← hji28, ← hji29]; first | rfl | (simp [errW_none, errW_some] <;> rfl)) | (simp [*, errW_none, errW_some] <;> rfl), by repeat (first | (with_reducible first | exact HB.out | apply below_alloc | apply pw_below_drewN | apply below_drew1 | refine below_set ?_ GE178.out | refine below_set ?_ GE183.out | refine below_set ?_ GE188.out) | exact HB.out)⟩
                    · have H1 : ((bits_Inf.f kj47 t173 32).bind fun bt192 => (some (bt192.1, false, none))) = some (r1, r2, r3) := by rw [if_neg (show ¬ (some q191).isNone = true by simp)] at H; exact H
                      clear H
                      have H := H1
                      clear H1
                      try simp only [errW_none, errW_some]
                      replace H := Option.bind_eq_some_iff.mp H
                      obtain ⟨⟨t192, t193⟩, A640, H⟩ := H
                      replace H : (some (t192, false, none)) = some (r1, r2, r3) := H
                      have A64 := Aside0.mk A640
                      clear A640
                      simp only [Option.some.injEq, Prod.mk.injEq] at H
                      obtain ⟨rfl, rfl, rfl⟩ := H
                      have hnb65 := NB188_178.out
                      have hnc65 := NB178_188.out
                      have hnb66 := NB188_183.out
                      have hnc66 := NB183_188.out
                      have hcz67_0 : wc.cell? ⟨gb188, 0, none⟩ = some (.bool t173) := (blk_cell BK188.out 0).trans rfl
                      have hcz67_1 : wc.cell? ⟨gb188, 1, none⟩ = some (.int .i64 x189001_47) := (blk_cell BK188.out 1).trans rfl
                      have hcz67_2 : wc.cell? ⟨gb188, 2, none⟩ = some (.int .u64 x10_45) := (blk_cell BK188.out 2).trans rfl
                      have hcz67_3 : wc.cell? ⟨gb188, 3, none⟩ = some (.int .i64 (wrap64 (t176 + ji12))) := (blk_cell BK188.out 3).trans rfl
                      have hfz67_0 := blk_frozen BK188.out 0
                      have hfz67_1 := blk_frozen BK188.out 1
                      have hfz67_2 := blk_frozen BK188.out 2
                      have hfz67_3 := blk_frozen BK188.out 3
                      go_wp2_with (first | ((with_reducible refine gate_callee (f := 11) rfl ?_); refine goesL_ (some 101) rfl rfl Tryd.func11 (by kernel_rfl) rfl #[.agg #[.bool t173, .int .i64 x189001_47, .int .u64 x10_45, .int .i64 (wrap64 (t176 + ji12))], .int .i64 32] rfl (by (try simp only [List.map_toArray, List.map_cons, List.map_nil]); first | done | (simp only [hji12]; rfl) | rfl | (simp only [List.length_drop, List.length_take]; rfl)) ?_; (with_reducible refine (bits_Pack.calls kj47 t173 x189001_47 x10_45 (wrap64 (t176 + ji12)) 32 t189 (some q191) _ ?side1 A59.out).mono ?_); (case side1 => exact Laid_DB64.of_below HL_DB64.out (by repeat (first | (with_reducible first | exact HB.out | apply below_alloc | apply pw_below_drewN | apply below_drew1 | refine below_set ?_ GE178.out | refine below_set ?_ GE183.out | refine below_set ?_ GE188.out) | exact HB.out))); rintro e w68 ⟨rfl, hb⟩; refine ⟨_, rfl, ?_⟩; have n0_ := Aside0.mk (blk_below (g := gb178) (o := .cells #[.bool t173, .int .i64 t174, .int .u64 t175, .int .i64 t176] 24 (0, 0)) (by (with_reducible repeat (first | refine blk_drewN ?_ _ | refine blk_drew ?_ | refine blk_alloc ?_ _)); exact BK178.out) hb); have n1_ := Aside0.mk (blk_below (g := gb183) (o := .cells #[.int .i64 23, .int .i64 8] 65 (0, 0)) (by (with_reducible repeat (first | refine blk_drewN ?_ _ | refine blk_drew ?_ | refine blk_alloc ?_ _)); exact BK183.out) hb); have n2_ := Aside0.mk (blk_below (g := gb188) (o := .cells #[.bool t173, .int .i64 x189001_47, .int .u64 x10_45, .int .i64 (wrap64 (t176 + ji12))] 24 (0, 0)) (by (with_reducible repeat (first | refine blk_drewN ?_ _ | refine blk_drew ?_ | refine blk_alloc ?_ _)); exact BK188.out) hb); have n3_ := Aside0.mk (below_step (by repeat (first | (with_reducible first | exact HB.out | apply below_alloc | apply pw_below_drewN | apply below_drew1 | refine below_set ?_ GE178.out | refine below_set ?_ GE183.out | refine below_set ?_ GE188.out) | exact HB.out)) hb); clear BK178; clear BK183; clear BK188; clear HB; have BK178 := n0_; have BK183 := n1_; have BK188 := n2_; have HB := n3_; clear n0_ n1_ n2_ n3_; (try clear hb); (try clear hb2); (try clear hk); (try clear hi); (try simp only [errW_none, errW_some]); have hnb69 := NB178_183.out; have hnc69 := NB183_178.out; have hcz70_0 : w68.cell? ⟨gb178, 0, none⟩ = some (.bool t173) := (blk_cell BK178.out 0).trans rfl; have hcz70_1 : w68.cell? ⟨gb178, 1, none⟩ = some (.int .i64 t174) := (blk_cell BK178.out 1).trans rfl; have hcz70_2 : w68.cell? ⟨gb178, 2, none⟩ = some (.int .u64 t175) := (blk_cell BK178.out 2).trans rfl; have hcz70_3 : w68.cell? ⟨gb178, 3, none⟩ = some (.int .i64 t176) := (blk_cell BK178.out 3).trans rfl; have hfz70_0 := blk_frozen BK178.out 0; have hfz70_1 := blk_frozen BK178.out 1; have hfz70_2 := blk_frozen BK178.out 2; have hfz70_3 := blk_frozen BK178.out 3) | ((with_reducible refine gate_callee (f := 25) rfl ?_); refine goesL_ (some 109) rfl rfl Tryd.func25 (by kernel_rfl) rfl #[.bool t173, .int .i64 32] rfl (by (try simp only [List.map_toArray, List.map_cons, List.map_nil]); first | done | rfl | (simp only [List.length_drop, List.length_take]; rfl)) ?_; (with_reducible refine (bits_Inf.calls kj47 t173 32 t192 t193 _ ?side1 A64.out).mono ?_); (case side1 => exact Laid_DB64.of_below HL_DB64.out (by repeat (first | (with_reducible first | exact HB.out | apply below_alloc | apply pw_below_drewN | apply below_drew1 | refine below_set ?_ GE178.out | refine below_set ?_ GE183.out | refine below_set ?_ GE188.out) | exact HB.out))); rintro e w71 ⟨rfl, hb⟩; refine ⟨_, rfl, ?_⟩; have n0_ := Aside0.mk (blk_below (g := gb178) (o := .cells #[.bool t173, .int .i64 t174, .int .u64 t175, .int .i64 t176] 24 (0, 0)) (by (with_reducible repeat (first | refine blk_drewN ?_ _ | refine blk_drew ?_ | refine blk_alloc ?_ _)); exact BK178.out) hb); have n1_ := Aside0.mk (blk_below (g := gb183) (o := .cells #[.int .i64 23, .int .i64 8] 65 (0, 0)) (by (with_reducible repeat (first | refine blk_drewN ?_ _ | refine blk_drew ?_ | refine blk_alloc ?_ _)); exact BK183.out) hb); have n2_ := Aside0.mk (blk_below (g := gb188) (o := .cells #[.bool t173, .int .i64 x189001_47, .int .u64 x10_45, .int .i64 (wrap64 (t176 + ji12))] 24 (0, 0)) (by (with_reducible repeat (first | refine blk_drewN ?_ _ | refine blk_drew ?_ | refine blk_alloc ?_ _)); exact BK188.out) hb); have n3_ := Aside0.mk (below_step (by repeat (first | (with_reducible first | exact HB.out | apply below_alloc | apply pw_below_drewN | apply below_drew1 | refine below_set ?_ GE178.out | refine below_set ?_ GE183.out | refine below_set ?_ GE188.out) | exact HB.out)) hb); clear BK178; clear BK183; clear BK188; clear HB; have BK178 := n0_; have BK183 := n1_; have BK188 := n2_; have HB := n3_; clear n0_ n1_ n2_ n3_; (try clear hb); (try clear hb2); (try clear hk); (try clear hi); (try simp only [errW_none, errW_some])))
                      go_ret3
                      exact ⟨by first | rfl | (simp [errW_none, errW_some] <;> rfl) | (simp only [← hji11, ← hji12, ← hji28, ← hji29]; first | rfl | (simp [errW_none, errW_some] <;> rfl)) | (simp [*, errW_none, errW_some] <;> rfl), by repeat (first | (with_reducible first | exact HB.out | apply below_alloc | apply pw_below_drewN | apply below_drew1 | refine below_set ?_ GE178.out | refine below_set ?_ GE183.out | refine below_set ?_ GE188.out) | exact HB.out)⟩
  · have H1 : (some (0, false, some q179)) = some (r1, r2, r3) := by rw [if_neg (show ¬ (some q179).isNone = true by simp)] at H; exact H
    clear H
    have H := H1
    clear H1
    try simp only [errW_none, errW_some]
    simp only [Option.some.injEq, Prod.mk.injEq] at H
    obtain ⟨rfl, rfl, rfl⟩ := H
    go_enter Tryd.func17, Tryd.ntmps17
    go_wp2_with (first | ((with_reducible refine gate_callee (f := 9) rfl ?_); refine goesL_ (some 16) rfl rfl Tryd.func9 (by kernel_rfl) rfl #[.int .u64 a0, .int .i64 64] rfl (by (try simp only [List.map_toArray, List.map_cons, List.map_nil]); first | done | rfl | (simp only [List.length_drop, List.length_take]; rfl)) ?_; (with_reducible refine (bits_Unpack.calls a0 64 t173 t174 t175 t176 (some q179) _ A2.out).mono ?_); rintro e w72 ⟨rfl, hb⟩; refine ⟨_, rfl, ?_⟩; have n0_ := Aside0.mk (below_step (by repeat (first | (with_reducible first | exact HB.out | apply below_alloc | apply pw_below_drewN | apply below_drew1) | exact HB.out)) hb); clear HB; have HB := n0_; clear n0_; (try clear hb); (try clear hb2); (try clear hk); (try clear hi); (try simp only [errW_none, errW_some])) | ((with_reducible refine gate_dst (N := 5) rfl ?_); refine box_event ?hg (N := 5) ?hd (cs := #[.bool false, .int .i64 0, .int .u64 0, .int .i64 0]) (t := 24) ?hr ?_; (case hd => rfl); (case hg => rfl); (case hr => first | (go_simp; done) | (go_simp; rfl)); intro gb178 hg w73 hbox hb; have n0_ := Aside0.mk (below_step (by repeat (first | (with_reducible first | exact HB.out | apply below_alloc | apply pw_below_drewN | apply below_drew1) | exact HB.out)) hb); have n1_ := Aside0.mk (hbox); have n2_ := Aside0.mk ((by rw [hg]; exact (below_size (by repeat (first | (with_reducible first | exact HB.out | apply below_alloc | apply pw_below_drewN | apply below_drew1) | exact HB.out))) : w.heap.size ≤ gb178)); have n3_ := Aside0.mk ((by rw [hg]; exact (below_size (by repeat (first | (with_reducible first | exact HB.out | apply below_alloc | apply pw_below_drewN | apply below_drew1) | exact HB.out))) : w.heap.size ≤ gb178)); clear HB; have HB := n0_; have BK178 := n1_; have GW178 := n2_; have GE178 := n3_; clear n0_ n1_ n2_ n3_; clear hb hbox hg; have hcz74_0 : w73.cell? ⟨gb178, 0, none⟩ = some (.bool false) := (blk_cell BK178.out 0).trans rfl; have hcz74_1 : w73.cell? ⟨gb178, 1, none⟩ = some (.int .i64 0) := (blk_cell BK178.out 1).trans rfl; have hcz74_2 : w73.cell? ⟨gb178, 2, none⟩ = some (.int .u64 0) := (blk_cell BK178.out 2).trans rfl; have hcz74_3 : w73.cell? ⟨gb178, 3, none⟩ = some (.int .i64 0) := (blk_cell BK178.out 3).trans rfl; have hfz74_0 := blk_frozen BK178.out 0; have hfz74_1 := blk_frozen BK178.out 1; have hfz74_2 := blk_frozen BK178.out 2; have hfz74_3 := blk_frozen BK178.out 3))
    go_ret3
    exact ⟨by first | rfl | (simp [errW_none, errW_some] <;> rfl) | (simp [*, errW_none, errW_some] <;> rfl), by repeat (first | (with_reducible first | exact HB.out | apply below_alloc | apply pw_below_drewN | apply below_drew1 | refine below_set ?_ GE178.out) | exact HB.out)⟩

end Go.Proofs.YtdddkkojgepnmaaDoor.Xc
