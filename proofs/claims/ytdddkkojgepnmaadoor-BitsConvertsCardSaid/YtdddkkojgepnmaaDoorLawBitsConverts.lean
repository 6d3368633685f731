/- The statement BitsConverts: whatever the input, the law's Go function answers true and its arguments stay, out of the pure statement and the printed walks. -/
import Derived.Test.YtdddkkojgepnmaaDoorRows
import Derived.Test.YtdddkkojgepnmaaDoorXcx12
import Derived.Test.YtdddkkojgepnmaaDoorPureBitsConverts
import Derived.Test.YtdddkkojgepnmaaDoorXcLaid
import Derived.Test.YtdddkkojgepnmaaDoorCards
import Derived.Test.YtdddkkojgepnmaaDoorTie
import Derived.WalkKit
import Derived.ProofKit
import Derived.OpenShut
import Derived.ShutString
import Derived.ChangeOld
import Derived.Below
import Derived.SizedLaws
import Derived.SevenTiedAt
import Derived.LaidHandle
import Derived.Handed
import Derived.Lib.SmallJoins
namespace Go.Proofs.YtdddkkojgepnmaaDoor.bitsConverts
open Go.ChangeShapes Go.WideShapes Go.ChangeAt Go.RowKit
open Go.ChangeMaps (open_string shut_string)
set_option linter.unusedVariables false
theorem own : ownKnob Tryd.prog.godebug = none := by kernel_rfl
theorem met (os : Os) : laidMetH Tryd.prog Rows.bitsConvertsRow.laid ((Xc.laidWorld os).forCall (fun _ _ => 0) ⟨#[], #[.int .u64 0], []⟩).memory :=
  laidMetH_of_parts (laidMet_of_run' 8 (by kernel_rfl) (by kernel_rfl)) (by kernel_rfl)
set_option maxRecDepth 100000 in
theorem lifted (os : Os) (started : os.Started) (H : Type) (enc : TypeId × Value → H) :
    ReturnsInHanded {} Tryd.checked os 7 .any (fun w args => (Rows.bitsConvertsSpec.pre enc Tryd.prog Tryd.f7 Rows.bitsConvertsRow.domain false w args ∧ laidMetH Tryd.prog Rows.bitsConvertsRow.laid w) ∧ sizedMet enc Tryd.prog Tryd.f7 (OpenSpec.ofChange Rows.bitsConvertsSpec) false w args) (Rows.bitsConvertsSpec.post enc Tryd.prog Tryd.f7 false true false false) := by
  refine returnsInHanded_of_change_and (C := Tryd.checked) (X := (fun w _ => laidMetH Tryd.prog Rows.bitsConvertsRow.laid w)) (fun _ _ _ hh h => h.of_heap hh) own started (by kernel_rfl) Tryd.func7
    (ChangeSpec.witness_at (enc := enc) (C := Tryd.checked) (os := os) (X := (fun w _ => laidMetH Tryd.prog Rows.bitsConvertsRow.laid w)) false (Xc.laidWorld os) #[.int .u64 0] 8 rfl (by kernel_rfl) (by kernel_rfl) (by kernel_rfl) (by kernel_rfl) (by kernel_rfl) (met os)) ?_
  intro W base args ds gs before hval0 hW hcnd hsz0 hL _
  have hsz : (DataW.weightsEach Tryd.prog (Tryd.f7.params.toList ++ Rows.bitsConvertsSpec.plain.varTypes Tryd.prog) (ds ++ gs)).all (· ≤ reachBytes) = true := hsz0
  have hval : ∀ (j : Nat) t v, Tryd.f7.params[j]? = some t → args[j]? = some v → Value.okWide Tryd.prog W .any base t v := hval0
  have hW' := hW
  obtain ⟨p, q, hA0, hV, rfl, hfz, hnd⟩ := hW
  have hA : DataW.TrodAll enc Tryd.prog W 0 (fun _ => true) true Tryd.f7.params.toList args.toList ds p := hA0
  rw [Tryd.params7] at hA hval hsz
  have hl_DB64 : Xc.Laid_DB64 W := Xc.DB64_of hL (by simp [Rows.bitsConvertsRow, List.mem_filter]; rfl)
  have hl_ETYPE : Xc.Laid_ETYPE W := Xc.etype_of hL (by simp [Rows.bitsConvertsRow, List.mem_filter]; rfl)
  obtain ⟨v0, vs0, d0, ds0, p0, q0, hargs, rfl, rfl, h0, r0⟩ := trodAll_cons hA
  obtain ⟨rfl, rfl, rfl⟩ := trodAll_nil r0
  obtain rfl : args = #[v0] := by cases args; simp_all
  obtain ⟨rfl, rfl⟩ := trodVars_none hV
  obtain ⟨a0, rfl, rfl, rfl, w0⟩ := open_int Tryd.underlying22 (hval 0 22 v0 rfl rfl) h0
  clear hA0 hval0 hsz0 hsz
  refine (Xc.numerallaw11_BitsConverts.walk Pure.BitsConverts a0 W w0 hl_ETYPE hl_DB64).mono fun e W' ⟨he, bel⟩ => ?_
  subst he
  exact ⟨_, rfl, _, _, _, [], _, [], hW', trodAll_mk1 (shut_bool Tryd.underlying4 _), (trodAll_cons_mk (shut_int Tryd.underlying22 w0) trodAll_mk0), rfl, bel.frame _, fun h => by cases h⟩
theorem over : Rows.bitsConvertsRow.holds Tryd.pinned (OpenSpec.ofChange Rows.bitsConvertsSpec) :=
  OpenClaim.holds_of_wide 7 Tryd.f7 rfl rfl rfl rfl rfl rfl rfl ⟨rfl, rfl, rfl, rfl, rfl⟩ rfl rfl rfl rfl rfl (by kernel_rfl) Tryd.func7 (by kernel_rfl)
    (of_decide_eq_true (by kernel_rfl)) (by unfold Func.isWrapper; first | (rw [if_pos (by decide +kernel)]; kernel_rfl) | (rw [if_neg (by decide +kernel)]; exact ⟨rfl, rfl⟩))
    (fun os started H enc _ => lifted os started H enc)
theorem proved : Rows.BitsConvertsCardSaid :=
  Claim7.holds_tied_plain_at .later [] [.data, .handle] true (true, "f9bbd37660cb66a4da1e76a27837b5d1092a99d08f63b913f26f39c85a8590d6") true
    over (fun _ h => by cases h) (by kernel_rfl) (fun _ h => by cases h) bitsConverts_row_tie rfl ⟨rfl, rfl⟩ (by kernel_rfl) rfl
    (fun f fn hf hfn => by
      obtain rfl : f = 7 := Option.some.inj ((show Tryd.prog.funcNamed "numeral/numerallaw11.BitsConverts" = some 7 by kernel_rfl).symm.trans hf) |>.symm
      obtain rfl : fn = Tryd.f7 := (Option.some.inj (Tryd.func7.symm.trans hfn)).symm
      exact ⟨by kernel_rfl, fun j t ht => by
        rw [Tryd.params7] at ht
        have h3 : t = 22 := by
          have : j < 1 := by
            rcases Nat.lt_or_ge j 1 with h | h
            · exact h
            · rw [Array.getElem?_eq_none (by simpa using h)] at ht; cases ht
          have hj : j = 0 := by omega
          rcases hj with rfl
          all_goals (obtain rfl := Option.some.inj ht; decide)
        rcases h3 with rfl
        · exact (show Tryd.prog.wantsStandIn 22 = false by kernel_rfl)⟩)
    (by kernel_rfl)
#print axioms proved
end Go.Proofs.YtdddkkojgepnmaaDoor.bitsConverts
namespace Go.Proofs.YtdddkkojgepnmaaDoor
theorem bitsConverts_holds : Rows.BitsConvertsCardSaid := bitsConverts.proved
end Go.Proofs.YtdddkkojgepnmaaDoor
