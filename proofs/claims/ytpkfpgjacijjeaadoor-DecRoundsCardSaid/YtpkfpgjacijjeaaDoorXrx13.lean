-- PRINTED by print.py (a twelfth state) out of the translation. Not trusted: Lean checks it.
import Derived.Test.YtpkfpgjacijjeaaDoorXrx13b
namespace Go.Proofs.YtpkfpgjacijjeaaDoor.Xr
open Go.RowKit Go.Proofs.YtpkfpgjacijjeaaDoorW.PrintWords Go.Proofs.YtpkfpgjacijjeaaDoorW.PrintLast Go.Proofs.YtpkfpgjacijjeaaDoorW.PrintMore
attribute [local go_sem] max2_int min2_int max_two min_two max_three min_three max_four min_four   -- for this text's walks alone
set_option linter.unusedVariables false
set_option linter.unusedSimpArgs false

attribute [local go_sem high] eqA23
/-- THE ONE PURE STATEMENT of numerallaw03_DecRounds: mine to prove. -/
def numerallaw03_DecRounds.Pure : Prop := ∀ (a0_0 : ByteArray) (a0_1 : Int) (a0_2 : Bool) (a1 : Int), a0_0.size ≤ 140737488351232 → (Lit.int .i64 a0_1).wf = true → (Lit.int .i64 a1).wf = true → ∃ k, numerallaw03_DecRounds.f k a0_0 a0_1 a0_2 a1 = some true
theorem numerallaw03_DecRounds.walk (P : numerallaw03_DecRounds.Pure) (a0_0 : ByteArray) (a0_1 : Int) (a0_2 : Bool) (a1 : Int) (w : World) (w0_0 : a0_0.size ≤ 140737488351232) (w0_1 : (Lit.int .i64 a0_1).wf = true) (w1 : (Lit.int .i64 a1).wf = true) (hl_ETYPE : Laid_ETYPE w) :
    Calls Tryd.prog 3 #[.agg #[.string a0_0, .int .i64 a0_1, .bool a0_2], .int .i64 a1] w fun e w' => e = .returned (.bool true) ∧ Below w.heap.size w w' := by
  obtain ⟨k, h⟩ := P a0_0 a0_1 a0_2 a1 w0_0 w0_1 w1
  refine (numerallaw03_DecRounds.calls k a0_0 a0_1 a0_2 a1 true w hl_ETYPE h).mono ?_
  rintro e w' ⟨rfl, hd⟩
  exact ⟨rfl, hd⟩

end Go.Proofs.YtpkfpgjacijjeaaDoor.Xr
