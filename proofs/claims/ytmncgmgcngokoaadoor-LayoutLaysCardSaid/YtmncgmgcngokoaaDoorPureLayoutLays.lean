
/- Every number is laid as the reference lays it, or the error. -/
import Derived.Test.YtmncgmgcngokoaaDoorXlLr
import Derived.Test.YtmncgmgcngokoaaDoorXlx11
namespace Go.Proofs.YtmncgmgcngokoaaDoor.Pure
open Go.RowKit Go.Proofs.YtmncgmgcngokoaaDoor.Xl Go.Proofs.YtmncgmgcngokoaaDoorW.PrintWords Go.Proofs.YtmncgmgcngokoaaDoorW.PrintLast Go.Proofs.YtmncgmgcngokoaaDoorW.PrintMore Go.Proofs.YtmncgmgcngokoaaDoor.XlLy Go.Proofs.YtmncgmgcngokoaaDoor.XlLr
theorem LayoutLays : numerallaw24_LayoutLays.Pure := by
  intro neg b p cu L prec hs wp wL wq
  have hL := wf_u8 wL
  have hD : b.data.toList.length ≤ 140737488351232 := by rw [Array.length_toList]; exact hs
  rw [mk_of b]
  generalize b.data.toList = D at hD
  refine ⟨4000, ?_⟩
  unfold numerallaw24_LayoutLays.f
  rw [Lay_eq (by omega) neg D hD p cu hL.1 hL.2, Option.bind_some, rLay_eq (by omega) neg D hD p cu, Option.bind_some, Asks_eq 3999 hL.1 hL.2, Option.bind_some, rAsks_eq 3999, Option.bind_some, if_pos rfl, num_eq, Option.bind_some, if_pos rfl, if_pos rfl, if_pos (beq_self_eq_true _), num_eq, Option.bind_some, if_pos rfl, works (by omega), Option.bind_some]
end Go.Proofs.YtmncgmgcngokoaaDoor.Pure
