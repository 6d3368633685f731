
/- BitsUnpacks, the pure statement: the parts and the class of all bits, or the errors, are the reference's. -/
import Derived.Test.YtdddkkojgepnmaaDoorXuC
import Derived.Test.YtdddkkojgepnmaaDoorXux8
namespace Go.Proofs.YtdddkkojgepnmaaDoor.Pure
open Go.RowKit Go.Proofs.YtdddkkojgepnmaaDoor.Xu Go.Proofs.YtdddkkojgepnmaaDoor.A Go.Proofs.YtdddkkojgepnmaaDoor.XuB Go.Proofs.YtdddkkojgepnmaaDoorW.PrintWords Go.Proofs.YtdddkkojgepnmaaDoorW.PrintLast

theorem BitsUnpacks : numerallaw11_BitsUnpacks.Pure := by
  intro a0 a1 h0 h1
  obtain ⟨ha, hb⟩ := wf_u64 h0
  obtain ⟨a, rfl⟩ := Int.eq_ofNat_of_zero_le ha
  refine ⟨0, ?_⟩
  unfold numerallaw11_BitsUnpacks.f
  rcases size_cases a (by omega) a1 with ⟨z, F, E, S, L, I, rfl, h, hlt⟩ | ⟨rfl, hbig⟩ | ⟨hn1, hn2⟩
  · rw [bind_eq (Unpack_ok h hlt), bind_eq (runpack_ok h hlt), bind_eq (Class_ok h hlt), bind_eq (rClass_ok h hlt), if_pos (by simp), bind_eq num_none, if_pos rfl, if_pos rfl, bind_eq num_none, if_pos rfl, bind_eq (Check_ok h hlt), bind_eq num_none, bind_eq (rcheck_ok h hlt), if_pos rfl, bind_eq (sure_ok 0)]
  · rw [bind_eq (Unpack_big hbig), bind_eq (runpack_big hbig), bind_eq (Class_big hbig), bind_eq (rClass_big hbig), if_pos (by simp), bind_eq (num_some 1), if_pos rfl, if_pos rfl, bind_eq (num_some 1), if_pos rfl, bind_eq (Check_big hbig), bind_eq (num_some 1), bind_eq (rcheck_big hbig), if_pos rfl, bind_eq (sure_ok 0)]
  · rw [bind_eq (Unpack_bad hn1 hn2), bind_eq (runpack_bad hn1 hn2), bind_eq (Class_bad hn1 hn2), bind_eq (rClass_bad hn1 hn2), if_pos (by simp), bind_eq (num_some 5), if_pos rfl, if_pos rfl, bind_eq (num_some 5), if_pos rfl, bind_eq (Check_bad hn1 hn2), bind_eq (num_some 5), bind_eq (rcheck_bad hn1 hn2), if_pos rfl, bind_eq (sure_ok 0)]
end Go.Proofs.YtdddkkojgepnmaaDoor.Pure
