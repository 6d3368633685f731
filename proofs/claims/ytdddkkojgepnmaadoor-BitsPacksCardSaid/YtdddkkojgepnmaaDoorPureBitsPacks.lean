
/- BitsPacks, the pure statement: the float of all parts, or the error. -/
import Derived.Test.YtdddkkojgepnmaaDoorXpG
import Derived.Test.YtdddkkojgepnmaaDoorXpx6
import Derived.Test.YtdddkkojgepnmaaDoorXpx8
import Derived.Test.YtdddkkojgepnmaaDoorXpx9
namespace Go.Proofs.YtdddkkojgepnmaaDoor.Pure
open Go.RowKit Go.Proofs.YtdddkkojgepnmaaDoor.Xp Go.Proofs.YtdddkkojgepnmaaDoor.A Go.Proofs.YtdddkkojgepnmaaDoor.XpB Go.Proofs.YtdddkkojgepnmaaDoorW.PrintWords Go.Proofs.YtdddkkojgepnmaaDoorW.PrintLast
theorem num_errv (c : Int) : numerallaw11_num.f (errv c) = some c := by
  unfold errv
  by_cases h : c = 0
  · rw [if_pos h, h]; rfl
  · rw [if_neg h]; rfl
theorem BitsPacks : numerallaw11_BitsPacks.Pure := by
  intro neg c m e size h1 h2 h3 h4
  obtain ⟨hm, hm'⟩ := wf_u64 h2
  obtain ⟨m, rfl⟩ := Int.eq_ofNat_of_zero_le hm
  refine ⟨205, ?_⟩
  unfold numerallaw11_BitsPacks.f
  have key : ∃ r : Int × Int, bits_Pack.f 205 neg c (m : Int) e size = some (r.1, errv r.2) ∧ numeralref11_Pack.f 205 neg c (m : Int) e size = some r := by
    rcases size_cases 0 (by decide) size with ⟨z, F, E, S, L, I, rfl, h, hlt⟩ | ⟨_, hbig⟩ | ⟨hn1, hn2⟩
    · exact Pack_all h neg c m (by omega) e 5
    · omega
    · exact ⟨(0, 5), Pack_bad hn1 hn2 _ neg c _ e, rPack_bad hn1 hn2 _ neg c _ e⟩
  obtain ⟨r, hr1, hr2⟩ := key
  rw [bind_eq hr1, bind_eq hr2, if_pos rfl, bind_eq (num_errv _), if_pos rfl, bind_eq (sure_ok 205)]
end Go.Proofs.YtdddkkojgepnmaaDoor.Pure
