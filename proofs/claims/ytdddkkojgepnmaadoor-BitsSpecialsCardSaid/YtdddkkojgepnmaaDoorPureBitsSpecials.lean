
/- BitsSpecials, the pure statement: infinities, noughts, the NaN, the greatest and the least float of every size, or the error. -/
import Derived.Test.YtdddkkojgepnmaaDoorXsC
import Derived.Test.YtdddkkojgepnmaaDoorXsx6
import Derived.Test.YtdddkkojgepnmaaDoorXsx7
import Derived.Test.YtdddkkojgepnmaaDoorXsx8
namespace Go.Proofs.YtdddkkojgepnmaaDoor.XsB
open Go.RowKit Go.Proofs.YtdddkkojgepnmaaDoor.Xs Go.Proofs.YtdddkkojgepnmaaDoor.A Go.Proofs.YtdddkkojgepnmaaDoorW.PrintWords Go.Proofs.YtdddkkojgepnmaaDoorW.PrintLast
theorem fmt_I {size F E S : Nat} {L : Int} {I : Nat} (h : IsFmt size F E S L I) : 0 < I ∧ I < 2 ^ S ∧ S ≤ 63 := by
  rcases h with ⟨rfl, rfl, rfl, rfl, rfl, rfl⟩ | ⟨rfl, rfl, rfl, rfl, rfl, rfl⟩ <;> simp
theorem Inf_ok {size F E S : Nat} {L : Int} {I : Nat} (h : IsFmt size F E S L I) (k : Nat) (neg : Bool) : bits_Inf.f k neg size = some (((if neg then I + 2 ^ S else I : Nat) : Int), none) := by
  unfold bits_Inf.f; rw [bind_eq (Pack_inf h k neg 0 0)]
theorem Zero_ok {size F E S : Nat} {L : Int} {I : Nat} (h : IsFmt size F E S L I) (k : Nat) (neg : Bool) : bits_Zero.f k neg size = some (((if neg then 2 ^ S else 0 : Nat) : Int), none) := by
  unfold bits_Zero.f; rw [bind_eq (Pack_zero h k neg 0 0)]
theorem NaN_ok {size F E S : Nat} {L : Int} {I : Nat} (h : IsFmt size F E S L I) (k : Nat) : bits_NaN.f k size = some ((nanOf F I : Int), none) := by
  unfold bits_NaN.f; rw [bind_eq (Pack_nan h k false 0 0)]
theorem Most_ok {size F E S : Nat} {L : Int} {I : Nat} (h : IsFmt size F E S L I) : bits_Most.f size = some (IntKind.u64.wrap ((I : Int) - 1), none) := by
  unfold bits_Most.f; rw [bind_eq (formatOf_ok h), if_pos (by rfl), bind_eq (inf_ok h)]
theorem Least_ok {size F E S : Nat} {L : Int} {I : Nat} (h : IsFmt size F E S L I) : bits_Least.f size = some (1, none) := by
  unfold bits_Least.f; rw [bind_eq (formatOf_ok h), if_pos (by rfl)]
theorem rInf_ok {size F E S : Nat} {L : Int} {I : Nat} (h : IsFmt size F E S L I) : numeralref11_Inf.f size = some (I : Int) := by
  unfold numeralref11_Inf.f; rw [bind_eq (rinf_ok h)]
theorem Signed_ok {size F E S : Nat} {L : Int} {I : Nat} (h : IsFmt size F E S L I) (neg : Bool) {x : Nat} (hx : x < 2 ^ S) : numeralref11_Signed.f neg x size = some (((if neg then x + 2 ^ S else x : Nat) : Int)) := by
  obtain ⟨hI0, hI, hS⟩ := fmt_I h
  have h4 : 2 ^ S ≤ 2 ^ 63 := Nat.pow_le_pow_right (by decide) hS
  unfold numeralref11_Signed.f
  cases neg
  · rfl
  · rw [if_pos rfl, bind_eq (rsign_ok h), if_pos rfl]
    have := or_disj' 1 x S hx (by omega)
    rw [Nat.one_mul, Nat.add_comm] at this
    rw [this]
end Go.Proofs.YtdddkkojgepnmaaDoor.XsB
namespace Go.Proofs.YtdddkkojgepnmaaDoor.Pure
open Go.RowKit Go.Proofs.YtdddkkojgepnmaaDoor.Xs Go.Proofs.YtdddkkojgepnmaaDoor.A Go.Proofs.YtdddkkojgepnmaaDoor.XsB Go.Proofs.YtdddkkojgepnmaaDoorW.PrintWords Go.Proofs.YtdddkkojgepnmaaDoorW.PrintLast
theorem BitsSpecials : numerallaw11_BitsSpecials.Pure := by
  intro neg a1 h1
  refine ⟨0, ?_⟩
  unfold numerallaw11_BitsSpecials.f
  rcases size_cases 0 (by omega) a1 with ⟨z, F, E, S, L, I, rfl, h, hlt⟩ | ⟨_, hbig⟩ | ⟨hn1, hn2⟩
  · obtain ⟨hI0, hI, hS⟩ := fmt_I h
    have hz : numeralref11_Signed.f neg 0 z = some (((if neg then 0 + 2 ^ S else 0 : Nat) : Int)) := Signed_ok h neg (x := 0) (Nat.two_pow_pos S)
    rw [bind_eq (Inf_ok h 0 neg), bind_eq (Zero_ok h 0 neg), bind_eq (NaN_ok h 0), bind_eq (Most_ok h), bind_eq (Least_ok h), bind_eq (rsize_ok h), if_pos rfl, bind_eq (rInf_ok h), if_pos (by rfl), if_pos (by rfl), if_pos (by rfl), if_pos (by rfl), if_pos (by rfl), bind_eq (Signed_ok h neg hI), if_pos rfl, bind_eq hz, if_pos (by rw [Nat.zero_add]), bind_eq (rnan_ok h), if_pos rfl, if_pos rfl, if_pos rfl, bind_eq (sure_ok 0)]
  · omega
  · have e1 : bits_Inf.f 0 neg a1 = some (0, some 5) := by unfold bits_Inf.f; rw [bind_eq (Pack_bad hn1 hn2 0 neg 3 0 0)]
    have e2 : bits_Zero.f 0 neg a1 = some (0, some 5) := by unfold bits_Zero.f; rw [bind_eq (Pack_bad hn1 hn2 0 neg 1 0 0)]
    have e3 : bits_NaN.f 0 a1 = some (0, some 5) := by unfold bits_NaN.f; rw [bind_eq (Pack_bad hn1 hn2 0 false 4 0 0)]
    have e4 : bits_Most.f a1 = some (0, some 5) := by unfold bits_Most.f; rw [bind_eq (formatOf_bad hn1 hn2), if_neg (by simp)]; rfl
    have e5 : bits_Least.f a1 = some (0, some 5) := by unfold bits_Least.f; rw [bind_eq (formatOf_bad hn1 hn2), if_neg (by simp)]; rfl
    rw [bind_eq e1, bind_eq e2, bind_eq e3, bind_eq e4, bind_eq e5, bind_eq (rsize_bad hn1 hn2), if_neg (by decide), if_pos rfl, if_pos rfl, if_pos rfl, if_pos rfl, if_pos rfl, bind_eq (num_some 5), if_pos rfl, bind_eq (num_some 5), if_pos rfl, bind_eq (num_some 5), if_pos rfl, bind_eq (num_some 5), if_pos rfl, bind_eq (num_some 5), if_pos rfl, bind_eq (sure_ok 0)]
end Go.Proofs.YtdddkkojgepnmaaDoor.Pure
