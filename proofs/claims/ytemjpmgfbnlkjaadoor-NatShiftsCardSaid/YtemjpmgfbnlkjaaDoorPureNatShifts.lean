
/- NatShifts, the pure statement: shifts, lengths, noughts at the end are right, or the error. -/
import Derived.Test.YtemjpmgfbnlkjaaDoorXsI
import Derived.Test.YtemjpmgfbnlkjaaDoorXsx10
namespace Go.Proofs.YtemjpmgfbnlkjaaDoor.Pure
open Go.RowKit Go.Proofs.YtemjpmgfbnlkjaaDoor.Xs Go.Proofs.YtemjpmgfbnlkjaaDoor.A Go.Proofs.YtemjpmgfbnlkjaaDoor.L Go.Proofs.YtemjpmgfbnlkjaaDoor.XsB Go.Proofs.YtemjpmgfbnlkjaaDoorW.PrintWords Go.Proofs.YtemjpmgfbnlkjaaDoorW.PrintLast
set_option linter.unusedVariables false
theorem NatShifts : numerallaw02_NatShifts.Pure := by
  intro a n h1 h2 h3 h5
  have ha := okl_of_wf h3
  have hla : a.length < 17592186044416 := by omega
  have hn : -9223372036854775808 ≤ n ∧ n < 9223372036854775808 := by
    simp only [Lit.wf, IntKind.min, IntKind.max, IntKind.signed, IntKind.bits, Bool.and_eq_true, decide_eq_true_eq] at h5
    simp at h5
    omega
  refine ⟨60000, ?_⟩
  obtain ⟨l, c1, a1, a2, a3⟩ := Shl_both (n := n) ha (by omega) hn.1 hn.2 (k := 60000) (by omega)
  obtain ⟨r, cut, c2, b1, b2, b3⟩ := Shr_both (n := n) ha (by omega) hn.1 hn.2 (k := 60000) (by omega)
  obtain ⟨b, c3, d1, d2⟩ := Bits_both ha (by omega) (k := 60000) (by omega)
  obtain ⟨z, c4, e1, e2⟩ := Zeros_both ha (by omega) (k := 60000) (by omega)
  have ht := twin_ok hla
  have s1 := same_ok (l := l) (k := 60000) (by omega) (by omega)
  have s2 := same_ok (l := r) (k := 60000) (by omega) (by omega)
  unfold numerallaw02_NatShifts.f
  rw [bind_eq ht, bind_eq a1, bind_eq a2, bind_eq ht, bind_eq b1, bind_eq b2, bind_eq ht, bind_eq d1, bind_eq d2, bind_eq ht, bind_eq e1, bind_eq e2]
  rw [bind_eq s1, if_pos rfl, bind_eq (num_errn c1), if_pos rfl, bind_eq s2, if_pos rfl, if_pos (by cases cut <;> rfl), bind_eq (num_errn c2), if_pos rfl, if_pos rfl, bind_eq (num_errn c3), if_pos rfl, if_pos rfl, bind_eq (num_errn c4), if_pos rfl, bind_eq (works_ok (by omega))]
end Go.Proofs.YtemjpmgfbnlkjaaDoor.Pure
