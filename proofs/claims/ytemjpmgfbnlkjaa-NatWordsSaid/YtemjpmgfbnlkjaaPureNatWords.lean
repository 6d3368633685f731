
/- NatWords, the pure statement: quotients by a word, powers of a word, a word as a number are right, or the error. -/
import Derived.Test.YtemjpmgfbnlkjaaXwF
import Derived.Test.YtemjpmgfbnlkjaaXwx9
namespace Go.Proofs.Ytemjpmgfbnlkjaa.Pure
open Go.RowKit Go.Proofs.Ytemjpmgfbnlkjaa.Xw Go.Proofs.Ytemjpmgfbnlkjaa.A Go.Proofs.Ytemjpmgfbnlkjaa.L Go.Proofs.Ytemjpmgfbnlkjaa.XwB Go.Proofs.YtemjpmgfbnlkjaaW.PrintWords Go.Proofs.YtemjpmgfbnlkjaaW.PrintLast
set_option linter.unusedVariables false
theorem words_end {d : Nat} {q p one : List Int} {r c1 c2 : Int} (hd : d < B64) (hq : q.length ≤ 128) (hp : p.length ≤ 128) {k : Nat} (hk : 1000 ≤ k) (h1 : one = if d = 0 then [] else [(d : Int)]) :
    numerallaw02_NatWords.j0 (k + 1) (d : Int) q r (errn c1) q r c1 p (errn c2) p c2 one = some true := by
  have hl : one.length ≤ 1 := by rw [h1]; by_cases h : d = 0 <;> simp [h]
  rw [numerallaw02_NatWords.j0, bind_eq (same_ok (by omega) (by omega)), if_pos rfl, if_pos rfl, bind_eq (num_errn c1), if_pos rfl, bind_eq (same_ok (by omega) (by omega)), if_pos rfl, bind_eq (num_errn c2), if_pos rfl, bind_eq (nOf_ok hd (by omega)), ← h1, bind_eq (same_ok (by omega) (by omega)), if_pos rfl, bind_eq (works_ok (by omega))]
theorem NatWords : numerallaw02_NatWords.Pure := by
  intro a d n h1 h2 h3 h4 h5
  have ha := okl_of_wf h3
  have hla : a.length < 17592186044416 := by omega
  obtain ⟨d0, d1⟩ := wf_u64 h4
  obtain ⟨d, rfl⟩ : ∃ m : Nat, d = (m : Int) := ⟨d.toNat, by omega⟩
  have hd : d < B64 := by show d < 18446744073709551616; omega
  have hn : -9223372036854775808 ≤ n ∧ n < 9223372036854775808 := by
    simp only [Lit.wf, IntKind.min, IntKind.max, IntKind.signed, IntKind.bits, Bool.and_eq_true, decide_eq_true_eq] at h5
    simp at h5
    omega
  refine ⟨300001, ?_⟩
  obtain ⟨q, r, c1, a1, a2, a3⟩ := DivWord_both ha (by omega) hd (k := 300001) (by omega)
  obtain ⟨p, c2, b1, b2, b3⟩ := Power_both (n := n) hd hn.1 hn.2 (k := 300001) (by omega)
  unfold numerallaw02_NatWords.f
  rw [bind_eq (twin_ok hla), bind_eq a1, bind_eq a2, bind_eq b1, bind_eq b2]
  by_cases h0 : d = 0
  · subst h0
    rw [if_neg (by decide)]
    exact words_end hd a3 b3 (k := 300000) (by omega) rfl
  · rw [if_pos (by omega), if_pos (by decide)]
    exact words_end hd a3 b3 (k := 300000) (by omega) (by rw [if_neg h0]; rfl)
end Go.Proofs.Ytemjpmgfbnlkjaa.Pure
