
/- RoundWholes, the pure statement: every word times every power of two is rounded right, with a little more, too, or the error. -/
import Derived.Test.YtbjmfocjigikgaaDoorXwAll
import Derived.Test.YtbjmfocjigikgaaDoorXwx1
import Derived.Test.YtbjmfocjigikgaaDoorXwx10
import Derived.Test.YtbjmfocjigikgaaDoorXwx12
import Derived.Test.YtbjmfocjigikgaaDoorXwx3
import Derived.Test.YtbjmfocjigikgaaDoorXwx7
namespace Go.Proofs.YtbjmfocjigikgaaDoor.Pure
open Go.RowKit Go.Proofs.YtbjmfocjigikgaaDoor.Xw Go.Proofs.YtbjmfocjigikgaaDoor.A Go.Proofs.YtbjmfocjigikgaaDoor.L Go.Proofs.YtbjmfocjigikgaaDoor.Q Go.Proofs.YtbjmfocjigikgaaDoor.XwH Go.Proofs.YtbjmfocjigikgaaDoor.XwB Go.Proofs.YtbjmfocjigikgaaDoorW.PrintWords Go.Proofs.YtbjmfocjigikgaaDoorW.PrintLast
theorem num12 (c : Int) : numerallaw12_num.f (errv c) = some c := by
  unfold errv
  by_cases h : c = 0
  · rw [if_pos h, h]; rfl
  · rw [if_neg h]; rfl
theorem works12_at : numerallaw12_works.f 1000 = some true := by decide +kernel
theorem works12 {k : Nat} (hk : 1000 ≤ k) : numerallaw12_works.f k = some true := by
  obtain ⟨j, rfl⟩ := Nat.exists_eq_add_of_le hk
  induction j with
  | zero => exact works12_at
  | succ j ih => exact numerallaw12_works.mono _ _ (ih (by omega))
theorem both12 {size F E S : Nat} {L : Int} {I : Nat} (h : IsFmt size F E S L I) (neg : Bool) {m : Nat} (hm : m < 18446744073709551616) (exp : Int) (he0 : -1099511627776 ≤ exp) (he1 : exp ≤ 1099511627776) (more : Bool) :
    ∃ r : Int × Int, round_Whole.f 200000 size neg (m : Int) exp more = some (r.1, errv r.2) ∧ ∃ p q, numeralref02_Small.f 199999 (m : Int) = some p ∧ numeralref02_Small.f 199999 1 = some q ∧ (numeralref12_rounded.f 199999 size neg p q exp more).bind (fun z => some (z.1, z.2.1)) = some r := by
  have hB : B64 = 18446744073709551616 := rfl
  obtain ⟨p, p1, p2, p3, p4, p5⟩ := small_ok (d := m) (by omega) (k := 199999) (by omega)
  obtain ⟨q, q1, q2, q3, q4, q5⟩ := small_ok (d := 1) (by omega) (k := 199999) (by omega)
  have hpz := nv_eq_zero b32_one p2 p3
  rcases Nat.eq_zero_or_pos m with h0 | h0
  · subst h0
    have hl : p.length = 0 := by rw [hpz.1 p4]; rfl
    refine ⟨(((sgn S neg 0 : Nat) : Int), 0), ?_, p, q, p1, q1, by rw [rounded_low h neg exp (.inl hl) more 199997]; rfl⟩
    unfold round_Whole.f
    rw [bind_eq (pformat_ok h), if_pos rfl, bind_eq (far_ok he0 he1), if_neg (by simp), if_pos (by rfl), bind_eq (pZero_ok h _ neg)]; rfl
  · have hsmall := man_small (F := F) (L := L) (exp := exp) (n := m) (d := 1) (by omega) (fb_word h0 hm) more
    obtain ⟨hF0, hF, hS, hFS, hL, _, hF23⟩ := fmt_small h
    have hF52 : F ≤ 52 := by rcases h with ⟨_, rfl, _⟩ | ⟨_, rfl, _⟩ <;> omega
    have h2F : 2 ^ (F + 1) ≤ 2 ^ 53 := Nat.pow_le_pow_right (by decide) (by omega)
    generalize hQ : man m 1 exp (lst F L ((Lib.bitLen m : Int) - 1) exp) more = Q at *
    have hopt : ∃ b : Option Nat, (∀ q, b = some q → q < 2 ^ S) ∧ (0 < Q → ∀ (neg : Bool) (k : Nat), bits_Pack.f (k + 200) neg 2 ((Q : Nat) : Int) (lst F L ((Lib.bitLen m : Int) - 1) exp) size = some (pv S neg b) ∧ numeralref11_Pack.f (k + 200) neg 2 ((Q : Nat) : Int) (lst F L ((Lib.bitLen m : Int) - 1) exp) size = some (rv S neg b)) := by
      rcases Nat.eq_zero_or_pos Q with c | c
      · exact ⟨none, fun q c => (by cases c), fun c2 => absurd c2 (by omega)⟩
      · obtain ⟨b, b1, b2⟩ := Pack_opt h c (by omega) (lst F L ((Lib.bitLen m : Int) - 1) exp)
        exact ⟨b, b1, fun _ => b2⟩
    obtain ⟨b, b1, b2⟩ := hopt
    have hw := Whole_ok h neg h0 hm exp he0 he1 more b (by rw [hQ]; exact fun c neg k => (b2 c neg k).1) 199797
    rw [hQ] at hw
    refine ⟨_, hw, p, q, p1, q1, ?_⟩
    have hpl : p.length ≠ 0 := fun c => by rw [List.length_eq_zero_iff.1 c] at p4; simp [nv] at p4; omega
    obtain ⟨l0, l1, l2⟩ := blen_spec _ m rfl h0 hm
    have hle := bitLen_le64 m hm
    by_cases hlow : exp < -20000
    · have hQ0 : Q = 0 := by
        rw [← hQ]
        unfold man
        have hl : L ≤ lst F L ((Lib.bitLen m : Int) - 1) exp := by unfold lst; omega
        generalize lst F L ((Lib.bitLen m : Int) - 1) exp = last at *
        refine rq_small more ?_
        have e1 : pu (exp - last) = 1 := by unfold pu; rw [show (exp - last).toNat = 0 by omega]
        have e2 : 2 ^ 65 ≤ pd (exp - last) := by unfold pd; exact Nat.pow_le_pow_right (by decide) (by omega)
        rw [e1]; omega
      rw [rounded_low h neg exp (.inr hlow) more 199997, hQ0]
      rfl
    · by_cases hhigh : 20000 < exp
      · have hQ0 : 0 < Q := by
          rw [← hQ]
          have hl : lst F L ((Lib.bitLen m : Int) - 1) exp = (Lib.bitLen m : Int) - 1 + exp - F := by unfold lst; omega
          rw [hl]
          unfold man rq
          have hpos : 0 < m * pu (exp - ((Lib.bitLen m : Int) - 1 + exp - F)) / (1 * pd (exp - ((Lib.bitLen m : Int) - 1 + exp - F))) := by
            refine Nat.div_pos ?_ (Nat.mul_pos (by omega) (pd_pos _))
            have a1 : 2 ^ (Lib.bitLen m - 1) * pu (exp - ((Lib.bitLen m : Int) - 1 + exp - F)) ≤ m * pu (exp - ((Lib.bitLen m : Int) - 1 + exp - F)) := Nat.mul_le_mul_right _ l1
            have a2 : 1 * pd (exp - ((Lib.bitLen m : Int) - 1 + exp - F)) ≤ 2 ^ (Lib.bitLen m - 1) * pu (exp - ((Lib.bitLen m : Int) - 1 + exp - F)) := by
              rw [Nat.one_mul]
              unfold pu pd
              rw [← Nat.pow_add]
              exact Nat.pow_le_pow_right (by decide) (by omega)
            omega
          split <;> omega
        have hbn : b = none := by
          have r1 := (b2 hQ0 false 0).2
          have r2 := rPack_far h hQ0 (e := lst F L ((Lib.bitLen m : Int) - 1) exp) (by right; unfold lst; omega) false 198
          rw [r2] at r1
          cases b with
          | none => rfl
          | some v => simp [rv] at r1
        rw [rounded_high h neg hpl exp hhigh more 199997, hbn]
        unfold ans
        rw [if_neg (by omega)]; rfl
      · obtain ⟨e, e1, e2, e3, e4⟩ := rounded_ok h neg p2 q2 p3 q3 (by omega) (by omega) (by omega) (by omega) exp (by omega) (by omega) more
        rw [p4, q4] at e1 e4
        have hee : e = (Lib.bitLen m : Int) - 1 := fb_unique (by omega) e1 (fb_word h0 hm)
        subst hee
        have := e4 b b1 (by rw [hQ]; exact fun c k => (b2 c false k).2) 199999 (by omega)
        rw [hQ] at this
        rw [bind_eq this]
theorem RoundWholes : numerallaw12_RoundWholes.Pure := by
  intro size neg more m exp h1 h2 h3
  obtain ⟨hm, hm'⟩ := wf_u64 h2
  obtain ⟨m, rfl⟩ := Int.eq_ofNat_of_zero_le hm
  refine ⟨200000, ?_⟩
  have key : ∃ r : Int × Int, round_Whole.f 200000 size neg (m : Int) exp more = some (r.1, errv r.2) ∧ numeralref12_Whole.f 200000 size neg (m : Int) exp more = some r := by
    rcases size_cases 0 (by decide) size with ⟨z, F, E, S, L, I, rfl, h, hlt⟩ | ⟨_, hbig⟩ | ⟨hn1, hn2⟩
    · by_cases hfar : exp < -1099511627776 ∨ 1099511627776 < exp
      · refine ⟨(0, 1), ?_, ?_⟩
        · unfold round_Whole.f
          rw [bind_eq (pformat_ok h), if_pos rfl, bind_eq (far_bad hfar), if_pos rfl]; rfl
        · unfold numeralref12_Whole.f
          rw [bind_eq (rsize_ok h), if_pos rfl]
          by_cases hf : exp < -1099511627776
          · rw [if_pos hf, numeralref12_Whole.j0, if_pos rfl]
          · rw [if_neg hf, decide_eq_true (by omega), numeralref12_Whole.j0, if_pos rfl]
      · obtain ⟨r, r1, p, q, r2, r3, r4⟩ := both12 h neg (m := m) (by omega) exp (by omega) (by omega) more
        refine ⟨r, r1, ?_⟩
        unfold numeralref12_Whole.f
        rw [bind_eq (rsize_ok h), if_pos rfl, if_neg (by omega), decide_eq_false (by omega), numeralref12_Whole.j0, if_neg (by simp), bind_eq r2, bind_eq r3]
        exact r4
    · omega
    · refine ⟨(0, 5), ?_, ?_⟩
      · unfold round_Whole.f
        rw [bind_eq (pformat_bad hn1 hn2), if_neg (by simp)]; rfl
      · unfold numeralref12_Whole.f
        rw [bind_eq (rsize_bad hn1 hn2), if_neg (by simp)]
  obtain ⟨r, hr1, hr2⟩ := key
  unfold numerallaw12_RoundWholes.f
  rw [bind_eq hr1, bind_eq hr2, if_pos rfl, bind_eq (num12 _), if_pos rfl, bind_eq (works12 (by omega))]
end Go.Proofs.YtbjmfocjigikgaaDoor.Pure
