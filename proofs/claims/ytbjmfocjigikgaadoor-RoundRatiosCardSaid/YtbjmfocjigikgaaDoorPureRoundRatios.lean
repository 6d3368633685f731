
/- RoundRatios, the pure statement: every fraction times every power of two is rounded right, or the error; the numbers stay. -/
import Derived.Test.YtbjmfocjigikgaaDoorXrAll
import Derived.Test.YtbjmfocjigikgaaDoorXrx1
import Derived.Test.YtbjmfocjigikgaaDoorXrx10
import Derived.Test.YtbjmfocjigikgaaDoorXrx12
import Derived.Test.YtbjmfocjigikgaaDoorXrx13
import Derived.Test.YtbjmfocjigikgaaDoorXrx3
import Derived.Test.YtbjmfocjigikgaaDoorXrx6
namespace Go.Proofs.YtbjmfocjigikgaaDoor.Pure
open Go.RowKit Go.Proofs.YtbjmfocjigikgaaDoor.Xr Go.Proofs.YtbjmfocjigikgaaDoor.A Go.Proofs.YtbjmfocjigikgaaDoor.L Go.Proofs.YtbjmfocjigikgaaDoor.Q Go.Proofs.YtbjmfocjigikgaaDoor.XrH Go.Proofs.YtbjmfocjigikgaaDoor.XrB Go.Proofs.YtbjmfocjigikgaaDoorW.PrintWords Go.Proofs.YtbjmfocjigikgaaDoorW.PrintLast
theorem num12r (c : Int) : numerallaw12_num.f (errv c) = some c := by
  unfold errv
  by_cases h : c = 0
  · rw [if_pos h, h]; rfl
  · rw [if_neg h]; rfl
theorem works12r_at : numerallaw12_works.f 1000 = some true := by decide +kernel
theorem works12r {k : Nat} (hk : 1000 ≤ k) : numerallaw12_works.f k = some true := by
  obtain ⟨j, rfl⟩ := Nat.exists_eq_add_of_le hk
  induction j with
  | zero => exact works12r_at
  | succ j ih => exact numerallaw12_works.mono _ _ (ih (by omega))
theorem twin12 {l : List Int} (h : l.length < 17592186044416) : numerallaw12_twin.f l = some l := by
  unfold numerallaw12_twin.f
  rw [if_pos (by simpa using h), List.nil_append]
theorem same12_l0 (l : List Int) (hl : l.length < 1000000000000000) : ∀ (n k i : Nat), i + n = l.length → n + 1 ≤ k → numerallaw12_same.l0 k l l (i : Int) = some true
  | 0, k + 1, i, hi, hk => by rw [numerallaw12_same.l0, if_neg (by omega)]
  | n + 1, k + 1, i, hi, hk => by
    rw [numerallaw12_same.l0, if_pos (by omega), if_pos (by omega), if_pos (by omega), if_pos rfl, wrapi_id (n := (i : Int) + 1) (by omega) (by omega), show (i : Int) + 1 = ((i + 1 : Nat) : Int) by omega]
    exact same12_l0 l hl n k (i + 1) (by omega) (by omega)
theorem same12 {l : List Int} (hl : l.length < 1000000000000000) {k : Nat} (hk : l.length + 1 ≤ k) : numerallaw12_same.f k l l = some true := by
  unfold numerallaw12_same.f
  rw [if_pos rfl]
  exact same12_l0 l hl l.length k 0 (by omega) hk
theorem bothr {size F E S : Nat} {L : Int} {I : Nat} (h : IsFmt size F E S L I) (neg : Bool) {n d : List Int} (hn : okl B64 n) (hd : okl B64 d) (vn : vnum n = 0) (vd : vnum d = 0) (hne : d.length ≠ 0) (exp : Int) (he0 : -1099511627776 ≤ exp) (he1 : exp ≤ 1099511627776) {k : Nat} (hk : 300000 ≤ k) :
    ∃ r : Int × Int, round_Ratio.f k size neg n d exp = some (r.1, errv r.2) ∧ numeralref12_Ratio.j0 k size neg n d exp false = some r := by
  obtain ⟨ln, tn⟩ := (vnum_zero n).1 vn
  obtain ⟨ld, td⟩ := (vnum_zero d).1 vd
  obtain ⟨k, rfl⟩ : ∃ j, k = j + 3 := ⟨k - 3, by omega⟩
  obtain ⟨p, p1, p2, p3, p4, p5⟩ := of_ok hn ln (k := k + 2) (by omega)
  obtain ⟨q, q1, q2, q3, q4, q5⟩ := of_ok hd ld (k := k + 2) (by omega)
  have hd0 : 0 < nv B64 d := by
    rcases Nat.eq_zero_or_pos (nv B64 d) with g | g
    · exact absurd (by rw [(nv_eq_zero b64_one hd td).1 g]; rfl) hne
    · exact g
  rw [numeralref12_Ratio.j0, if_neg (by simp), bind_eq p1, bind_eq q1]
  rcases Nat.eq_zero_or_pos (nv B64 n) with g | g
  · have hnn : n = [] := (nv_eq_zero b64_one hn tn).1 g
    have hpp : p.length = 0 := by rw [(nv_eq_zero b32_one p2 p3).1 (by rw [p4]; exact g)]; rfl
    refine ⟨(((sgn S neg 0 : Nat) : Int), 0), ?_, by rw [rounded_low h neg exp (.inl hpp) false k]; rfl⟩
    have hVn : nat_Valid.f n = some none := by rw [Valid_ok (by omega), vn]; rfl
    have hVd : nat_Valid.f d = some none := by rw [Valid_ok (by omega), vd]; rfl
    have rdn : rd_L1 ([n, d] : List (List Int)) 0 = n := rfl
    have rdd : rd_L1 ([n, d] : List (List Int)) 1 = d := rfl
    have w1 : wrap64 (0 + 1) = 1 := by unfold wrap64; omega
    have w2 : wrap64 (1 + 1) = 2 := by unfold wrap64; omega
    have hnl : n.length = 0 := by rw [hnn]; rfl
    unfold round_Ratio.f
    rw [bind_eq (pformat_ok h), if_pos rfl, bind_eq rfl, round_Ratio.l0, if_pos (by simp), if_pos (by omega), if_pos (by simp), rdn, bind_eq hVn, if_pos (by rfl), w1, round_Ratio.l0, if_pos (by simp), if_pos (by omega), if_pos (by simp), rdd, bind_eq hVd, if_pos (by rfl), w2, round_Ratio.l0, if_neg (by simp), if_neg (by omega), bind_eq (far_ok he0 he1), if_neg (by simp), if_pos (by omega), bind_eq (pZero_ok h _ neg)]
    rfl
  · have hpl : p.length ≠ 0 := fun c => by rw [List.length_eq_zero_iff.1 c] at p4; simp [nv] at p4; omega
    obtain ⟨e, e1, e2, e3, e4⟩ := Ratio_ok h neg hn hd vn vd g hd0 exp he0 he1
    have hsmall := man_small (F := F) (L := L) (exp := exp) hd0 e1 false
    obtain ⟨hF0, hF, hS, hFS, hL, _, hF23⟩ := fmt_small h
    have hF52 : F ≤ 52 := by rcases h with ⟨_, rfl, _⟩ | ⟨_, rfl, _⟩ <;> omega
    have h2F : 2 ^ (F + 1) ≤ 2 ^ 53 := Nat.pow_le_pow_right (by decide) (by omega)
    have hopt : ∃ b : Option Nat, (∀ q, b = some q → q < 2 ^ S) ∧ (0 < man (nv B64 n) (nv B64 d) exp (lst F L e exp) false → ∀ (neg : Bool) (k : Nat), bits_Pack.f (k + 200) neg 2 ((man (nv B64 n) (nv B64 d) exp (lst F L e exp) false : Nat) : Int) (lst F L e exp) size = some (pv S neg b) ∧ numeralref11_Pack.f (k + 200) neg 2 ((man (nv B64 n) (nv B64 d) exp (lst F L e exp) false : Nat) : Int) (lst F L e exp) size = some (rv S neg b)) := by
      generalize man (nv B64 n) (nv B64 d) exp (lst F L e exp) false = Q at *
      rcases Nat.eq_zero_or_pos Q with c | c
      · exact ⟨none, fun q c => (by cases c), fun c2 => absurd c2 (by omega)⟩
      · obtain ⟨b, b1, b2⟩ := Pack_opt h c (by omega) (lst F L e exp)
        exact ⟨b, b1, fun _ => b2⟩
    obtain ⟨b, b1, b2⟩ := hopt
    have hw := e4 b (fun c neg k => (b2 c neg k).1) (k + 3) (by omega)
    refine ⟨_, hw, ?_⟩
    by_cases hlow : exp < -20000
    · have hQ0 := man_zero (F := F) (L := L) (exp := exp) hd0 e1 (by unfold lst; omega) false
      rw [rounded_low h neg exp (.inr hlow) false k, hQ0]
      rfl
    · by_cases hhigh : 20000 < exp
      · have hl : lst F L e exp = e + exp - F := by unfold lst; omega
        have hQ0 := man_pos (F := F) (L := L) (exp := exp) hd0 e1 hl false
        have hbn : b = none := by
          have r1 := (b2 hQ0 false 0).2
          have r2 := rPack_far h hQ0 (e := lst F L e exp) (by right; omega) false 198
          rw [r2] at r1
          cases b with
          | none => rfl
          | some v => simp [rv] at r1
        rw [rounded_high h neg hpl exp hhigh false k, hbn]
        unfold ans
        rw [if_neg (by omega)]; rfl
      · obtain ⟨f, f1, f2, f3, f4⟩ := rounded_ok h neg p2 q2 p3 q3 (by omega) (by omega) (by omega) (by omega) exp (by omega) (by omega) false
        rw [p4, q4] at f1 f4
        have hee : f = e := fb_unique hd0 f1 e1
        subst hee
        have := f4 b b1 (fun c k => (b2 c false k).2) (k + 2) (by omega)
        rw [bind_eq this]
theorem bad_valid {neg : Bool} {n d : List Int} {exp : Int} {F E S z : Nat} {L : Int} {I : Nat} (h : IsFmt z F E S L I) (hn : n.length < 1000000000000000) (hd : d.length < 1000000000000000) (hv : vnum n ≠ 0 ∨ vnum d ≠ 0) (k : Nat) :
    round_Ratio.f (k + 3) z neg n d exp = some (0, errv (if vnum n = 0 then vnum d else vnum n)) := by
  have rdn : rd_L1 ([n, d] : List (List Int)) 0 = n := rfl
  have rdd : rd_L1 ([n, d] : List (List Int)) 1 = d := rfl
  have w1 : wrap64 (0 + 1) = 1 := by unfold wrap64; omega
  unfold round_Ratio.f
  rw [bind_eq (pformat_ok h), if_pos rfl, bind_eq rfl, round_Ratio.l0, if_pos (by simp), if_pos (by omega), if_pos (by simp), rdn, bind_eq (Valid_ok hn)]
  by_cases v : vnum n = 0
  · rw [if_pos (by rw [errn_isNone]; exact v), w1, round_Ratio.l0, if_pos (by simp), if_pos (by omega), if_pos (by simp), rdd, bind_eq (Valid_ok hd), if_neg (by rw [errn_isNone]; omega), errn_getD (by omega), if_pos v]
    rfl
  · rw [if_neg (by rw [errn_isNone]; exact v), errn_getD v, if_neg v]
    rfl
theorem RoundRatios : numerallaw12_RoundRatios.Pure := by
  intro size neg n d exp h1 h2 h3 h4 h5 h6 h7 h8
  have hn := okl_of_wf h4
  have hd := okl_of_wf h7
  have hnl : n.length < 17592186044417 := by omega
  have hdl : d.length < 17592186044417 := by omega
  obtain ⟨k, hk⟩ : ∃ k : Nat, k = 300000 + n.length + d.length := ⟨_, rfl⟩
  refine ⟨k, ?_⟩
  have key : ∃ r : Int × Int, round_Ratio.f k size neg n d exp = some (r.1, errv r.2) ∧ numeralref12_Ratio.f k size neg n d exp = some r := by
    unfold numeralref12_Ratio.f
    rw [bind_eq (rValid_ok (by omega)), bind_eq (rValid_ok (by omega))]
    rcases size_cases 0 (by decide) size with ⟨z, F, E, S, L, I, rfl, h, hlt⟩ | ⟨_, hbig⟩ | ⟨hn1, hn2⟩
    · rw [bind_eq (rsize_ok h), if_pos rfl]
      by_cases v1 : vnum n = 0
      · rw [if_pos v1]
        by_cases v2 : vnum d = 0
        · rw [if_pos v2]
          have ln := ((vnum_zero n).1 v1).1
          have ld := ((vnum_zero d).1 v2).1
          have hVn : nat_Valid.f n = some none := by rw [Valid_ok (by omega), v1]; rfl
          have hVd : nat_Valid.f d = some none := by rw [Valid_ok (by omega), v2]; rfl
          have rdn : rd_L1 ([n, d] : List (List Int)) 0 = n := rfl
          have rdd : rd_L1 ([n, d] : List (List Int)) 1 = d := rfl
          have w1 : wrap64 (0 + 1) = 1 := by unfold wrap64; omega
          have w2 : wrap64 (1 + 1) = 2 := by unfold wrap64; omega
          by_cases l0 : (d.length : Int) = 0
          · rw [if_pos l0]
            refine ⟨(0, 10), ?_, rfl⟩
            obtain ⟨j, rfl⟩ : ∃ j, k = j + 3 := ⟨k - 3, by omega⟩
            unfold round_Ratio.f
            rw [bind_eq (pformat_ok h), if_pos rfl, bind_eq rfl, round_Ratio.l0, if_pos (by simp), if_pos (by omega), if_pos (by simp), rdn, bind_eq hVn, if_pos (by rfl), w1, round_Ratio.l0, if_pos (by simp), if_pos (by omega), if_pos (by simp), rdd, bind_eq hVd, if_pos (by rfl), w2, round_Ratio.l0, if_neg (by simp), if_pos l0]
            rfl
          · rw [if_neg l0]
            by_cases hfar : exp < -1099511627776 ∨ 1099511627776 < exp
            · refine ⟨(0, 1), ?_, ?_⟩
              · obtain ⟨j, rfl⟩ : ∃ j, k = j + 3 := ⟨k - 3, by omega⟩
                unfold round_Ratio.f
                rw [bind_eq (pformat_ok h), if_pos rfl, bind_eq rfl, round_Ratio.l0, if_pos (by simp), if_pos (by omega), if_pos (by simp), rdn, bind_eq hVn, if_pos (by rfl), w1, round_Ratio.l0, if_pos (by simp), if_pos (by omega), if_pos (by simp), rdd, bind_eq hVd, if_pos (by rfl), w2, round_Ratio.l0, if_neg (by simp), if_neg l0, bind_eq (far_bad hfar), if_pos rfl]
                rfl
              · obtain ⟨j, rfl⟩ : ∃ j, k = j + 1 := ⟨k - 1, by omega⟩
                by_cases hf : exp < -1099511627776
                · rw [if_pos hf, numeralref12_Ratio.j0, if_pos rfl]
                · rw [if_neg hf, decide_eq_true (by omega), numeralref12_Ratio.j0, if_pos rfl]
            · rw [if_neg (by omega), decide_eq_false (by omega)]
              exact bothr h neg hn hd v1 v2 (by omega) exp (by omega) (by omega) (by omega)
        · rw [if_neg v2]
          refine ⟨(0, vnum d), ?_, rfl⟩
          have := bad_valid (neg := neg) (exp := exp) h (by omega) (by omega) (.inr v2) (k - 3) (n := n)
          rw [show k - 3 + 3 = k by omega, if_pos v1] at this
          exact this
      · rw [if_neg v1]
        refine ⟨(0, vnum n), ?_, rfl⟩
        have := bad_valid (neg := neg) (exp := exp) h (by omega) (by omega) (.inl v1) (k - 3) (d := d)
        rw [show k - 3 + 3 = k by omega, if_neg v1] at this
        exact this
    · omega
    · rw [bind_eq (rsize_bad hn1 hn2), if_neg (by simp)]
      refine ⟨(0, 5), ?_, rfl⟩
      unfold round_Ratio.f
      rw [bind_eq (pformat_bad hn1 hn2), if_neg (by simp)]; rfl
  obtain ⟨r, hr1, hr2⟩ := key
  unfold numerallaw12_RoundRatios.f
  rw [bind_eq (twin12 (by omega)), bind_eq (twin12 (by omega)), bind_eq hr1, bind_eq hr2, if_pos rfl, bind_eq (num12r _), if_pos rfl, bind_eq (same12 (by omega) (by omega)), if_pos rfl, bind_eq (same12 (by omega) (by omega)), if_pos rfl, bind_eq (works12r (by omega))]
end Go.Proofs.YtbjmfocjigikgaaDoor.Pure
