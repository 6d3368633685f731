
/- RoundRises, the pure statement: a greater number is never rounded to a lesser float; a sign changes the sign's bit alone. -/
import Derived.Test.YtbjmfocjigikgaaDoorXiAll
import Derived.Test.YtbjmfocjigikgaaDoorXix1
import Derived.Test.YtbjmfocjigikgaaDoorXix6
import Derived.Test.YtbjmfocjigikgaaDoorXix7
import Derived.Test.YtbjmfocjigikgaaDoorXix8
import Derived.Test.YtbjmfocjigikgaaDoorXix9
import Derived.Test.YtbjmfocjigikgaaDoorXix9a
namespace Go.Proofs.YtbjmfocjigikgaaDoor.Pure
open Go.RowKit Go.Proofs.YtbjmfocjigikgaaDoor.Xi Go.Proofs.YtbjmfocjigikgaaDoor.A Go.Proofs.YtbjmfocjigikgaaDoor.L Go.Proofs.YtbjmfocjigikgaaDoor.Q Go.Proofs.YtbjmfocjigikgaaDoor.XiH Go.Proofs.YtbjmfocjigikgaaDoor.XiB Go.Proofs.YtbjmfocjigikgaaDoorW.PrintWords Go.Proofs.YtbjmfocjigikgaaDoorW.PrintLast
theorem num12i (c : Int) : numerallaw12_num.f (errv c) = some c := by
  unfold errv
  by_cases h : c = 0
  · rw [if_pos h, h]; rfl
  · rw [if_neg h]; rfl
theorem works12i_at : numerallaw12_works.f 1000 = some true := by decide +kernel
theorem works12i {k : Nat} (hk : 1000 ≤ k) : numerallaw12_works.f k = some true := by
  obtain ⟨j, rfl⟩ := Nat.exists_eq_add_of_le hk
  induction j with
  | zero => exact works12i_at
  | succ j ih => exact numerallaw12_works.mono _ _ (ih (by omega))
theorem twin12i {l : List Int} (h : l.length < 17592186044416) : numerallaw12_twin.f l = some l := by
  unfold numerallaw12_twin.f
  rw [if_pos (by simpa using h), List.nil_append]
theorem rises_core {size F E S : Nat} {L : Int} {I : Nat} (h : IsFmt size F E S L I) (neg : Bool) {n d m : List Int} (hn : okl B64 n) (hd : okl B64 d) (hm : okl B64 m) (vn : vnum n = 0) (vd : vnum d = 0) (vm : vnum m = 0) (ln : n.length ≤ 40) (ld : d.length ≤ 40) (lm : m.length ≤ 40) (hdl : d.length ≠ 0) {exp : Int} (he0 : -1073741824 ≤ exp) (he1 : exp ≤ 1073741824) {k : Nat} (hk : 100000 ≤ k) :
    numerallaw12_RoundRises.j0 (k + 1) m false size neg n d exp = some true := by
  have td := ((vnum_zero d).1 vd).2
  obtain ⟨hI0, hI1, hS63⟩ := fmt_I h
  obtain ⟨t, t1, t2, t3, t4⟩ := Add_ok hn hm (by omega) (by omega) (by unfold vtwo; rw [if_pos vn, vm]) (k := k) (by omega)
  have htl : t.length ≤ 41 := by
    refine (top_length b64_one t1 t2 41).2 ?_
    have h1 := nv_lt b64_pos hn
    have h2 : B64 ^ n.length ≤ B64 ^ 40 := Nat.pow_le_pow_right b64_pos ln
    have h3 := nv_lt b64_pos hm
    have h4 : B64 ^ m.length ≤ B64 ^ 40 := Nat.pow_le_pow_right b64_pos lm
    have h5 : B64 ^ 40 * 2 ≤ B64 ^ 40 * B64 := Nat.mul_le_mul_left _ (by decide)
    rw [t3, show B64 ^ 41 = B64 ^ 40 * B64 from Nat.pow_succ _ _]
    omega
  rw [if_neg (by omega)] at t4
  have vt : vnum t = 0 := (vnum_zero t).2 ⟨by omega, t2⟩
  have hd0 : 0 < nv B64 d := by
    rcases Nat.eq_zero_or_pos (nv B64 d) with g | g
    · exact absurd (by rw [(nv_eq_zero b64_one hd td).1 g]; rfl) hdl
    · exact g
  obtain ⟨b, b1, b2⟩ := Ratio_bits h hn hd vn vd hdl exp (by omega) (by omega)
  obtain ⟨c, c1, c2⟩ := Ratio_bits h t1 hd vt vd hdl exp (by omega) (by omega)
  have hbc := vbits_mono hd0 (by omega) b1 c1
  have r1 := b2 false k (by omega)
  have r2 := c2 false k (by omega)
  have r3 := b2 true k (by omega)
  have hof : ∀ x : Nat, outr S I false x = if I ≤ x then ((I : Int), 4) else ((x : Int), 0) := fun x => rfl
  have hcmp : (outr S I false b).1 ≤ (outr S I false c).1 := by
    rw [hof, hof]
    by_cases g1 : I ≤ b
    · rw [if_pos g1, if_pos (Nat.le_trans g1 hbc)]; exact Int.le_refl _
    · by_cases g2 : I ≤ c
      · rw [if_neg g1, if_pos g2]; show (b : Int) ≤ (I : Int); omega
      · rw [if_neg g1, if_neg g2]; show (b : Int) ≤ (c : Int); omega
  have hinf : (outr S I false c).1 ≤ (I : Int) := by
    rw [hof]
    by_cases g2 : I ≤ c
    · rw [if_pos g2]; exact Int.le_refl _
    · rw [if_neg g2]; show (c : Int) ≤ (I : Int); omega
  have hsg : numeralref11_Signed.f true (outr S I false b).1 size = some (outr S I true b).1 := by
    unfold outr
    by_cases g1 : I ≤ b
    · rw [if_pos g1, if_pos g1]; exact Signed_ok h true (x := I) hI1
    · rw [if_neg g1, if_neg g1]; exact Signed_ok h true (x := b) (by omega)
  have hnum : (outr S I true b).2 = (outr S I false b).2 := by
    unfold outr
    by_cases g1 : I ≤ b
    · rw [if_pos g1, if_pos g1]
    · rw [if_neg g1, if_neg g1]
  have hfour : (((outr S I false b).2 == 4) == ((outr S I false b).1 == (I : Int))) = true := by
    rw [hof]
    by_cases g1 : I ≤ b
    · rw [if_pos g1]; simp
    · rw [if_neg g1]
      have : ((b : Int) == (I : Int)) = false := by
        rw [beq_eq_false_iff_ne]; omega
      show (((0 : Int) == 4) == ((b : Int) == (I : Int))) = true
      rw [this]; rfl
  rw [numerallaw12_RoundRises.j0, if_neg (by simp), bind_eq (twin12i (l := n) (by omega)), bind_eq (twin12i (l := m) (by omega)), bind_eq t4, bind_eq (twin12i (l := n) (by omega)), bind_eq (twin12i (l := d) (by omega)), bind_eq r1, bind_eq (twin12i (l := d) (by omega)), bind_eq r2, bind_eq (twin12i (l := n) (by omega)), bind_eq (twin12i (l := d) (by omega)), bind_eq r3, if_pos (by rfl), if_pos hcmp, bind_eq (rInfv_ok h), if_pos hinf, bind_eq hsg, if_pos rfl, bind_eq (num12i _), bind_eq (num12i _), if_pos hnum.symm, bind_eq (num12i _), bind_eq (rInfv_ok h), if_pos hfour]
  by_cases g2 : I ≤ c
  · have e : outr S I false c = (((sgn S false I : Nat) : Int), 4) := by unfold outr; rw [if_pos g2]
    have e4 : numerallaw12_num.f (some ((errv 4).getD 0)) = some 4 := rfl
    rw [e]
    show (if (errv 4).isNone = true then _ else _) = _
    rw [if_neg (by decide), bind_eq e4, if_pos rfl, bind_eq (works12i (by omega))]
  · have e : outr S I false c = (((sgn S false c : Nat) : Int), 0) := by unfold outr; rw [if_neg g2]
    rw [e]
    show (if (errv 0).isNone = true then _ else _) = _
    rw [if_pos (by rfl), bind_eq (works12i (by omega))]
theorem RoundRises : numerallaw12_RoundRises.Pure := by
  intro size neg n d exp m h1 h2 h3 h4 h5 h6 h7 h8 h9 h10 h11
  have hn := okl_of_wf h4
  have hd := okl_of_wf h7
  have hm := okl_of_wf h11
  refine ⟨200000, ?_⟩
  have hw : ∀ (x1 : List Int) (x3 : Int) (x4 : Bool) (x5 x6 : List Int) (x7 : Int), numerallaw12_RoundRises.j0 200000 x1 true x3 x4 x5 x6 x7 = some true := by
    intro x1 x3 x4 x5 x6 x7
    rw [numerallaw12_RoundRises.j0, if_pos rfl, bind_eq (works12i (by omega))]
  unfold numerallaw12_RoundRises.f
  by_cases l1 : (n.length : Int) > 40
  · rw [if_pos l1, hw]
  rw [if_neg l1]
  by_cases l2 : (d.length : Int) > 40
  · rw [if_pos l2, hw]
  rw [if_neg l2]
  by_cases l3 : (m.length : Int) > 40
  · rw [if_pos l3, hw]
  rw [if_neg l3, bind_eq (rValid_ok (by omega))]
  by_cases v1 : vnum n = 0
  · rw [if_pos v1, bind_eq (rValid_ok (by omega))]
    by_cases v2 : vnum d = 0
    · rw [if_pos v2, bind_eq (rValid_ok (by omega))]
      by_cases v3 : vnum m = 0
      · rw [if_pos v3]
        by_cases l0 : (d.length : Int) = 0
        · rw [if_pos l0, hw]
        · rw [if_neg l0]
          rcases size_cases 0 (by decide) size with ⟨z, F, E, S, L, I, rfl, h, hlt⟩ | ⟨_, hbig⟩ | ⟨hn1, hn2⟩
          · rw [bind_eq (rsize_ok h), if_pos rfl]
            by_cases g1 : exp > 1073741824
            · rw [if_pos g1, hw]
            · rw [if_neg g1]
              by_cases g2 : exp < -1073741824
              · rw [decide_eq_true g2, hw]
              · rw [decide_eq_false g2]
                exact rises_core h neg hn hd hm v1 v2 v3 (by omega) (by omega) (by omega) (by omega) (by omega) (by omega) (k := 199999) (by omega)
          · omega
          · rw [bind_eq (rsize_bad hn1 hn2), if_neg (by simp), hw]
      · rw [if_neg v3, hw]
    · rw [if_neg v2, hw]
  · rw [if_neg v1, hw]
end Go.Proofs.YtbjmfocjigikgaaDoor.Pure
