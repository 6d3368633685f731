
/- RoundSame, the pure statement: how a number is written is nothing to its float: both parts times the same, or a power of two in one of them. -/
import Derived.Test.YtbjmfocjigikgaaDoorXsAll
import Derived.Test.YtbjmfocjigikgaaDoorXsx1
import Derived.Test.YtbjmfocjigikgaaDoorXsx10
import Derived.Test.YtbjmfocjigikgaaDoorXsx6
import Derived.Test.YtbjmfocjigikgaaDoorXsx7
import Derived.Test.YtbjmfocjigikgaaDoorXsx8
namespace Go.Proofs.YtbjmfocjigikgaaDoor.Pure
open Go.RowKit Go.Proofs.YtbjmfocjigikgaaDoor.Xs Go.Proofs.YtbjmfocjigikgaaDoor.A Go.Proofs.YtbjmfocjigikgaaDoor.L Go.Proofs.YtbjmfocjigikgaaDoor.Q Go.Proofs.YtbjmfocjigikgaaDoor.XsH Go.Proofs.YtbjmfocjigikgaaDoor.XsB Go.Proofs.YtbjmfocjigikgaaDoorW.PrintWords Go.Proofs.YtbjmfocjigikgaaDoorW.PrintLast
theorem num12s (c : Int) : numerallaw12_num.f (errv c) = some c := by
  unfold errv
  by_cases h : c = 0
  · rw [if_pos h, h]; rfl
  · rw [if_neg h]; rfl
theorem works12s_at : numerallaw12_works.f 1000 = some true := by decide +kernel
theorem works12s {k : Nat} (hk : 1000 ≤ k) : numerallaw12_works.f k = some true := by
  obtain ⟨j, rfl⟩ := Nat.exists_eq_add_of_le hk
  induction j with
  | zero => exact works12s_at
  | succ j ih => exact numerallaw12_works.mono _ _ (ih (by omega))
theorem twin12s {l : List Int} (h : l.length < 17592186044416) : numerallaw12_twin.f l = some l := by
  unfold numerallaw12_twin.f
  rw [if_pos (by simpa using h), List.nil_append]
theorem norm100 (a : Int) : ∃ s : Nat, s < 100 ∧ Int.tmod (wrap64 ((Int.tmod a 100) + 100)) 100 = (s : Int) := by
  have h1 : -100 < Int.tmod a 100 ∧ Int.tmod a 100 < 100 := by
    rcases Int.le_total 0 a with g | g
    · obtain ⟨x, rfl⟩ := Int.eq_ofNat_of_zero_le g
      have e : Int.tmod (x : Int) 100 = ((x % 100 : Nat) : Int) := (Int.ofNat_tmod x 100).symm
      rw [e]; omega
    · obtain ⟨x, hx⟩ := Int.eq_ofNat_of_zero_le (show 0 ≤ -a by omega)
      have e : Int.tmod (x : Int) 100 = ((x % 100 : Nat) : Int) := (Int.ofNat_tmod x 100).symm
      rw [show a = -(x : Int) by omega, Int.neg_tmod, e]; omega
  generalize Int.tmod a 100 = t at *
  obtain ⟨x, hx⟩ : ∃ x : Nat, t + 100 = (x : Int) := ⟨(t + 100).toNat, by omega⟩
  refine ⟨x % 100, Nat.mod_lt _ (by decide), ?_⟩
  rw [wrapi_id (by omega) (by omega), hx]
  exact (Int.ofNat_tmod x 100).symm
/-- A product's words. -/
theorem mul_words {n : List Int} (hn : okl B64 n) (vn : vnum n = 0) (ln : n.length ≤ 40) {c : Nat} (hc : c < B64) (hc0 : 0 < c) {k : Nat} (hk : 20000 ≤ k) :
    ∃ p, nat_Mul.f k n [(c : Int)] = some (p, none) ∧ okl B64 p ∧ vnum p = 0 ∧ p.length ≤ 41 ∧ nv B64 p = nv B64 n * c := by
  obtain ⟨e1, e2, e3, e4⟩ := one_ok hc hc0
  obtain ⟨p, p1, p2, p3, p4⟩ := Mul_ok hn e1 (by unfold vtwo; rw [if_pos vn, e4]) hk
  rw [e3] at p3
  have hlen : p.length ≤ 41 := by
    refine (top_length b64_one p1 p2 41).2 ?_
    have h1 := nv_lt b64_pos hn
    have h2 : B64 ^ n.length ≤ B64 ^ 40 := Nat.pow_le_pow_right b64_pos ln
    have h3 : nv B64 n * c < B64 ^ 40 * B64 := Nat.mul_lt_mul_of_lt_of_lt (Nat.lt_of_lt_of_le h1 h2) hc
    rw [p3, show B64 ^ 41 = B64 ^ 40 * B64 from Nat.pow_succ _ _]
    exact h3
  rw [if_neg (by omega)] at p4
  exact ⟨p, p4, p1, (vnum_zero p).2 ⟨by omega, p2⟩, hlen, p3⟩
theorem same_core {size : Int} (neg : Bool) {n d : List Int} (hn : okl B64 n) (hd : okl B64 d) (vn : vnum n = 0) (vd : vnum d = 0) (ln : n.length ≤ 40) (ld : d.length ≤ 40) (hdl : d.length ≠ 0) {c : Nat} (hc : c < B64) (hc0 : 0 < c) {s : Nat} (hs : s < 100) {exp : Int} (he0 : -1073741824 ≤ exp) (he1 : exp ≤ 1073741824) {k : Nat} (hk : 100000 ≤ k) :
    numerallaw12_RoundSame.j0 (k + 1) (c : Int) (s : Int) false size neg n d exp = some true := by
  have td := ((vnum_zero d).1 vd).2
  have tn := ((vnum_zero n).1 vn).2
  obtain ⟨p, p1, p2, p3, p4, p5⟩ := mul_words hn vn ln hc hc0 (k := k) (by omega)
  obtain ⟨q, q1, q2, q3, q4, q5⟩ := mul_words hd vd ld hc hc0 (k := k) (by omega)
  obtain ⟨u, u1, u2, u3, u4⟩ := pShl_ok p2 p3 (n := s) (by omega) (k := k) (by omega)
  have tq := ((vnum_zero q).1 q3).2
  have tp := ((vnum_zero p).1 p3).2
  have hof : nat_Of.f k (c : Int) = some [(c : Int)] := by rw [nOf_ok hc (by omega), if_neg (by omega)]
  have hul : u.length ≤ 43 := by
    refine (top_length b64_one u1 u2 43).2 ?_
    have h1 := nv_lt b64_pos p2
    have h2 : B64 ^ p.length ≤ B64 ^ 41 := Nat.pow_le_pow_right b64_pos p4
    have h3 : 2 ^ s ≤ 2 ^ 128 := Nat.pow_le_pow_right (by decide) (by omega)
    have h4 : 2 ^ s * nv B64 p < 2 ^ 128 * B64 ^ 41 := Nat.lt_of_le_of_lt (Nat.mul_le_mul_right _ h3) (Nat.mul_lt_mul_of_pos_left (Nat.lt_of_lt_of_le h1 h2) (Nat.two_pow_pos _))
    have h5 : B64 ^ 43 = 2 ^ 128 * B64 ^ 41 := by
      have e : B64 ^ 2 = 2 ^ 128 := by decide
      rw [← e, ← Nat.pow_add]
    rw [u3, h5]; exact h4
  rw [if_neg (by omega)] at u4
  have vu : vnum u = 0 := (vnum_zero u).2 ⟨by omega, u2⟩
  have hd0 : 0 < nv B64 d := by
    rcases Nat.eq_zero_or_pos (nv B64 d) with g | g
    · exact absurd (by rw [(nv_eq_zero b64_one hd td).1 g]; rfl) hdl
    · exact g
  have hq0 : 0 < nv B64 q := by rw [q5]; exact Nat.mul_pos hd0 hc0
  have hql : q.length ≠ 0 := fun g => by rw [List.length_eq_zero_iff.1 g] at hq0; simp [nv] at hq0
  have hwe : wrap64 (exp - (s : Int)) = exp - (s : Int) := wrapi_id (by omega) (by omega)
  have key : ∃ r : Int × Int, round_Ratio.f k size neg n d exp = some (r.1, errv r.2) ∧ round_Ratio.f k size neg p q exp = some (r.1, errv r.2) ∧ round_Ratio.f k size neg u q (exp - s) = some (r.1, errv r.2) := by
    rcases size_cases 0 (by decide) size with ⟨z, F, E, S, L, I, rfl, h, hlt⟩ | ⟨_, hbig⟩ | ⟨hn1, hn2⟩
    · rcases Nat.eq_zero_or_pos (nv B64 n) with g | g
      · have z1 : n.length = 0 := by rw [(nv_eq_zero b64_one hn tn).1 g]; rfl
        have z2 : p.length = 0 := by rw [(nv_eq_zero b64_one p2 tp).1 (by rw [p5, g, Nat.zero_mul])]; rfl
        have z3 : u.length = 0 := by rw [(nv_eq_zero b64_one u1 u2).1 (by rw [u3, p5, g, Nat.zero_mul, Nat.mul_zero])]; rfl
        refine ⟨(((sgn S neg 0 : Nat) : Int), 0), ?_⟩
        have r1 := Ratio_zero h neg vn vd z1 hdl exp (by omega) (by omega) (k - 3)
        have r2 := Ratio_zero h neg p3 q3 z2 hql exp (by omega) (by omega) (k - 3)
        have r3 := Ratio_zero h neg vu q3 z3 hql (exp - s) (by omega) (by omega) (k - 3)
        rw [show k - 3 + 3 = k by omega] at r1 r2 r3
        exact ⟨r1, r2, r3⟩
      · have p0 : 0 < nv B64 p := by rw [p5]; exact Nat.mul_pos g hc0
        have u0 : 0 < nv B64 u := by rw [u3]; exact Nat.mul_pos (Nat.two_pow_pos _) p0
        obtain ⟨r, hr⟩ := Ratio_two h neg hn hd vn vd g hd0 p2 q2 p3 q3 p0 hq0 exp exp (by omega) (by omega) (by omega) (by omega) (s := 0) (fun e he => by rw [p5, q5, Int.add_zero]; exact fb_scale hc0 he) (by omega) (fun last => by rw [p5, q5]; exact man_scale hd0 hc0 exp last false)
        obtain ⟨r', hr'⟩ := Ratio_two h neg p2 q2 p3 q3 p0 hq0 u1 q2 vu q3 u0 hq0 exp (exp - s) (by omega) (by omega) (by omega) (by omega) (s := (s : Int)) (fun e he => by rw [u3, Nat.mul_comm (2 ^ s)]; exact fb_shift he) rfl (fun last => by rw [u3, Nat.mul_comm (2 ^ s)]; exact man_shift s hq0 exp last false)
        obtain ⟨a1, a2⟩ := hr k (by omega)
        obtain ⟨b1, b2⟩ := hr' k (by omega)
        exact ⟨r', by rw [a1, ← b1, a2], b1, b2⟩
    · omega
    · exact ⟨(0, 5), Ratio_bad hn1 hn2 _ _ _ _ _, Ratio_bad hn1 hn2 _ _ _ _ _, Ratio_bad hn1 hn2 _ _ _ _ _⟩
  obtain ⟨r, r1, r2, r3⟩ := key
  rw [numerallaw12_RoundSame.j0, if_neg (by simp), bind_eq (twin12s (l := n) (by omega)), bind_eq (twin12s (l := d) (by omega)), bind_eq r1, bind_eq (twin12s (l := n) (by omega)), bind_eq hof, bind_eq p1, bind_eq (twin12s (l := d) (by omega)), bind_eq hof, bind_eq q1, bind_eq u4, bind_eq r2, hwe, bind_eq r3, if_pos (by rfl), if_pos (by rfl), if_pos (by rfl), if_pos rfl, if_pos rfl, bind_eq (num12s _), bind_eq (num12s _), if_pos rfl, bind_eq (num12s _), bind_eq (num12s _), if_pos rfl, bind_eq (works12s (by omega))]
theorem RoundSame : numerallaw12_RoundSame.Pure := by
  intro size neg n d exp c s h1 h2 h3 h4 h5 h6 h7 h8 h9 h10
  have hn := okl_of_wf h4
  have hd := okl_of_wf h7
  obtain ⟨hc, hc'⟩ := wf_u64 h9
  obtain ⟨c, rfl⟩ := Int.eq_ofNat_of_zero_le hc
  obtain ⟨t, ht, htt⟩ := norm100 s
  refine ⟨200000, ?_⟩
  have hw : ∀ (x1 x2 : Int) (x3 : Int) (x4 : Bool) (x5 x6 : List Int) (x7 : Int), numerallaw12_RoundSame.j0 200000 x1 x2 true x3 x4 x5 x6 x7 = some true := by
    intro x1 x2 x3 x4 x5 x6 x7
    rw [numerallaw12_RoundSame.j0, if_pos rfl, bind_eq (works12s (by omega))]
  unfold numerallaw12_RoundSame.f
  rw [htt]
  by_cases l1 : (n.length : Int) > 40
  · rw [if_pos l1, hw]
  · rw [if_neg l1]
    by_cases l2 : (d.length : Int) > 40
    · rw [if_pos l2, hw]
    · rw [if_neg l2, bind_eq (rValid_ok (by omega))]
      by_cases v1 : vnum n = 0
      · rw [if_pos v1, bind_eq (rValid_ok (by omega))]
        by_cases v2 : vnum d = 0
        · rw [if_pos v2]
          by_cases l0 : (d.length : Int) = 0
          · rw [if_pos l0, hw]
          · rw [if_neg l0]
            by_cases c0 : (c : Int) = 0
            · rw [if_pos c0, hw]
            · rw [if_neg c0]
              by_cases g1 : exp > 1073741824
              · rw [if_pos g1, hw]
              · rw [if_neg g1]
                by_cases g2 : exp < -1073741824
                · rw [decide_eq_true g2, hw]
                · rw [decide_eq_false g2]
                  exact same_core neg hn hd v1 v2 (by omega) (by omega) (by omega) (show c < 18446744073709551616 by omega) (by omega) ht (by omega) (by omega) (k := 199999) (by omega)
        · rw [if_neg v2, hw]
      · rw [if_neg v1, hw]
end Go.Proofs.YtbjmfocjigikgaaDoor.Pure
