
/- NatRing, the pure statement: sums and products do not hang on the order, a product goes over a sum, a sum less one of both is the other. -/
import Derived.Test.YtemjpmgfbnlkjaaXrM
import Derived.Test.YtemjpmgfbnlkjaaXrx6
import Derived.Test.YtemjpmgfbnlkjaaXrx6
namespace Go.Proofs.Ytemjpmgfbnlkjaa.Pure
open Go.RowKit Go.Proofs.Ytemjpmgfbnlkjaa.Xr Go.Proofs.Ytemjpmgfbnlkjaa.A Go.Proofs.Ytemjpmgfbnlkjaa.L Go.Proofs.Ytemjpmgfbnlkjaa.XrB Go.Proofs.YtemjpmgfbnlkjaaW.PrintWords Go.Proofs.YtemjpmgfbnlkjaaW.PrintLast
set_option linter.unusedVariables false
theorem fits {t : List Int} (h : okl B64 t) (tt : top t) {n : Nat} (hv : nv B64 t < B64 ^ n) (hn : n ≤ 128) : t.length ≤ n ∧ ¬ 128 < t.length := by
  have := (top_length b64_one h tt n).2 hv
  omega
theorem vt {a b : List Int} (ha : a.length ≤ 128) (ta : top a) (hb : b.length ≤ 128) (tb : top b) : vtwo a b = 0 := by
  have h1 := (vnum_zero a).2 ⟨ha, ta⟩
  have h2 := (vnum_zero b).2 ⟨hb, tb⟩
  unfold vtwo; rw [if_pos h1, h2]
theorem ring_core {a b c : List Int} (ha : okl B64 a) (hb : okl B64 b) (hc : okl B64 c) (ta : top a) (tb : top b) (tc : top c) (la : a.length ≤ 30) (lb : b.length ≤ 30) (lc : c.length ≤ 30) (k : Nat) (hk : 20000 ≤ k) :
    numerallaw02_NatRing.j0 (k + 1) false a b c = some true := by
  have va := nv_lt b64_pos ha
  have vb := nv_lt b64_pos hb
  have vc := nv_lt b64_pos hc
  have pw : ∀ {m n : Nat}, m ≤ n → B64 ^ m ≤ B64 ^ n := fun h => Nat.pow_le_pow_right b64_pos h
  have pa := pw la
  have pb := pw lb
  have pc := pw lc
  have e31 : B64 ^ 31 = B64 ^ 30 * B64 := Nat.pow_succ ..
  have two : 2 * B64 ^ 30 ≤ B64 ^ 31 := by rw [e31, Nat.mul_comm]; exact Nat.mul_le_mul_left _ (by decide)
  obtain ⟨s, s1, s2, s3, s4⟩ := Add_ok hb hc (by omega) (by omega) (vt (by omega) tb (by omega) tc) (k := k) (by omega)
  obtain ⟨ls, fs⟩ := fits s1 s2 (n := 31) (by omega) (by omega)
  rw [if_neg fs] at s4
  obtain ⟨p, p1, p2, p3, p4⟩ := Mul_ok ha s1 (vt (by omega) ta (by omega) s2) hk
  have vp : nv B64 p < B64 ^ 61 := by
    rw [p3, show 61 = 30 + 31 by rfl, Nat.pow_add]
    exact Nat.mul_lt_mul'' (by omega) (by omega)
  rw [if_neg (fits p1 p2 vp (by omega)).2] at p4
  obtain ⟨x, x1, x2, x3, x4⟩ := Mul_ok ha hb (vt (by omega) ta (by omega) tb) hk
  have vx : nv B64 x < B64 ^ 60 := by
    rw [x3, show 60 = 30 + 30 by rfl, Nat.pow_add]
    exact Nat.mul_lt_mul'' (by omega) (by omega)
  obtain ⟨lx, fx⟩ := fits x1 x2 vx (by omega)
  rw [if_neg fx] at x4
  obtain ⟨y, y1, y2, y3, y4⟩ := Mul_ok hc ha (vt (by omega) tc (by omega) ta) hk
  have vy : nv B64 y < B64 ^ 60 := by
    rw [y3, show 60 = 30 + 30 by rfl, Nat.pow_add]
    exact Nat.mul_lt_mul'' (by omega) (by omega)
  obtain ⟨ly, fy⟩ := fits y1 y2 vy (by omega)
  rw [if_neg fy] at y4
  obtain ⟨q, q1, q2, q3, q4⟩ := Add_ok y1 x1 (by omega) (by omega) (vt (by omega) y2 (by omega) x2) (k := k) (by omega)
  have lp := (fits p1 p2 vp (by omega)).1
  have hsame : ∀ l : List Int, l.length ≤ 128 → numerallaw02_same.f k l l = some true := fun l h => same_ok (by omega) (by omega)
  have hpq : nv B64 p = nv B64 q := by rw [p3, q3, s3, x3, y3, Nat.mul_add, Nat.mul_comm (nv B64 c), Nat.add_comm]
  obtain rfl := top_inj b64_one p1 q1 p2 q2 hpq
  rw [if_neg (fits p1 p2 vp (by omega)).2] at q4
  obtain ⟨o, o1, o2, o3, o4⟩ := Sub_ok s1 hb (vt (by omega) s2 (by omega) tb) (by omega) (k := k) (by omega)
  obtain rfl := top_inj b64_one o1 hc o2 tc (by omega)
  rw [if_neg (by omega)] at o4
  rw [numerallaw02_NatRing.j0, if_neg (by decide), bind_eq (twin_ok (by omega)), bind_eq (twin_ok (by omega)), bind_eq (twin_ok (by omega)), bind_eq s4, bind_eq p4, bind_eq x4, bind_eq y4, bind_eq q4, bind_eq o4, if_pos (by rfl), if_pos (by rfl), if_pos (by rfl), if_pos (by rfl), if_pos (by rfl), if_pos (by rfl), bind_eq (hsame _ (Nat.le_trans lp (by decide))), if_pos rfl, bind_eq (hsame _ (Nat.le_trans lc (by decide))), if_pos rfl, bind_eq (works_ok (by omega))]
theorem ring_out {a b c : List Int} (k : Nat) (hk : 400 ≤ k) : numerallaw02_NatRing.j0 (k + 1) true a b c = some true := by
  rw [numerallaw02_NatRing.j0, if_pos rfl, bind_eq (works_ok hk)]
theorem NatRing : numerallaw02_NatRing.Pure := by
  intro a b c h1 h2 h3 h4 h5 h6 h7 h8 h9
  refine ⟨20001, ?_⟩
  have hout := @ring_out a b c 20000 (by decide)
  unfold numerallaw02_NatRing.f
  by_cases la : a.length > 30
  · rw [if_pos (by omega)]; exact hout
  rw [if_neg (by omega)]
  by_cases lb : b.length > 30
  · rw [if_pos (by omega)]; exact hout
  rw [if_neg (by omega)]
  by_cases lc : c.length > 30
  · rw [if_pos (by omega)]; exact hout
  rw [if_neg (by omega), bind_eq (rValid_ok (by omega))]
  by_cases va : vnum a = 0
  · rw [if_pos va, bind_eq (rValid_ok (by omega))]
    by_cases vb : vnum b = 0
    · rw [if_pos vb, bind_eq (rValid_ok (by omega))]
      by_cases vc : vnum c = 0
      · rw [vc]
        exact ring_core (okl_of_wf h3) (okl_of_wf h6) (okl_of_wf h9) ((vnum_zero a).1 va).2 ((vnum_zero b).1 vb).2 ((vnum_zero c).1 vc).2 (by omega) (by omega) (by omega) 20000 (by omega)
      · have hb : (vnum c != 0) = true := bne_iff_ne.mpr vc
        rw [hb]; exact hout
    · rw [if_neg vb]; exact hout
  · rw [if_neg va]; exact hout
end Go.Proofs.Ytemjpmgfbnlkjaa.Pure
