
/- HexinOf, the pure statement: the float of every hexadecimal text's parts, or the error. -/
import Derived.Test.YtbnmchaldolpfaaDoorXoAll
import Derived.Test.YtbnmchaldolpfaaDoorXox1
import Derived.Test.YtbnmchaldolpfaaDoorXox10
import Derived.Test.YtbnmchaldolpfaaDoorXox11
import Derived.Test.YtbnmchaldolpfaaDoorXox4
import Derived.Test.YtbnmchaldolpfaaDoorXox5
namespace Go.Proofs.YtbnmchaldolpfaaDoor.XoB
open Go.RowKit Go.Proofs.YtbnmchaldolpfaaDoor.Xo Go.Proofs.YtbnmchaldolpfaaDoor.A Go.Proofs.YtbnmchaldolpfaaDoor.L Go.Proofs.YtbnmchaldolpfaaDoor.Q Go.Proofs.YtbnmchaldolpfaaDoor.XoH Go.Proofs.YtbnmchaldolpfaaDoorW.PrintWords Go.Proofs.YtbnmchaldolpfaaDoorW.PrintLast
set_option linter.unusedSimpArgs false
set_option linter.unusedVariables false
/-- The reference's at. -/
theorem at_ok {size F E S : Nat} {L : Int} {I : Nat} (h : IsFmt size F E S L I) {p : List Int} (hp : okl B32 p) (tp : top p) (lp : p.length ≤ 4) {M l : Nat} (hM : nv B32 p = M) (h1 : 2 ^ (l - 1) ≤ M) (h2 : M < 2 ^ l) (hl0 : 0 < l) (hl : l ≤ 65) (e t : Int) {f : Int} (hf : max (-3000) (min e 3000) = f) {k : Nat} (hk : 70000 ≤ k) :
    numeralref17_at.f k p e size t = some (nr I (hb F L M f (max ((l : Int) - 1 + f - F) L) t)) := by
  obtain ⟨hF0, hF, hS, hFS, hLL, _, hF23⟩ := fmt_small h
  have hF52 : F ≤ 52 := by rcases h with ⟨_, rfl, _⟩ | ⟨_, rfl, _⟩ <;> omega
  have hM0 : 0 < M := Nat.lt_of_lt_of_le (Nat.two_pow_pos _) h1
  have hone : okl B32 [1] := okl_cons.2 ⟨⟨by decide, by decide⟩, okl_nil _⟩
  have tone : top [1] := by intro x hx; simp at hx; omega
  have none1 : nv B32 [1] = 1 := by simp [nv]
  have hclip : mx (mn e 3000) (-3000) = f := by rw [mx_int, mn_int]; omega
  have hup : mx f 0 = ((f.toNat : Nat) : Int) := by rw [mx_int]; omega
  have hdn : mx (-f) 0 = (((-f).toNat : Nat) : Int) := by rw [mx_int]; omega
  obtain ⟨num, a1, a2, a3, a4, a5⟩ := bshl_ok hp (by omega) (n := f.toNat) (by omega) (k := k) (by omega)
  obtain ⟨den, b1, b2, b3, b4, b5⟩ := bshl_ok hone (by simp) (n := (-f).toNat) (by omega) (k := k) (by omega)
  have hN : nv B32 num = M * pu f := by rw [a4, hM, Nat.mul_comm]; rfl
  have hD : nv B32 den = pd f := by rw [b4, none1, Nat.mul_one]; rfl
  have n0 : 0 < nv B32 num := by rw [hN]; exact Nat.mul_pos hM0 (pu_pos _)
  have d0 : 0 < nv B32 den := by rw [hD]; exact pd_pos _
  have hnl : num.length ≠ 0 := fun c => by rw [List.length_eq_zero_iff.1 c] at n0; simp [nv] at n0
  have hln : num.length ≤ 200 := by omega
  have hld : den.length ≤ 200 := by simp at b5; omega
  obtain ⟨Ln, x1, x2, x3⟩ := bbits_ok a2 (by omega) (k := k) (by omega)
  obtain ⟨Ld, y1, y2, y3⟩ := bbits_ok b2 (by omega) (k := k) (by omega)
  -- the lengths
  have bu : ∀ {n La Lb : Nat}, 0 < n → bl n La → 2 ^ (Lb - 1) ≤ n → n < 2 ^ Lb → 0 < Lb → La = Lb := by
    intro n La Lb hn ⟨c1, c2, _⟩ d1 d2 d3
    obtain ⟨c2, c3⟩ := c2 hn
    rcases Nat.lt_trichotomy La Lb with g | g | g
    · have : 2 ^ La ≤ 2 ^ (Lb - 1) := Nat.pow_le_pow_right (by decide) (by omega)
      omega
    · exact g
    · have : 2 ^ Lb ≤ 2 ^ (La - 1) := Nat.pow_le_pow_right (by decide) (by omega)
      omega
  have hLn : Ln = l + f.toNat := by
    refine bu n0 x2 ?_ ?_ (by omega)
    · rw [hN]; unfold pu
      rw [show l + f.toNat - 1 = (l - 1) + f.toNat by omega, Nat.pow_add]
      exact Nat.mul_le_mul_right _ h1
    · rw [hN]; unfold pu
      rw [Nat.pow_add]
      exact Nat.mul_lt_mul_of_pos_right h2 (Nat.two_pow_pos _)
  have hLd : Ld = (-f).toNat + 1 := by
    refine bu d0 y2 ?_ ?_ (by omega)
    · rw [hD]; unfold pd; exact Nat.le_refl _
    · rw [hD]; unfold pd; exact Nat.pow_lt_pow_right (by decide) (by omega)
  generalize hlast : max ((l : Int) - 1 + f - F) L = last
  -- the rounding, told two ways
  have hcr : ∀ q : Int, rqt (nv B32 num * pd q) (nv B32 den * pu q) t = mtt M f q t := by
    intro q
    unfold mtt
    refine rqt_cross (Nat.mul_pos d0 (pu_pos _)) (pd_pos _) ?_ t
    rw [hN, hD]
    have e1 : pu f * pd q * pd (f - q) = pu (f - q) * (pd f * pu q) := by
      unfold pu pd
      rw [← Nat.pow_add, ← Nat.pow_add, ← Nat.pow_add, ← Nat.pow_add]; congr 1; omega
    have e2 : M * pu f * pd q * pd (f - q) = M * (pu f * pd q * pd (f - q)) := by ac_rfl
    have e3 : M * pu (f - q) * (pd f * pu q) = M * (pu (f - q) * (pd f * pu q)) := by ac_rfl
    rw [e2, e3, e1]
  have hge := rqt_ge (nv B32 num * pd last) (nv B32 den * pu last) t
  have hsm : (nv B32 num * pd last) / (nv B32 den * pu last) < 2 ^ (F + 1) := by
    rw [Nat.div_lt_iff_lt_mul (Nat.mul_pos d0 (pu_pos _)), hN, hD]
    have c1 : M * (pu f * pd last) < 2 ^ l * (pu f * pd last) := Nat.mul_lt_mul_of_pos_right h2 (Nat.mul_pos (pu_pos _) (pd_pos _))
    have c2 : 2 ^ l * (pu f * pd last) ≤ 2 ^ (F + 1) * (pd f * pu last) := by
      unfold pu pd
      rw [← Nat.pow_add, ← Nat.pow_add, ← Nat.pow_add, ← Nat.pow_add]
      exact Nat.pow_le_pow_right (by decide) (by omega)
    rw [Nat.mul_assoc]; omega
  have hnorm : 2 ^ F ≤ rqt (nv B32 num * pd last) (nv B32 den * pu last) t ∨ last = L := by
    by_cases g : last = L
    · exact .inr g
    · left
      refine Nat.le_trans ?_ hge
      rw [Nat.le_div_iff_mul_le (Nat.mul_pos d0 (pu_pos _)), hN, hD]
      have c1 : 2 ^ (l - 1) * (pu f * pd last) ≤ M * (pu f * pd last) := Nat.mul_le_mul_right _ h1
      have c2 : 2 ^ F * (pd f * pu last) ≤ 2 ^ (l - 1) * (pu f * pd last) := by
        unfold pu pd
        rw [← Nat.pow_add, ← Nat.pow_add, ← Nat.pow_add, ← Nat.pow_add]
        exact Nat.pow_le_pow_right (by decide) (by omega)
      rw [Nat.mul_assoc M]; omega
  have hend : ∀ j, 60000 ≤ j → numeralref13_Nearest.l0 (j + 2) num den size t ((F : Int) + 1) last = some ((nr I (hb F L M f last t)).1, (nr I (hb F L M f last t)).2, num, den) := by
    intro j hj
    have := (near_l0 h a2 b2 a3 b3 hln hld d0 t last (by omega) (by omega) hj).2 hsm hnorm (by omega)
    rw [hcr last] at this
    exact this
  have hnear : numeralref13_Nearest.f k num den size t = some ((nr I (hb F L M f last t)).1, (nr I (hb F L M f last t)).2, num, den) := by
    obtain ⟨k, rfl⟩ : ∃ j, k = j + 4 := ⟨k - 4, by omega⟩
    unfold numeralref13_Nearest.f
    rw [if_neg (by omega), bind_eq (rfrac_ok h), bind_eq x1, bind_eq y1, bind_eq (rlow_ok h), wrapi_id (n := (F : Int) + 1) (by omega) (by omega), wrapi_id (n := (Ln : Int) - (Ld : Int)) (by omega) (by omega), wrapi_id (n := (Ln : Int) - (Ld : Int) - ((F : Int) + 1)) (by omega) (by omega), mx_int]
    by_cases c : max ((Ln : Int) - (Ld : Int) - ((F : Int) + 1)) L = last
    · rw [c]; exact hend (k + 2) (by omega)
    · have c2 : max ((Ln : Int) - (Ld : Int) - ((F : Int) + 1)) L = last - 1 := by omega
      have hbig : 2 ^ (F + 1) ≤ (nv B32 num * pd (last - 1)) / (nv B32 den * pu (last - 1)) := by
        rw [Nat.le_div_iff_mul_le (Nat.mul_pos d0 (pu_pos _)), hN, hD]
        have c1 : 2 ^ (l - 1) * (pu f * pd (last - 1)) ≤ M * (pu f * pd (last - 1)) := Nat.mul_le_mul_right _ h1
        have c2 : 2 ^ (F + 1) * (pd f * pu (last - 1)) ≤ 2 ^ (l - 1) * (pu f * pd (last - 1)) := by
          unfold pu pd
          rw [← Nat.pow_add, ← Nat.pow_add, ← Nat.pow_add, ← Nat.pow_add]
          exact Nat.pow_le_pow_right (by decide) (by omega)
        rw [Nat.mul_assoc M]; omega
      have := (near_l0 h a2 b2 a3 b3 hln hld d0 t (last - 1) (by omega) (by omega) (k := k + 2) (by omega)).1 hbig
      rw [c2, show k + 4 = k + 2 + 2 by omega, this, wrapi_id (n := last - 1 + 1) (by omega) (by omega), show last - 1 + 1 = last by omega]
      exact hend k (by omega)
  unfold numeralref17_at.f
  rw [hclip, hup, hdn, bind_eq a1, bind_eq b1, bind_eq hnear]
/-- Nothing. -/
theorem at_zero {size F E S : Nat} {L : Int} {I : Nat} (h : IsFmt size F E S L I) (e t : Int) {f : Int} (hf : max (-3000) (min e 3000) = f) {k : Nat} (hk : 70000 ≤ k) :
    numeralref17_at.f k [] e size t = some (nr I 0) := by
  obtain ⟨hI0, hI1, _⟩ := fmt_I h
  have hone : okl B32 [1] := okl_cons.2 ⟨⟨by decide, by decide⟩, okl_nil _⟩
  have hclip : mx (mn e 3000) (-3000) = f := by rw [mx_int, mn_int]; omega
  have hup : mx f 0 = ((f.toNat : Nat) : Int) := by rw [mx_int]; omega
  have hdn : mx (-f) 0 = (((-f).toNat : Nat) : Int) := by rw [mx_int]; omega
  obtain ⟨num, a1, a2, a3, a4, a5⟩ := bshl_ok (okl_nil B32) (by simp) (n := f.toNat) (by omega) (k := k) (by omega)
  obtain ⟨den, b1, b2, b3, b4, b5⟩ := bshl_ok hone (by simp) (n := (-f).toNat) (by omega) (k := k) (by omega)
  have hz : num = [] := (nv_eq_zero b32_one a2 a3).1 (by rw [a4]; simp [nv])
  subst hz
  unfold numeralref17_at.f
  rw [hclip, hup, hdn, bind_eq a1, bind_eq b1]
  unfold numeralref13_Nearest.f
  rw [if_pos (by rfl)]
  unfold nr; rw [if_neg (by omega)]; rfl
/-- The reference's last step. -/
theorem rj0_ok {size F E S : Nat} {L : Int} {I : Nat} (h : IsFmt size F E S L I) (neg : Bool) (B : Nat) (k : Nat) :
    ∃ c : Int, outr S I neg B = ((outr S I neg B).1, if c = 0 then none else some c) ∧ numeralref17_Round.j0 (k + 1) neg size (nr I B).1 (nr I B).2 = some ((outr S I neg B).1, c) := by
  obtain ⟨hI0, hI1, _⟩ := fmt_I h
  rw [numeralref17_Round.j0]
  unfold nr outr
  by_cases g : I ≤ B
  · have := Signed_ok h neg (x := I) hI1
    rw [if_pos g, if_pos g]
    refine ⟨4, rfl, ?_⟩
    show (if true = true then _ else _) = _
    rw [if_pos rfl, bind_eq this]; rfl
  · have := Signed_ok h neg (x := B) (by omega)
    rw [if_neg g, if_neg g]
    refine ⟨0, rfl, ?_⟩
    show (if false = true then _ else _) = _
    rw [if_neg (by decide), bind_eq this]; rfl
theorem errn17 (c : Int) : numerallaw17_num.f (if c = 0 then none else some c) = some c := by
  by_cases h : c = 0
  · rw [if_pos h, h]; rfl
  · rw [if_neg h]; rfl
/-- Both Rounds. -/
theorem round_both {size F E S : Nat} {L : Int} {I : Nat} (h : IsFmt size F E S L I) (neg : Bool) {m : Nat} (hm : m < 18446744073709551616) (e : Int) (more : Bool) {k : Nat} (hk : 80000 ≤ k) :
    ∃ (b c : Int), hexin_Round.f k neg (m : Int) e more size = some (b, if c = 0 then none else some c) ∧ numeralref17_Round.f k neg (m : Int) e more size = some (b, c) := by
  obtain ⟨hF0, hF, hS, hFS, hLL, _, hF23⟩ := fmt_small h
  obtain ⟨hI0, hI1, _⟩ := fmt_I h
  have hB : B64 = 18446744073709551616 := rfl
  obtain ⟨p, p1, p2, p3, p4, p5⟩ := bsmall_ok (d := m) (by omega) (k := k) (by omega)
  have hone : okl B32 [1] := okl_cons.2 ⟨⟨by decide, by decide⟩, okl_nil _⟩
  have none1 : nv B32 [1] = 1 := by simp [nv]
  obtain ⟨f, hf⟩ : ∃ f, max (-3000) (min e 3000) = f := ⟨_, rfl⟩
  unfold numeralref17_Round.f
  rw [bind_eq (rsize_ok h), if_pos rfl, bind_eq p1]
  rcases Nat.eq_zero_or_pos m with h0 | h0
  · subst h0
    have hpn : p = [] := (nv_eq_zero b32_one p2 p3).1 p4
    subst hpn
    rw [bind_eq (at_zero h e 0 hf (by omega))]
    cases more with
    | false =>
      rw [if_neg (by decide)]
      obtain ⟨c, c1, c2⟩ := rj0_ok h neg 0 (k - 1)
      rw [show k - 1 + 1 = k by omega] at c2
      have hr := Round_nought h neg e (k - 8)
      rw [show k - 8 + 8 = k by omega] at hr
      refine ⟨_, c, ?_, c2⟩
      rw [← c1]
      unfold outr
      rw [if_neg (by omega)]
      exact hr
    | true =>
      obtain ⟨q, q1, q2, q3, q4, q5⟩ := badd_ok (okl_nil B32) hone (by simp) (by simp) (k := k) (by omega)
      rw [none1] at q4
      have hq1 : nv B32 q = 1 := by rw [q4]; simp [nv]
      have hql : q.length ≤ 4 := by
        have := (top_length b32_one q2 q3 1).2 (by rw [hq1]; decide)
        omega
      have hat := at_ok h q2 q3 hql hq1 (l := 1) (by decide) (by decide) (by decide) (by decide) e (-1) hf (k := k) (by omega)
      have hnb := nought_both (F := F) (L := L) (I := I) hI0 hLL hF23 e hf
      have hr := Round_nought_more h neg e (k - 210)
      rw [show k - 210 + 210 = k by omega] at hr
      rw [if_pos rfl, bind_eq p1, bind_eq (at_zero h e 1 hf (by omega)), bind_eq q1, bind_eq hat]
      by_cases g : max (-5000) (min e 5000) < L
      · have hq := hnb.2 g
        rw [if_pos g] at hr
        rw [← hq, if_pos rfl, if_neg (by simp)]
        obtain ⟨c, c1, c2⟩ := rj0_ok h neg 0 (k - 1)
        rw [show k - 1 + 1 = k by omega] at c2
        refine ⟨_, c, ?_, c2⟩
        rw [← c1]
        unfold outr
        rw [if_neg (by omega)]
        exact hr
      · rw [if_neg g] at hr
        refine ⟨0, 1, hr, ?_⟩
        have hne : nr I 0 ≠ nr I (hb F L 1 f (max (((1 : Nat) : Int) - 1 + f - F) L) (-1)) := fun c => g (hnb.1 c)
        by_cases c1 : (nr I 0).1 = (nr I (hb F L 1 f (max (((1 : Nat) : Int) - 1 + f - F) L) (-1))).1
        · rw [if_pos c1, if_pos]
          have c2 : (nr I 0).2 ≠ (nr I (hb F L 1 f (max (((1 : Nat) : Int) - 1 + f - F) L) (-1))).2 := fun c2 => hne (Prod.ext c1 c2)
          simpa using c2
        · rw [if_neg c1]
  · obtain ⟨b0, b1, b2⟩ := blen_spec _ m rfl h0 hm
    have hle := bitLen_le64 m hm
    have ha0 := at_ok h p2 p3 (by omega) p4 b1 b2 b0 (by omega) e 0 hf (k := k) (by omega)
    rw [bind_eq ha0]
    cases more with
    | false =>
      rw [if_neg (by decide)]
      have hr := plain_both h neg h0 hm e (k - 8) hf
      rw [show k - 8 + 8 = k by omega] at hr
      obtain ⟨c, c1, c2⟩ := rj0_ok h neg (hb F L m f (max ((Lib.bitLen m : Int) - 1 + f - F) L) 0) (k - 1)
      rw [show k - 1 + 1 = k by omega] at c2
      refine ⟨_, c, ?_, c2⟩
      rw [← c1]
      exact hr
    | true =>
      obtain ⟨q, q1, q2, q3, q4, q5⟩ := badd_ok p2 hone (by omega) (by simp) (k := k) (by omega)
      rw [none1, p4] at q4
      obtain ⟨lb, hb1, hb2, hb3, hb4⟩ := bl_next h0 hm
      have hlb0 : 0 < lb := by omega
      have hql : q.length ≤ 4 := by
        have e96 : (18446744073709551616 : Nat) < B32 ^ 3 := by decide
        have := (top_length b32_one q2 q3 3).2 (by rw [q4]; omega)
        omega
      have ha1 := at_ok h p2 p3 (by omega) p4 b1 b2 b0 (by omega) e 1 hf (k := k) (by omega)
      have ha2 := at_ok h q2 q3 hql q4 hb1 hb2 hlb0 hb3 e (-1) hf (k := k) (by omega)
      have hr := more_both h neg h0 hm e (k - 210) hb1 hb4 hf
      rw [show k - 210 + 210 = k by omega] at hr
      rw [if_pos rfl, bind_eq p1, bind_eq ha1, bind_eq q1, bind_eq ha2]
      have hlf : lastOf F L m f = max ((Lib.bitLen m : Int) - 1 + f - F) L := rfl
      rw [hlf] at hr
      by_cases g : nr I (hb F L m f (max ((Lib.bitLen m : Int) - 1 + f - F) L) 1) = nr I (hb F L (m + 1) f (max ((lb : Int) - 1 + f - F) L) (-1))
      · rw [if_pos g] at hr
        rw [← g, if_pos rfl, if_neg (by simp)]
        obtain ⟨c, c1, c2⟩ := rj0_ok h neg (hb F L m f (max ((Lib.bitLen m : Int) - 1 + f - F) L) 1) (k - 1)
        rw [show k - 1 + 1 = k by omega] at c2
        refine ⟨_, c, ?_, c2⟩
        rw [← c1]
        exact hr
      · rw [if_neg g] at hr
        refine ⟨0, 1, hr, ?_⟩
        by_cases c1 : (nr I (hb F L m f (max ((Lib.bitLen m : Int) - 1 + f - F) L) 1)).1 = (nr I (hb F L (m + 1) f (max ((lb : Int) - 1 + f - F) L) (-1))).1
        · rw [if_pos c1, if_pos]
          have c2 : (nr I (hb F L m f (max ((Lib.bitLen m : Int) - 1 + f - F) L) 1)).2 ≠ (nr I (hb F L (m + 1) f (max ((lb : Int) - 1 + f - F) L) (-1))).2 := fun c2 => g (Prod.ext c1 c2)
          simpa using c2
        · rw [if_neg c1]
theorem most17_ok {size F E S : Nat} {L : Int} {I : Nat} (h : IsFmt size F E S L I) : ∃ v, bits_Most.f size = some (v, none) := by
  rcases h with ⟨rfl, rfl, rfl, rfl, rfl, rfl⟩ | ⟨rfl, rfl, rfl, rfl, rfl, rfl⟩
  · exact ⟨2139095039, by decide +kernel⟩
  · exact ⟨9218868437227405311, by decide +kernel⟩
end Go.Proofs.YtbnmchaldolpfaaDoor.XoB
namespace Go.Proofs.YtbnmchaldolpfaaDoor.Pure
open Go.RowKit Go.Proofs.YtbnmchaldolpfaaDoor.Xo Go.Proofs.YtbnmchaldolpfaaDoor.A Go.Proofs.YtbnmchaldolpfaaDoor.Q Go.Proofs.YtbnmchaldolpfaaDoor.XoB Go.Proofs.YtbnmchaldolpfaaDoorW.PrintWords Go.Proofs.YtbnmchaldolpfaaDoorW.PrintLast
theorem HexinOf : numerallaw17_HexinOf.Pure := by
  intro neg kind d1 d2 d3 m e more size h1 h2 h3 h4 h5 h6
  obtain ⟨hm, hm'⟩ := wf_u64 h4
  obtain ⟨m, rfl⟩ := Int.eq_ofNat_of_zero_le hm
  refine ⟨100000, ?_⟩
  have hsure : numerallaw17_sure.f 100000 = some true := hsure_ok 99992
  have key : ∃ (b c : Int), hexin_Of.f 100000 neg kind d1 d2 d3 (m : Int) e more size = some (b, if c = 0 then none else some c) ∧ numeralref17_Of.f 100000 neg kind d1 d2 d3 (m : Int) e more size = some (b, c) := by
    unfold hexin_Of.f numeralref17_Of.f
    rcases size_cases 0 (by decide) size with ⟨z, F, E, S, L, I, rfl, h, hlt⟩ | ⟨_, hbig⟩ | ⟨hn1, hn2⟩
    · obtain ⟨v, hv⟩ := most17_ok h
      rw [bind_eq hv, if_pos (by rfl), bind_eq (rsize_ok h), if_pos rfl]
      by_cases g : kind = 2
      · obtain ⟨b, c, r1, r2⟩ := round_both h neg (m := m) (by omega) e more (k := 100000) (by omega)
        rw [if_pos g, if_pos g, bind_eq r1, bind_eq r2]
        exact ⟨b, c, rfl, rfl⟩
      · rw [if_neg g, if_neg g]
        exact ⟨0, 1, rfl, rfl⟩
    · omega
    · have hmost : bits_Most.f size = some (0, some 5) := by
        unfold bits_Most.f
        rw [bind_eq (formatOf_bad hn1 hn2)]
        rfl
      rw [bind_eq hmost, if_neg (by simp), bind_eq (rsize_bad hn1 hn2), if_neg (by simp)]
      exact ⟨0, 5, rfl, rfl⟩
  obtain ⟨b, c, r1, r2⟩ := key
  unfold numerallaw17_HexinOf.f
  rw [bind_eq r1, bind_eq r2, if_pos rfl, bind_eq (errn17 c), if_pos rfl, bind_eq hsure]
end Go.Proofs.YtbnmchaldolpfaaDoor.Pure
