
/- BitsConverts, the pure statement: all floats of 32 bits widened, all of 64 narrowed, or the error. -/
import Derived.Test.YtdddkkojgepnmaaDoorXcN
import Derived.Test.YtdddkkojgepnmaaDoorXcx10
import Derived.Test.YtdddkkojgepnmaaDoorXcx11
import Derived.Test.YtdddkkojgepnmaaDoorXcx12
import Derived.Test.YtdddkkojgepnmaaDoorXcx2
import Derived.Test.YtdddkkojgepnmaaDoorXcx3
import Derived.Test.YtdddkkojgepnmaaDoorXcx6
import Derived.Test.YtdddkkojgepnmaaDoorXcx7
import Derived.Test.YtdddkkojgepnmaaDoorXcx8
import Derived.Test.YtdddkkojgepnmaaDoorXcx9
namespace Go.Proofs.YtdddkkojgepnmaaDoor.XcB
open Go.RowKit Go.Proofs.YtdddkkojgepnmaaDoor.Xc Go.Proofs.YtdddkkojgepnmaaDoor.A Go.Proofs.YtdddkkojgepnmaaDoor.Q Go.Proofs.YtdddkkojgepnmaaDoorW.PrintWords Go.Proofs.YtdddkkojgepnmaaDoorW.PrintLast
set_option linter.unusedSimpArgs false
set_option linter.unusedVariables false
theorem num_errv (c : Int) : numerallaw11_num.f (errv c) = some c := by
  unfold errv
  by_cases h : c = 0
  · rw [if_pos h, h]; rfl
  · rw [if_neg h]; rfl
theorem tmod_two (q : Nat) : (Int.tmod (q : Int) 2 == 1) = decide (q % 2 = 1) := by
  rw [show Int.tmod (q : Int) 2 = ((q % 2 : Nat) : Int) from (Int.ofNat_tmod q 2).symm, Bool.eq_iff_iff, beq_iff_eq, decide_eq_true_iff]; omega
/-- What the program's rounding makes of a grid of c bits less. -/
theorem pround (neg : Bool) (c1 c2 c3 : Int) (k m c : Nat) (hm : m < 2 ^ 53) (hc0 : 0 < c) (hc : c < 64) :
    (if ((m % 2 ^ c : Nat) : Int) > ((2 ^ c : Nat) : Int) / 2 then (bits_Narrow.j0 (k + 1) (c : Int) ((m / 2 ^ c : Nat) : Int) true neg c1 c2 c3) else (if ((m % 2 ^ c : Nat) : Int) = ((2 ^ c : Nat) : Int) / 2 then (if ((m % 2 ^ c : Nat) : Int) > 0 then (bits_Narrow.j0 (k + 1) (c : Int) ((m / 2 ^ c : Nat) : Int) ((Int.tmod ((m / 2 ^ c : Nat) : Int) 2) == 1) neg c1 c2 c3) else (bits_Narrow.j0 (k + 1) (c : Int) ((m / 2 ^ c : Nat) : Int) false neg c1 c2 c3)) else (bits_Narrow.j0 (k + 1) (c : Int) ((m / 2 ^ c : Nat) : Int) false neg c1 c2 c3))) = bits_Narrow.j1 k (c : Int) ((rhe m c : Nat) : Int) neg c1 c2 c3 := by
  obtain ⟨t, rfl⟩ : ∃ t, c = t + 1 := ⟨c - 1, by omega⟩
  have hp := Nat.two_pow_pos t
  have hs : 2 ^ (t + 1) = 2 ^ t * 2 := Nat.pow_succ ..
  have hq : m / 2 ^ (t + 1) ≤ m := Nat.div_le_self _ _
  unfold rhe
  have hql : m / 2 ^ (t + 1) < 2 ^ 53 := by omega
  clear hq
  generalize m / 2 ^ (t + 1) = q at *
  generalize m % 2 ^ (t + 1) = r at *
  have hj : ∀ b : Bool, bits_Narrow.j0 (k + 1) ((t + 1 : Nat) : Int) (q : Int) b neg c1 c2 c3 = bits_Narrow.j1 k ((t + 1 : Nat) : Int) ((if b = true then q + 1 else q : Nat) : Int) neg c1 c2 c3 := by
    intro b
    rw [bits_Narrow.j0]
    cases b
    · rfl
    · rw [if_pos rfl, if_pos rfl, wrapu_id (n := (q : Int) + 1) (by omega) (by omega)]; rfl
  rw [hj, hj, hj, tmod_two, show ((2 ^ (t + 1) : Nat) : Int) / 2 = ((2 ^ t : Nat) : Int) by omega]
  by_cases h1 : 2 ^ t < r
  · rw [if_pos (by omega), if_pos rfl, if_pos (by omega)]
  · rw [if_neg (by omega)]
    by_cases h2 : r = 2 ^ t
    · rw [if_pos (by omega), if_pos (by omega)]
      by_cases h3 : q % 2 = 1
      · rw [if_pos (decide_eq_true h3), if_pos (by omega)]
      · rw [if_neg (by rw [decide_eq_false h3]; decide), if_neg (by omega)]
    · rw [if_neg (by omega), if_neg (by decide), if_neg (by omega)]
theorem mx_int (a b : Int) : mx a b = max a b := by unfold mx; split <;> omega
/-- The program's narrowing where the packing fell. -/
theorem Narrow_fell {a : Nat} (ha : a < 2 ^ 64) (neg : Bool) {M : Nat} {X : Int} (hu : unp 52 63 (-1074) 9218868437227405312 a = (neg, 2, (M : Int), X)) (h0 : 0 < M) (hM : M < 2 ^ 53) (hX : -1074 ≤ X) (hX2 : X ≤ 2000) (hn : 2 ^ 52 ≤ M ∨ X = -1074) (k : Nat)
    (hP : bits_Pack.f (k + 5) neg 2 (M : Int) X 32 = some (0, some 4)) :
    bits_Narrow.f (k + 5) (a : Int) = some (((capv 31 2139095040 neg (bitsv 23 (-149) M X) : Nat) : Int), false, none) := by
  obtain ⟨b0, b1, b2⟩ := blen_spec _ M rfl h0 (by omega)
  have hb53 : Lib.bitLen M ≤ 53 := Lib.bitLen_le M 53 (by decide) hM
  have hbn : 2 ^ 52 ≤ M → Lib.bitLen M = 53 := by
    intro h
    rcases Nat.lt_or_ge (Lib.bitLen M) 53 with hlt | hge
    · exfalso
      have : 2 ^ Lib.bitLen M ≤ 2 ^ 52 := Nat.pow_le_pow_right (by decide) (by omega)
      omega
    · omega
  have hlen : bits_Len64.f (M : Int) = some ((Lib.bitLen M : Nat) : Int) := by
    unfold bits_Len64.f u64ok
    rw [if_pos (u64ok_of (by omega)), Int.toNat_natCast]
  have hleast : bits_format_least.f 23 8 = some (-149) := by decide +kernel
  have hgp := gridv_pos (F := 23) (L := -149) (e := X) h0 (by omega)
  have hPg : 0 < gridv M X (lastOf 23 (-149) M X) → lastOf 23 (-149) M X ≤ 4900 → ∀ k, bits_Pack.f (k + 2) neg 2 ((gridv M X (lastOf 23 (-149) M X) : Nat) : Int) (lastOf 23 (-149) M X) 32 = some (outb 31 2139095040 neg (bitsv 23 (-149) M X)) := fun a b k => Pack_grid fmt32 h0 (by omega) a b neg k
  have hl : lastOf 23 (-149) M X = max ((Lib.bitLen M : Int) - 1 + X - 23) (-149) := rfl
  have hgv : X < lastOf 23 (-149) M X → gridv M X (lastOf 23 (-149) M X) = rhe M (lastOf 23 (-149) M X - X).toNat := fun hlt => by unfold gridv; rw [if_neg (by omega)]
  unfold bits_Narrow.f
  have hU : bits_Unpack.f (a : Int) 64 = some (neg, 2, (M : Int), X, none) := by rw [Unpack64 ha, hu]
  rw [bind_eq hU, if_pos (by rfl), bind_eq hP, if_neg (by simp), bind_eq hlen, bind_eq hleast]
  dsimp only
  generalize hlg : lastOf 23 (-149) M X = l at *
  generalize hbb : bitsv 23 (-149) M X = b at *
  generalize Lib.bitLen M = s at *
  have hXl : X + 29 ≤ l := by
    rcases hn with h | h
    · have := hbn h; omega
    · omega
  obtain ⟨c, hc⟩ : ∃ c : Nat, l - X = c := ⟨(l - X).toNat, by omega⟩
  have hcut : mx (mx (wrap64 ((s : Int) - 24)) (wrap64 (-149 - X))) 0 = (c : Int) := by
    rw [mx_int, mx_int, wrapi_id (n := (s : Int) - 24) (by omega) (by omega), wrapi_id (n := -149 - X) (by omega) (by omega)]; omega
  rw [hcut]
  have hgv := hgv (by omega)
  rw [hc, Int.toNat_natCast] at hgv
  by_cases hbig : (c : Int) > 63
  · have hp : 2 ^ 54 ≤ 2 ^ c := Nat.pow_le_pow_right (by decide) (by omega)
    have hb := hgp (by rw [hgv]; exact rhe_small (by omega))
    have hz : bits_Zero.f (k + 5) neg 32 = some (((sgn 31 neg 0 : Nat) : Int), none) := by
      have h1 : bits_Pack.f (k + 5) neg 1 0 0 32 = some (((sgn 31 neg 0 : Nat) : Int), none) := Pack_zero' fmt32 (k + 5) neg 0 0
      unfold bits_Zero.f
      rw [bind_eq h1]
    rw [if_pos hbig, bind_eq hz, hb]
    rfl
  · rw [if_neg hbig, shl1 c (by omega), shr_u M c (by omega)]
    have hmask : IntKind.u64.wrap (((2 ^ c : Nat) : Int) - 1) = ((2 ^ c - 1 : Nat) : Int) := by rw [← shl1 c (by omega)]; exact mask_u c (by omega)
    rw [hmask, and_mask M c (by omega) (by omega), pround neg 2 (M : Int) X (k + 4) M c hM (by omega) (by omega), ← hgv, show k + 4 = (k + 3) + 1 by omega, bits_Narrow.j1, wrapi_id (n := X + (c : Int)) (by omega) (by omega), show X + (c : Int) = l by omega]
    rcases Nat.eq_zero_or_pos (gridv M X l) with hg | hg
    · have hb := hgp hg
      have h1 : bits_Pack.f (k + 2) neg 1 ((gridv M X l : Nat) : Int) l 32 = some (((sgn 31 neg 0 : Nat) : Int), none) := Pack_zero' fmt32 (k + 2) neg _ l
      rw [if_pos (by omega), show k + 3 = (k + 2) + 1 by omega, bits_Narrow.j2, bind_eq h1, if_pos (by rfl), hb]
      rfl
    · have hP2 := hPg hg (by omega) k
      rw [if_neg (by omega), show k + 3 = (k + 2) + 1 by omega, bits_Narrow.j2, bind_eq hP2]
      unfold outb capv
      by_cases hI : 2139095040 ≤ b
      · have hi : bits_Inf.f (k + 2) neg 32 = some (((sgn 31 neg 2139095040 : Nat) : Int), none) := by
          have h1 : bits_Pack.f (k + 2) neg 3 0 0 32 = some (((sgn 31 neg 2139095040 : Nat) : Int), none) := Pack_inf' fmt32 (k + 2) neg 0 0
          unfold bits_Inf.f
          rw [bind_eq h1]
        rw [if_pos hI, if_neg (by simp), bind_eq hi, if_pos hI]
      · rw [if_neg hI, if_pos (by rfl), if_neg hI]
theorem Narrow_both {a : Nat} (ha : a < 2 ^ 64) (k : Nat) : ∃ (v : Int) (same : Bool), bits_Narrow.f (k + 300) (a : Int) = some (v, same, none) ∧ numeralref11_Narrow.f (k + 300) (a : Int) = some (v, same) := by
  have hself := sgn_self ha
  have hm : a % 2 ^ 63 < 2 ^ 63 := Nat.mod_lt _ (Nat.two_pow_pos 63)
  generalize decide (2 ^ 63 ≤ a) = neg at *
  generalize a % 2 ^ 63 = m at *
  subst hself
  have hU := Unpack64 ha
  have hR : numeralref11_Unpack.f ((sgn 63 neg m : Nat) : Int) 64 = some ((unp 52 63 (-1074) 9218868437227405312 (sgn 63 neg m)).1, (unp 52 63 (-1074) 9218868437227405312 (sgn 63 neg m)).2.1, (unp 52 63 (-1074) 9218868437227405312 (sgn 63 neg m)).2.2.1, (unp 52 63 (-1074) 9218868437227405312 (sgn 63 neg m)).2.2.2, 0) := runpack_ok fmt64 ha
  rcases cls_cases 9218868437227405312 m with hc | hc | hc | hc
  · rw [unp_of hm 1 hc (by decide) (by decide)] at hU hR
    refine ⟨((sgn 31 neg 0 : Nat) : Int), true, ?_, ?_⟩
    · have h1 : bits_Pack.f (k + 300) neg 1 0 0 32 = some (((sgn 31 neg 0 : Nat) : Int), none) := Pack_zero' fmt32 _ neg 0 0
      unfold bits_Narrow.f
      rw [bind_eq hU, if_pos (by rfl), bind_eq h1, if_pos (by rfl)]
      rfl
    · have h1 : numeralref11_Pack.f (k + 300) neg 1 0 0 32 = some (((sgn 31 neg 0 : Nat) : Int), 0) := rPack_zero fmt32 (k + 299) neg 0 0
      unfold numeralref11_Narrow.f
      rw [bind_eq hR, if_neg (by simp), if_neg (by simp), bind_eq h1]
  · have hu := unp_fine (F := 52) (S := 63) (L := -1074) (I := 9218868437227405312) (neg := neg) hm hc
    obtain ⟨n1, n2, n3, n4, n5, n6⟩ := parts_norm fmt64 hc
    rw [hu] at hU hR
    generalize mantOf 52 m = M at *
    generalize expOf 52 (-1074) m = X at *
    have hl : X ≤ lastOf 23 (-149) M X := by
      obtain ⟨b0, b1, b2⟩ := blen_spec _ M rfl n1 (by omega)
      unfold lastOf
      rcases n4 with h | h
      · rcases Nat.lt_or_ge (Lib.bitLen M) 53 with hlt | hge
        · exfalso
          have : 2 ^ Lib.bitLen M ≤ 2 ^ 52 := Nat.pow_le_pow_right (by decide) (by omega)
          omega
        · omega
      · omega
    have href : numeralref11_Narrow.f (k + 300) ((sgn 63 neg m : Nat) : Int) = some (((capv 31 2139095040 neg (bitsv 23 (-149) M X) : Nat) : Int), decide (M % 2 ^ (lastOf 23 (-149) M X - X).toNat = 0) && decide (bitsv 23 (-149) M X < 2139095040)) := by
      unfold numeralref11_Narrow.f
      rw [bind_eq hR, if_neg (by simp), if_pos rfl]
      exact rNarrow_fine neg 2 (M : Int) X n1 n2 n3 n5 n4 k
    refine ⟨_, _, ?_, href⟩
    by_cases hr : M % 2 ^ (lastOf 23 (-149) M X - X).toNat = 0
    · -- without a rest
      obtain ⟨g1, g2, g3⟩ := gridv_bounds (F := 23) (L := -149) n1 (by omega : M < 18446744073709551616) X
      have hL := lastOf_ge 23 (-149) M X
      have hbits : bitsv 23 (-149) M X = (lastOf 23 (-149) M X - -149).toNat * 2 ^ 23 + gridv M X (lastOf 23 (-149) M X) := rfl
      have hgv : gridv M X (lastOf 23 (-149) M X) = M / 2 ^ (lastOf 23 (-149) M X - X).toNat := by
        unfold gridv
        by_cases hle : lastOf 23 (-149) M X ≤ X
        · rw [if_pos hle, show (X - lastOf 23 (-149) M X).toNat = 0 by omega, show (lastOf 23 (-149) M X - X).toNat = 0 by omega, Nat.pow_zero, Nat.mul_one, Nat.div_one]
        · rw [if_neg hle, rhe_exact hr]
      have hlt24 : gridv M X (lastOf 23 (-149) M X) < 2 ^ 24 := by
        rw [hgv]
        obtain ⟨b0, b1, b2⟩ := blen_spec _ M rfl n1 (by omega)
        rw [Nat.div_lt_iff_lt_mul (Nat.two_pow_pos _), ← Nat.pow_add]
        refine Nat.lt_of_lt_of_le b2 (Nat.pow_le_pow_right (by decide) ?_)
        unfold lastOf; omega
      rw [hgv] at g2 hlt24 hbits
      have hP := Pack_div fmt32 n1 (by omega : M < 18446744073709551616) (e := X) (by omega) (by omega) hr hlt24 (by omega) (by omega) neg (k + 298)
      rw [show X + ((lastOf 23 (-149) M X - X).toNat : Int) - -149 = lastOf 23 (-149) M X - -149 by omega, ← hbits] at hP
      have e32 : ((32 : Nat) : Int) = 32 := rfl
      rw [e32] at hP
      unfold outb at hP
      by_cases hI : 2139095040 ≤ bitsv 23 (-149) M X
      · rw [if_pos hI] at hP
        rw [decide_eq_false (by omega : ¬ bitsv 23 (-149) M X < 2139095040), Bool.and_false]
        exact Narrow_fell ha neg hu n1 n2 n3 n5 n4 (k + 295) hP
      · rw [if_neg hI] at hP
        rw [decide_eq_true hr, decide_eq_true (by omega : bitsv 23 (-149) M X < 2139095040)]
        unfold bits_Narrow.f
        rw [bind_eq hU, if_pos (by rfl), bind_eq hP, if_pos (by rfl)]
        unfold capv
        rw [if_neg hI]
        rfl
    · have hP := Pack_rest fmt32 n1 (by omega : M < 18446744073709551616) (e := X) (by omega) (by omega) hl hr neg (k + 298)
      rw [decide_eq_false hr, Bool.false_and]
      exact Narrow_fell ha neg hu n1 n2 n3 n5 n4 (k + 295) hP
  · rw [unp_of hm 3 hc (by decide) (by decide)] at hU hR
    refine ⟨((sgn 31 neg 2139095040 : Nat) : Int), true, ?_, ?_⟩
    · have h1 : bits_Pack.f (k + 300) neg 3 0 0 32 = some (((sgn 31 neg 2139095040 : Nat) : Int), none) := Pack_inf' fmt32 _ neg 0 0
      unfold bits_Narrow.f
      rw [bind_eq hU, if_pos (by rfl), bind_eq h1, if_pos (by rfl)]
      rfl
    · have h1 : numeralref11_Pack.f (k + 300) neg 3 0 0 32 = some (((sgn 31 neg 2139095040 : Nat) : Int), 0) := rPack_inf fmt32 (k + 299) neg 0 0
      unfold numeralref11_Narrow.f
      rw [bind_eq hR, if_neg (by simp), if_neg (by simp), bind_eq h1]
  · have hu : unp 52 63 (-1074) 9218868437227405312 (sgn 63 neg m) = (false, 4, 0, 0) := by
      obtain ⟨e1, e2, _⟩ := sgn_mod neg hm
      unfold unp
      dsimp only
      rw [e1, e2, hc, if_pos rfl]
    rw [hu] at hU hR
    have hn : numeralref11_NaN.f 32 = some ((nanOf 23 2139095040 : Nat) : Int) := rnan_ok fmt32
    refine ⟨((nanOf 23 2139095040 : Nat) : Int), false, ?_, ?_⟩
    · have h1 : bits_Pack.f (k + 300) false 4 0 0 32 = some (((nanOf 23 2139095040 : Nat) : Int), none) := Pack_nan fmt32 _ false 0 0
      unfold bits_Narrow.f
      rw [bind_eq hU, if_pos (by rfl), bind_eq h1, if_pos (by rfl)]
      rfl
    · unfold numeralref11_Narrow.f
      rw [bind_eq hR, if_pos rfl, bind_eq hn]
theorem Widen_both {a : Nat} (ha : a < 18446744073709551616) (k : Nat) : ∃ r : Int × Int, bits_Widen.f (k + 200) (a : Int) = some (r.1, errv r.2) ∧ numeralref11_Widen.f (k + 200) (a : Int) = some r := by
  by_cases hb : 4294967296 ≤ a
  · refine ⟨(0, 1), ?_, ?_⟩
    · unfold bits_Widen.f
      rw [bind_eq (Unpack_big hb), if_neg (by simp)]
      rfl
    · unfold numeralref11_Widen.f
      rw [bind_eq (runpack_big hb), if_neg (by decide)]
  · have hlt : a < 2 ^ 32 := by omega
    have hR : numeralref11_Unpack.f (a : Int) 32 = some ((unp 23 31 (-149) 2139095040 a).1, (unp 23 31 (-149) 2139095040 a).2.1, (unp 23 31 (-149) 2139095040 a).2.2.1, (unp 23 31 (-149) 2139095040 a).2.2.2, 0) := runpack_ok fmt32 hlt
    have hU := Unpack32 hlt
    have hself := sgn_self hlt
    have hm : a % 2 ^ 31 < 2 ^ 31 := Nat.mod_lt _ (Nat.two_pow_pos 31)
    generalize decide (2 ^ 31 ≤ a) = neg at *
    generalize a % 2 ^ 31 = m at *
    subst hself
    have key : ∃ v : Int, bits_Pack.f (k + 200) (unp 23 31 (-149) 2139095040 (sgn 31 neg m)).1 (unp 23 31 (-149) 2139095040 (sgn 31 neg m)).2.1 (unp 23 31 (-149) 2139095040 (sgn 31 neg m)).2.2.1 (unp 23 31 (-149) 2139095040 (sgn 31 neg m)).2.2.2 64 = some (v, none) ∧ numeralref11_Pack.f (k + 200) (unp 23 31 (-149) 2139095040 (sgn 31 neg m)).1 (unp 23 31 (-149) 2139095040 (sgn 31 neg m)).2.1 (unp 23 31 (-149) 2139095040 (sgn 31 neg m)).2.2.1 (unp 23 31 (-149) 2139095040 (sgn 31 neg m)).2.2.2 64 = some (v, 0) := by
      rcases cls_cases 2139095040 m with hc | hc | hc | hc
      · rw [unp_of hm 1 hc (by decide) (by decide)]
        exact ⟨_, Pack_zero' fmt64 _ neg 0 0, rPack_zero fmt64 (k + 199) neg 0 0⟩
      · obtain ⟨n1, n2, n3, n4, n5, n6⟩ := parts_norm fmt32 hc
        rw [unp_fine hm hc]
        have n7 : expOf 23 (-149) m ≤ 200 := by
          obtain ⟨_, hI⟩ := cls_two hc
          unfold expOf
          split <;> omega
        generalize mantOf 23 m = M at *
        generalize expOf 23 (-149) m = X at *
        obtain ⟨r, hr1, hr2⟩ := Pack_both fmt64 n1 (by omega) X neg k
        obtain ⟨o, n, rfl, hz, hn64⟩ := odd_part n1 (by omega)
        obtain ⟨u, hr, hp0, hu⟩ := wide_rep (o := o) (n := n) (X := X) n2 n3 n7
        obtain ⟨q, hq, hq63⟩ := packv_nat fmt64 hr.1 hr.2.1 hp0
        have hP := Pack_rep fmt64 (by omega) hz hn64 (by omega) (by omega) hr neg (k + 198)
        rw [hq, signv_nat] at hP
        rw [hr1] at hP
        have hP := Option.some.inj hP
        have h4 : r.2 = 0 := by
          have h5 : errv r.2 = errv 0 := congrArg Prod.snd hP
          unfold errv at h5
          by_cases h : r.2 = 0
          · exact h
          · rw [if_neg h, if_pos rfl] at h5; cases h5
        have h6 : r = (r.1, 0) := by rw [← h4]
        rw [h6] at hr1 hr2
        exact ⟨r.1, hr1, hr2⟩
      · rw [unp_of hm 3 hc (by decide) (by decide)]
        exact ⟨_, Pack_inf' fmt64 _ neg 0 0, rPack_inf fmt64 (k + 199) neg 0 0⟩
      · have hu : unp 23 31 (-149) 2139095040 (sgn 31 neg m) = (false, 4, 0, 0) := by
          obtain ⟨e1, e2, _⟩ := sgn_mod neg hm
          unfold unp
          dsimp only
          rw [e1, e2, hc, if_pos rfl]
        rw [hu]
        exact ⟨_, Pack_nan fmt64 _ false 0 0, rPack_nan fmt64 (k + 199) false 0 0⟩
    obtain ⟨v, hv1, hv2⟩ := key
    refine ⟨(v, 0), ?_, ?_⟩
    · unfold bits_Widen.f
      rw [bind_eq hU, if_pos (by rfl), bind_eq hv1]
      rfl
    · unfold numeralref11_Widen.f
      rw [bind_eq hR, if_pos rfl, bind_eq hv2]
end Go.Proofs.YtdddkkojgepnmaaDoor.XcB
namespace Go.Proofs.YtdddkkojgepnmaaDoor.Pure
open Go.RowKit Go.Proofs.YtdddkkojgepnmaaDoor.Xc Go.Proofs.YtdddkkojgepnmaaDoor.A Go.Proofs.YtdddkkojgepnmaaDoor.XcB Go.Proofs.YtdddkkojgepnmaaDoorW.PrintWords Go.Proofs.YtdddkkojgepnmaaDoorW.PrintLast
theorem BitsConverts : numerallaw11_BitsConverts.Pure := by
  intro a0 h0
  obtain ⟨ha, ha'⟩ := wf_u64 h0
  obtain ⟨a, rfl⟩ := Int.eq_ofNat_of_zero_le ha
  refine ⟨300, ?_⟩
  unfold numerallaw11_BitsConverts.f
  obtain ⟨r, hw1, hw2⟩ := Widen_both (a := a) (by omega) 100
  obtain ⟨v, same, hn1, hn2⟩ := Narrow_both (a := a) (by omega) 0
  rw [bind_eq hw1, bind_eq hw2, bind_eq hn1, bind_eq hn2, if_pos rfl, bind_eq (num_errv _), if_pos rfl, if_pos rfl, if_pos (by simp), if_pos (by rfl), bind_eq (sure_ok 300)]
end Go.Proofs.YtdddkkojgepnmaaDoor.Pure
