
/- HexinSame, the pure statement: twice the mantissa with one less in the exponent is the same float; a greater mantissa is no lesser float; the sign changes the sign alone. -/
import Derived.Test.YtbnmchaldolpfaaDoorXsG
import Derived.Test.YtbnmchaldolpfaaDoorXsx1
import Derived.Test.YtbnmchaldolpfaaDoorXsx3
import Derived.Test.YtbnmchaldolpfaaDoorXsx4
import Derived.Test.YtbnmchaldolpfaaDoorXsx5
namespace Go.Proofs.YtbnmchaldolpfaaDoor.XsB
open Go.RowKit Go.Proofs.YtbnmchaldolpfaaDoor.Xs Go.Proofs.YtbnmchaldolpfaaDoor.A Go.Proofs.YtbnmchaldolpfaaDoor.Q Go.Proofs.YtbnmchaldolpfaaDoorW.PrintWords Go.Proofs.YtbnmchaldolpfaaDoorW.PrintLast
set_option linter.unusedSimpArgs false
set_option linter.unusedVariables false
theorem mx_int (a b : Int) : mx a b = max a b := by unfold mx; split <;> omega
theorem gridv_pos {F : Nat} {L : Int} {m : Nat} {e : Int} (h0 : 0 < m) (hm : m < 18446744073709551616) (hg : gridv m e (lastOf F L m e) = 0) : bitsv F L m e = 0 := by
  obtain ⟨g1, g2, _⟩ := gridv_bounds (F := F) (L := L) h0 hm e
  have hp := Nat.two_pow_pos F
  unfold bitsv
  rw [hg] at g2 ⊢
  have : lastOf F L m e = L := by omega
  rw [this, show (L - L).toNat = 0 by omega, Nat.zero_mul]
/-- What Round answers for the bits b, if there were no greatest. -/
def outr (S I : Nat) (neg : Bool) (b : Nat) : Int × Option Int := if I ≤ b then (((sgn S neg I : Nat) : Int), some 4) else (((sgn S neg b : Nat) : Int), none)
theorem beyond_ok {size F E S : Nat} {L : Int} {I : Nat} (h : IsFmt size F E S L I) (k : Nat) (neg : Bool) : hexin_beyond.f k neg size = some (((sgn S neg I : Nat) : Int), some 4) := by
  have hi : bits_Inf.f k neg size = some (((sgn S neg I : Nat) : Int), none) := by
    unfold bits_Inf.f
    rw [bind_eq (Pack_inf' h k neg 0 0)]
  unfold hexin_beyond.f
  rw [bind_eq hi]
theorem j4_ok {size F E S : Nat} {L : Int} {I : Nat} (h : IsFmt size F E S L I) (k : Nat) (neg : Bool) {M : Int} {X : Int} (z : Int) {b : Nat} (h0 : M ≠ 0) (hP : bits_Pack.f k neg 2 M X size = some (outb S I neg b)) :
    hexin_Round.j4 (k + 1) neg M X size z = some (outr S I neg b) := by
  rw [hexin_Round.j4, if_neg h0, bind_eq hP]
  unfold outb outr
  by_cases hI : I ≤ b
  · rw [if_pos hI, if_neg (by simp), bind_eq (beyond_ok h k neg), if_pos hI]
  · rw [if_neg hI, if_pos (by rfl), if_neg hI]
theorem bits_high {size F E S : Nat} {L : Int} {I : Nat} (h : IsFmt size F E S L I) {m : Nat} {e most : Int} (hmost : most + 2 - F - L = 2 ^ E - 1) (h0 : 0 < m) (hm : m < 18446744073709551616) (hh : (Lib.bitLen m : Int) - 1 + e > most) : I ≤ bitsv F L m e := by
  obtain ⟨g1, g2, _⟩ := gridv_bounds (F := F) (L := L) h0 hm e
  have hl : lastOf F L m e = max ((Lib.bitLen m : Int) - 1 + e - F) L := rfl
  unfold bitsv
  generalize gridv m e (lastOf F L m e) = g at *
  generalize lastOf F L m e = l at *
  rcases h with ⟨rfl, rfl, rfl, rfl, rfl, rfl⟩ | ⟨rfl, rfl, rfl, rfl, rfl, rfl⟩ <;> omega
theorem bits_low {F : Nat} {L : Int} {m : Nat} {e : Int} (hF : F < 64) (h0 : 0 < m) (hm : m < 18446744073709551616) (hc : 64 < lastOf F L m e - e) : bitsv F L m e = 0 := by
  apply gridv_pos h0 hm
  unfold gridv
  rw [if_neg (by omega)]
  apply rhe_small
  have : 2 ^ 65 ≤ 2 ^ (lastOf F L m e - e).toNat := Nat.pow_le_pow_right (by decide) (by omega)
  omega
/-- The rounding of a grid of c bits less. -/
theorem hround {size F E S : Nat} {L : Int} {I : Nat} (h : IsFmt size F E S L I) (neg : Bool) (k m c : Nat) (hm : m < 18446744073709551616) (hc0 : 0 < c) (hc : c ≤ 64) (x2 x18 z : Int) :
    hexin_Round.j3 (k + 1) neg (m : Int) x2 false size z x18 (c : Int) false = hexin_Round.j4 k neg ((rhe m c : Nat) : Int) x18 size z := by
  obtain ⟨t, rfl⟩ : ∃ t, c = t + 1 := ⟨c - 1, by omega⟩
  have hp := Nat.two_pow_pos t
  have hs : 2 ^ (t + 1) = 2 ^ t * 2 := Nat.pow_succ ..
  rw [hexin_Round.j3, if_neg (by decide), if_neg (by omega), if_pos (by omega), wrapi_id (n := ((t + 1 : Nat) : Int) - 1) (by omega) (by omega), show ((t + 1 : Nat) : Int) - 1 = (t : Int) by omega, shl1 t (by omega)]
  rcases Nat.lt_or_ge (t + 1) 64 with hlt | hge
  · have hq : m / 2 ^ (t + 1) < 2 ^ 63 := by
      have : 2 ^ 1 ≤ 2 ^ (t + 1) := Nat.pow_le_pow_right (by decide) (by omega)
      rw [Nat.div_lt_iff_lt_mul (Nat.two_pow_pos _)]
      have := Nat.mul_le_mul_left (2 ^ 63) this
      omega
    rw [if_pos (by omega), if_pos (by omega), if_pos (by omega), shr_u m (t + 1) (by omega)]
    rw [mask_u (t + 1) (by omega), and_mask m (t + 1) hm (by omega)]
    unfold rhe
    generalize m / 2 ^ (t + 1) = q at *
    generalize m % 2 ^ (t + 1) = r at *
    rw [wrapu_id (n := (q : Int) + 1) (by omega) (by omega), and_one (by omega)]
    by_cases h1 : 2 ^ t < r
    · rw [if_pos (by omega), if_pos (by omega)]; rfl
    · rw [if_neg (by omega)]
      by_cases h2 : r = 2 ^ t
      · rw [if_pos (by omega), if_neg (by decide)]
        by_cases h3 : q % 2 = 1
        · rw [if_pos (by omega), if_pos (by omega)]; rfl
        · rw [if_neg (by omega), if_neg (by omega)]
      · rw [if_neg (by omega), if_neg (by omega)]
  · obtain rfl : t = 63 := by omega
    have hrh : rhe m (63 + 1) = if 2 ^ 63 < m then 1 else 0 := by
      unfold rhe
      rw [Nat.mod_eq_of_lt (show m < 2 ^ (63 + 1) by omega), Nat.div_eq_of_lt (show m < 2 ^ (63 + 1) by omega)]
      by_cases h1 : 2 ^ 63 < m
      · rw [if_pos (by omega), if_pos h1]
      · rw [if_neg (by omega), if_neg h1]
    have ha : ¬ Go.bits .and .u64 0 1 = 1 := by decide +kernel
    rw [if_neg (by omega), if_pos (by omega), hrh]
    by_cases h1 : 2 ^ 63 < m
    · rw [if_pos (by omega), if_pos h1]; rfl
    · rw [if_neg (by omega), if_neg h1]
      by_cases h2 : m = 2 ^ 63
      · rw [if_pos (by omega), if_neg (show ¬ false = true by decide), if_neg ha]; rfl
      · rw [if_neg (by omega)]; rfl
theorem j0_ok {size F E S : Nat} {L : Int} {I : Nat} (h : IsFmt size F E S L I) {most w : Int} (hmost : most + 2 - F - L = 2 ^ E - 1) (hw : w = (F : Int) + 1) (neg : Bool) {m : Nat} (h0 : 0 < m) (hm : m < 18446744073709551616) (e : Int) (k : Nat) :
    hexin_Round.j0 (k + 8) neg (m : Int) e false size ((sgn S neg 0 : Nat) : Int) w L most = some (outr S I neg (bitsv F L m (max (-5000) (min e 5000)))) := by
  obtain ⟨hF0, hF, hS, hFS, hL, _, hF23⟩ := fmt_small h
  obtain ⟨hI0, hI, _⟩ := fmt_I h
  have hbl := bitLen_le64 m hm
  have hlen : bits_Len64.f (m : Int) = some ((Lib.bitLen m : Nat) : Int) := by
    unfold bits_Len64.f u64ok
    rw [if_pos (u64ok_of hm), Int.toNat_natCast]
  subst hw
  rw [show k + 8 = (k + 7) + 1 by omega, hexin_Round.j0, bind_eq hlen, if_neg (by omega), mx_int, mn_int, show k + 7 = (k + 6) + 1 by omega, hexin_Round.j1, if_neg (by decide), if_neg (by omega), show k + 6 = (k + 5) + 1 by omega, hexin_Round.j2, if_neg (by decide), if_neg (by omega)]
  generalize he' : max (-5000) (min e 5000) = e' at *
  have he0 : -5000 ≤ e' := by omega
  have he1 : e' ≤ 5000 := by omega
  clear he'
  rw [wrapi_id (n := ((Lib.bitLen m : Nat) : Int) - 1) (by omega) (by omega), wrapi_id (n := ((Lib.bitLen m : Nat) : Int) - 1 + e') (by omega) (by omega)]
  by_cases hh : ((Lib.bitLen m : Nat) : Int) - 1 + e' > most
  · have hb := bits_high h hmost h0 hm hh
    rw [if_pos hh, bind_eq (beyond_ok h _ neg)]
    unfold outr
    rw [if_pos hb]
  · have hmostlt : most ≤ 1100 := by rcases fmt_E h with ⟨h1, _, h2, h3⟩ | ⟨h1, _, h2, h3⟩ <;> omega
    have hlast : mx (wrap64 (wrap64 (((Lib.bitLen m : Nat) : Int) - 1 + e' - ((F : Int) + 1)) + 1)) L = lastOf F L m e' := by
      rw [mx_int, wrapi_id (n := ((Lib.bitLen m : Nat) : Int) - 1 + e' - ((F : Int) + 1)) (by omega) (by omega), wrapi_id (by omega) (by omega)]
      unfold lastOf; omega
    have hl1 : lastOf F L m e' ≤ 1100 := by unfold lastOf; omega
    have hl0 := lastOf_ge F L m e'
    rw [if_neg hh, if_neg (by decide), hlast, wrapi_id (n := lastOf F L m e' - e') (by omega) (by omega), show k + 5 = (k + 4) + 1 by omega]
    by_cases hc64 : lastOf F L m e' - e' > 64
    · rw [hexin_Round.j3, if_neg (by decide), if_pos hc64, bits_low (by omega) h0 hm hc64]
      unfold outr
      rw [if_neg (by omega)]
    · by_cases hc0 : lastOf F L m e' - e' > 0
      · obtain ⟨c, hc⟩ : ∃ c : Nat, lastOf F L m e' - e' = c := ⟨(lastOf F L m e' - e').toNat, by omega⟩
        have hgv : gridv m e' (lastOf F L m e') = rhe m c := by unfold gridv; rw [if_neg (by omega), hc, Int.toNat_natCast]
        rw [hc, hround h neg (k + 4) m c hm (by omega) (by omega), ← hgv]
        rcases Nat.eq_zero_or_pos (gridv m e' (lastOf F L m e')) with hg | hg
        · rw [hg, show k + 4 = (k + 3) + 1 by omega, hexin_Round.j4, if_pos (by rfl), gridv_pos h0 hm hg]
          unfold outr
          rw [if_neg (by omega)]
        · rw [show k + 4 = (k + 3) + 1 by omega]
          exact j4_ok h (k + 3) neg _ (by omega) (Pack_grid h h0 hm hg (by omega) neg (k + 1))
      · rw [hexin_Round.j3, if_neg (by decide), if_neg hc64, if_neg hc0, show k + 4 = (k + 3) + 1 by omega]
        exact j4_ok h (k + 3) neg _ (by omega) (Pack_exact h h0 hm he0 he1 (by omega) neg (k + 1))
theorem zero_ok {size F E S : Nat} {L : Int} {I : Nat} (h : IsFmt size F E S L I) (k : Nat) (neg : Bool) : bits_Zero.f k neg size = some (((sgn S neg 0 : Nat) : Int), none) := by
  unfold bits_Zero.f
  rw [bind_eq (Pack_zero' h k neg 0 0)]
theorem Round_ok {size F E S : Nat} {L : Int} {I : Nat} (h : IsFmt size F E S L I) (neg : Bool) {m : Nat} (h0 : 0 < m) (hm : m < 18446744073709551616) (e : Int) (k : Nat) :
    hexin_Round.f (k + 8) neg (m : Int) e false size = some (outr S I neg (bitsv F L m (max (-5000) (min e 5000)))) := by
  unfold hexin_Round.f
  rw [bind_eq (zero_ok h _ neg), if_pos (by rfl)]
  have h' := h
  rcases h' with ⟨rfl, rfl, rfl, rfl, rfl, rfl⟩ | ⟨rfl, rfl, rfl, rfl, rfl, rfl⟩
  · rw [if_pos (by rfl)]
    exact j0_ok h (by decide) rfl neg h0 hm e k
  · rw [if_neg (by decide)]
    exact j0_ok h (by decide) rfl neg h0 hm e k
theorem Round_nought {size F E S : Nat} {L : Int} {I : Nat} (h : IsFmt size F E S L I) (neg : Bool) (e : Int) (k : Nat) :
    hexin_Round.f (k + 8) neg 0 e false size = some (((sgn S neg 0 : Nat) : Int), none) := by
  have hlen : bits_Len64.f 0 = some 0 := by decide +kernel
  have hj : ∀ (w l o : Int), hexin_Round.j0 (k + 8) neg 0 e false size ((sgn S neg 0 : Nat) : Int) w l o = some (((sgn S neg 0 : Nat) : Int), none) := by
    intro w l o
    rw [show k + 8 = (k + 7) + 1 by omega, hexin_Round.j0, bind_eq hlen, if_pos rfl, show k + 7 = (k + 6) + 1 by omega, hexin_Round.j1, if_pos (by rfl)]
  unfold hexin_Round.f
  rw [bind_eq (zero_ok h _ neg), if_pos (by rfl), hj, hj]
  split <;> rfl
theorem Round_bad {size : Int} (h1 : size ≠ 32) (h2 : size ≠ 64) (neg : Bool) (m e : Int) (k : Nat) : hexin_Round.f k neg m e false size = some (0, some 5) := by
  have hz : bits_Zero.f k neg size = some (0, some 5) := by
    unfold bits_Zero.f
    rw [bind_eq (Pack_bad h1 h2 k neg 1 0 0)]
  unfold hexin_Round.f
  rw [bind_eq hz, if_neg (by simp)]
  rfl
theorem hsure_ok (k : Nat) : numerallaw17_sure.f (k + 8) = some true := by
  have h := Round_ok fmt64 false (m := 3) (by decide) (by decide) (-1) k
  have e1 : bitsv 52 (-1074) 3 (max (-5000) (min (-1) 5000)) = 4609434218613702656 := by decide +kernel
  rw [e1] at h
  have h2 : hexin_Round.f (k + 8) false 3 (-1) false 64 = some (4609434218613702656, none) := h
  unfold numerallaw17_sure.f
  rw [bind_eq h2, if_pos rfl, if_pos (by rfl)]
theorem hnum_none : numerallaw17_num.f none = some 0 := rfl
theorem hnum_some (c : Int) : numerallaw17_num.f (some c) = some c := rfl
/-- The end, where the four answers are known. -/
theorem same_end {size F E S : Nat} {L : Int} {I : Nat} (h : IsFmt size F E S L I) (k x y : Nat) (hx : x < 2 ^ S) (hxy : x ≤ y) (c : Int) (e1 e2 : Option Int) (hn : numerallaw17_num.f e1 = some c) :
    numerallaw17_HexinSame.j0 (k + 9) size (x : Int) e1 (x : Int) e1 (y : Int) e2 ((sgn S true x : Nat) : Int) e1 false = some true := by
  obtain ⟨hI0, hI, hS⟩ := fmt_I h
  have hsz : wrap64 ((size : Int) - 1) = (S : Int) := by
    rcases h with ⟨rfl, rfl, rfl, rfl, rfl, rfl⟩ | ⟨rfl, rfl, rfl, rfl, rfl, rfl⟩ <;> decide +kernel
  have hor : Go.bits .or .u64 (x : Int) ((2 ^ S : Nat) : Int) = ((sgn S true x : Nat) : Int) := by
    have h63 : 2 ^ S ≤ 2 ^ 63 := Nat.pow_le_pow_right (by decide) hS
    have := or_disj' 1 x S hx (by omega)
    rw [Nat.one_mul] at this
    rw [this]; unfold sgn; rw [if_pos rfl, Nat.add_comm]
  rw [show k + 9 = (k + 8) + 1 by omega, numerallaw17_HexinSame.j0, if_neg (by decide), if_pos rfl, bind_eq hn, bind_eq hn, if_pos rfl, if_pos (by omega), hsz, wrapu_id (n := (S : Int)) (by omega) (by omega), if_pos (by omega), shl1 S (by omega), hor, if_pos rfl, bind_eq hn, bind_eq hn, if_pos rfl, bind_eq (hsure_ok k)]
end Go.Proofs.YtbnmchaldolpfaaDoor.XsB
namespace Go.Proofs.YtbnmchaldolpfaaDoor.Pure
open Go.RowKit Go.Proofs.YtbnmchaldolpfaaDoor.Xs Go.Proofs.YtbnmchaldolpfaaDoor.A Go.Proofs.YtbnmchaldolpfaaDoor.Q Go.Proofs.YtbnmchaldolpfaaDoor.XsB Go.Proofs.YtbnmchaldolpfaaDoorW.PrintWords Go.Proofs.YtbnmchaldolpfaaDoorW.PrintLast
theorem HexinSame : numerallaw17_HexinSame.Pure := by
  intro x0 x1 x2 x3 y size h1 h2 h3 h4
  obtain ⟨hm, hm'⟩ := wf_u64 h1
  obtain ⟨hy, hy'⟩ := wf_u64 h3
  obtain ⟨M, rfl⟩ := Int.eq_ofNat_of_zero_le hm
  obtain ⟨Y, rfl⟩ := Int.eq_ofNat_of_zero_le hy
  refine ⟨17, ?_⟩
  unfold numerallaw17_HexinSame.f
  rw [mx_int, mn_int]
  generalize hc : max (min x2 1099511627776) (-1099511627776) = c
  have hc0 : -1099511627776 ≤ c := by omega
  have hc1 : c ≤ 1099511627776 := by omega
  clear hc
  generalize hq : M / 4 = m
  generalize hr : Y / 4 = d
  rw [show (M : Int) / 4 = (m : Int) by omega, show (Y : Int) / 4 = (d : Int) by omega, wrapu_id (n := 2 * (m : Int)) (by omega) (by omega), wrapu_id (n := (m : Int) + (d : Int)) (by omega) (by omega), show 2 * (m : Int) = ((2 * m : Nat) : Int) by omega, show (m : Int) + (d : Int) = ((m + d : Nat) : Int) by omega]
  have hm63 : 2 * m < 18446744073709551616 := by omega
  have hmd : m + d < 18446744073709551616 := by omega
  rcases size_cases 0 (by decide) size with ⟨z, F, E, S, L, I, rfl, h, hlt⟩ | ⟨_, hbig⟩ | ⟨hn1, hn2⟩
  · obtain ⟨hF0, hF, hS, hFS, hL, hz, hF23⟩ := fmt_small h
    obtain ⟨hI0, hI, hS63⟩ := fmt_I h
    have hj : ∀ (a1 a2 b1 b2 c1 c2 d1 d2 : _) (b : Bool), b = false → (if (z : Int) = 32 then (numerallaw17_HexinSame.j0 17 z a1 a2 b1 b2 c1 c2 d1 d2 false) else (numerallaw17_HexinSame.j0 17 z a1 a2 b1 b2 c1 c2 d1 d2 ((z : Int) != 64))) = numerallaw17_HexinSame.j0 17 z a1 a2 b1 b2 c1 c2 d1 d2 b := by
      intro a1 a2 b1 b2 c1 c2 d1 d2 b hb
      subst hb
      rcases hz with rfl | rfl
      · rw [if_pos (by rfl)]
      · rw [if_neg (by decide)]; rfl
    rcases Nat.eq_zero_or_pos m with h0 | h0
    · subst h0
      have e0 : ((2 * 0 : Nat) : Int) = 0 := rfl
      have e1 : ((0 : Nat) : Int) = 0 := rfl
      have hs0 : sgn S false 0 = 0 := rfl
      have hz0 := Round_nought h false c 9
      have hz1 := Round_nought h false (c - 1) 9
      have hz2 := Round_nought h true c 9
      rw [e0]
      (try rw [e1])
      rw [bind_eq hz0, bind_eq hz1]
      have hthird : ∃ (v : Nat) (er : Option Int), hexin_Round.f 17 false ((0 + d : Nat) : Int) c false z = some ((v : Int), er) := by
        rcases Nat.eq_zero_or_pos d with hd | hd
        · subst hd; exact ⟨_, _, hz0⟩
        · have := Round_ok h false (m := 0 + d) (by omega) hmd c 9
          rw [this]; unfold outr
          by_cases hI2 : I ≤ bitsv F L (0 + d) (max (-5000) (min c 5000))
          · rw [if_pos hI2]; exact ⟨_, _, rfl⟩
          · rw [if_neg hI2]; exact ⟨_, _, rfl⟩
      obtain ⟨v, er, hv⟩ := hthird
      rw [bind_eq hv, bind_eq hz2, hj _ _ _ _ _ _ _ _ false rfl, hs0]
      exact same_end h 8 0 v (Nat.two_pow_pos S) (Nat.zero_le _) 0 none er hnum_none
    · have hA := Round_ok h false h0 (by omega) c 9
      have hD := Round_ok h true h0 (by omega) c 9
      have hB := Round_ok h false (m := 2 * m) (by omega) hm63 (c - 1) 9
      have hC := Round_ok h false (m := m + d) (by omega) hmd c 9
      have hmono := bitsv_mono (F := F) (L := L) h0 (Nat.le_add_right m d) hmd (max (-5000) (min c 5000))
      -- twice the mantissa
      have hBA : outr S I false (bitsv F L (2 * m) (max (-5000) (min (c - 1) 5000))) = outr S I false (bitsv F L m (max (-5000) (min c 5000))) := by
        have hE := fmt_E h
        by_cases hlo : c ≤ -5000
        · rw [show max (-5000) (min c 5000) = -5000 by omega, show max (-5000) (min (c - 1) 5000) = -5000 by omega]
          have l1 := lastOf_ge F L m (-5000)
          have l2 := lastOf_ge F L (2 * m) (-5000)
          rw [bits_low (by omega) h0 (by omega) (by omega), bits_low (by omega) (by omega) hm63 (by omega)]
        · by_cases hhi : 5000 < c
          · rw [show max (-5000) (min c 5000) = 5000 by omega, show max (-5000) (min (c - 1) 5000) = 5000 by omega]
            obtain ⟨b1, _, _⟩ := blen_spec _ m rfl h0 (by omega)
            obtain ⟨b2, _, _⟩ := blen_spec _ (2 * m) rfl (by omega) hm63
            have i1 := bits_high h (most := 2 ^ E - 1 + F + L - 2) (by omega) h0 (by omega : m < 18446744073709551616) (e := 5000) (by rcases hE with ⟨h5, _, h6, h7⟩ | ⟨h5, _, h6, h7⟩ <;> omega)
            have i2 := bits_high h (most := 2 ^ E - 1 + F + L - 2) (by omega) (by omega : 0 < 2 * m) hm63 (e := 5000) (by rcases hE with ⟨h5, _, h6, h7⟩ | ⟨h5, _, h6, h7⟩ <;> omega)
            unfold outr
            rw [if_pos i1, if_pos i2]
          · rw [show max (-5000) (min (c - 1) 5000) = max (-5000) (min c 5000) - 1 by omega, bitsv_double h0 hm63]
      rw [hBA] at hB
      rw [bind_eq hA, bind_eq hB, bind_eq hC, bind_eq hD, hj _ _ _ _ _ _ _ _ false rfl]
      generalize bitsv F L m (max (-5000) (min c 5000)) = b at *
      generalize bitsv F L (m + d) (max (-5000) (min c 5000)) = b' at *
      have hs : ∀ x, sgn S false x = x := fun x => rfl
      unfold outr
      by_cases hIb : I ≤ b
      · rw [if_pos hIb, if_pos hIb, if_pos (by omega : I ≤ b'), hs]
        exact same_end h 8 I I hI (Nat.le_refl _) 4 (some 4) (some 4) (hnum_some 4)
      · rw [if_neg hIb, if_neg hIb, hs]
        by_cases hIb' : I ≤ b'
        · rw [if_pos hIb', hs]
          exact same_end h 8 b I (by omega) (by omega) 0 none (some 4) hnum_none
        · rw [if_neg hIb', hs]
          exact same_end h 8 b b' (by omega) hmono 0 none none hnum_none
  · omega
  · have hb := fun (neg : Bool) (m e : Int) => Round_bad hn1 hn2 neg m e 17
    rw [bind_eq (hb _ _ _), bind_eq (hb _ _ _), bind_eq (hb _ _ _), bind_eq (hb _ _ _), if_neg hn1, bne_iff_ne.mpr hn2]
    rw [numerallaw17_HexinSame.j0, if_pos rfl, bind_eq (hnum_some 5), if_pos rfl, bind_eq (hnum_some 5), if_pos rfl, bind_eq (hnum_some 5), if_pos rfl, bind_eq (hnum_some 5), if_pos rfl, bind_eq (hsure_ok 8)]
end Go.Proofs.YtbnmchaldolpfaaDoor.Pure
