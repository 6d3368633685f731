
/- BitsBack, the pure statement: floats that are taken apart and put together are the same; steps away from 0 and back are; greater steps are greater floats; what was widened is narrowed to itself. -/
import Derived.Test.YtdddkkojgepnmaaDoorXbW
import Derived.Test.YtdddkkojgepnmaaDoorXbS
import Derived.Test.YtdddkkojgepnmaaDoorXbx10
import Derived.Test.YtdddkkojgepnmaaDoorXbx6
import Derived.Test.YtdddkkojgepnmaaDoorXbx7
import Derived.Test.YtdddkkojgepnmaaDoorXbx8
import Derived.Test.YtdddkkojgepnmaaDoorXbx9
namespace Go.Proofs.YtdddkkojgepnmaaDoor.XbB
open Go.RowKit Go.Proofs.YtdddkkojgepnmaaDoor.Xb Go.Proofs.YtdddkkojgepnmaaDoor.A Go.Proofs.YtdddkkojgepnmaaDoorW.PrintWords Go.Proofs.YtdddkkojgepnmaaDoorW.PrintLast
set_option linter.unusedSimpArgs false
set_option linter.unusedVariables false
theorem unp_nan {F S : Nat} {L : Int} {I : Nat} {neg : Bool} {m : Nat} (hm : m < 2 ^ S) (hc : cls I m = 4) : unp F S L I (sgn S neg m) = (false, 4, 0, 0) := by
  obtain ⟨e1, e2, _⟩ := sgn_mod neg hm
  unfold unp
  dsimp only
  rw [e1, e2, hc, if_pos rfl]
theorem val_sgn {S m : Nat} (neg : Bool) (hm : m < 2 ^ S) : val S (sgn S neg m) = if neg then -(m : Int) else (m : Int) := by
  obtain ⟨e1, e2, _⟩ := sgn_mod neg hm
  unfold val
  rw [e1]
  cases neg
  · rw [if_neg (of_decide_eq_false e2)]; rfl
  · rw [if_pos (of_decide_eq_true e2)]; rfl
theorem pack_back {size F E S : Nat} {L : Int} {I : Nat} (h : IsFmt size F E S L I) (neg : Bool) {m : Nat} (hm : m < 2 ^ S) (h4 : cls I m ≠ 4) (k : Nat) :
    bits_Pack.f (k + 2) (unp F S L I (sgn S neg m)).1 (unp F S L I (sgn S neg m)).2.1 (unp F S L I (sgn S neg m)).2.2.1 (unp F S L I (sgn S neg m)).2.2.2 size = some (((sgn S neg m : Nat) : Int), none) ∧ (unp F S L I (sgn S neg m)).1 = neg ∧ (unp F S L I (sgn S neg m)).2.1 = cls I m := by
  rcases cls_cases I m with hc | hc | hc | hc
  · rw [unp_of hm 1 hc (by decide) (by decide), hc]
    obtain rfl := cls_one hc
    refine ⟨?_, rfl, rfl⟩
    rw [Pack_zero h]
    unfold sgn
    cases neg
    · rfl
    · rw [if_pos rfl, if_pos rfl, Nat.zero_add]
  · rw [unp_fine hm hc, hc]
    obtain ⟨n1, n2, n3, n4, n5, n6⟩ := parts_norm h hc
    refine ⟨?_, rfl, rfl⟩
    rw [Pack_norm h n1 n2 n3 n4 n5, n6, signv_nat]
    rfl
  · rw [unp_of hm 3 hc (by decide) (by decide), hc]
    obtain rfl := cls_three hc
    refine ⟨?_, rfl, rfl⟩
    rw [Pack_inf h]
    rfl
  · exact absurd hc h4
/-- The end of the way: a float of 32 bits is widened and narrowed. -/
theorem back_j1 {size F E S : Nat} {L : Int} {I : Nat} (h : IsFmt size F E S L I) (neg : Bool) {m : Nat} (hm : m < 2 ^ S) (h4 : cls I m ≠ 4) (k : Nat) :
    (if (size : Int) = 32 then ((bits_Widen.f (k + 3) (((sgn S neg m : Nat) : Int))).bind fun bt246 => ((bits_Narrow.f (k + 3) bt246.1).bind fun bt248 => (if bt246.2.isNone = true then (if bt248.2.2.isNone = true then (if bt248.2.1 = true then (if bt248.1 = ((sgn S neg m : Nat) : Int) then ((numerallaw11_sure.f (k + 3)).bind fun t253 => (some t253)) else (some false)) else (some false)) else (some false)) else (some false)))) else ((numerallaw11_sure.f (k + 3)).bind fun t254 => (some t254))) = some true := by
  by_cases hs : (size : Int) = 32
  · rw [if_pos hs]
    have hS : S = 31 ∧ I = 2139095040 := by rcases h with ⟨_, _, _, rfl, _, rfl⟩ | ⟨rfl, _⟩ <;> first | exact ⟨rfl, rfl⟩ | omega
    obtain ⟨rfl, rfl⟩ := hS
    obtain ⟨w, hw1, hw2⟩ := widen_narrow neg hm h4 k
    rw [bind_eq hw1, bind_eq hw2, if_pos (by rfl), if_pos (by rfl), if_pos rfl, if_pos rfl, bind_eq (sure_ok _)]
  · rw [if_neg hs, bind_eq (sure_ok _)]
end Go.Proofs.YtdddkkojgepnmaaDoor.XbB
namespace Go.Proofs.YtdddkkojgepnmaaDoor.Pure
open Go.RowKit Go.Proofs.YtdddkkojgepnmaaDoor.Xb Go.Proofs.YtdddkkojgepnmaaDoor.A Go.Proofs.YtdddkkojgepnmaaDoor.XbB Go.Proofs.YtdddkkojgepnmaaDoorW.PrintWords Go.Proofs.YtdddkkojgepnmaaDoorW.PrintLast
theorem BitsBack : numerallaw11_BitsBack.Pure := by
  intro a0 a1 h0 h1
  obtain ⟨ha, ha'⟩ := wf_u64 h0
  obtain ⟨a, rfl⟩ := Int.eq_ofNat_of_zero_le ha
  refine ⟨5, ?_⟩
  unfold numerallaw11_BitsBack.f
  rcases size_cases a (by omega) a1 with ⟨z, F, E, S, L, I, rfl, h, hlt⟩ | ⟨rfl, hbig⟩ | ⟨hn1, hn2⟩
  · rw [bind_eq (Unpack_ok h hlt), if_pos (by rfl)]
    have hself := sgn_self hlt
    have hm : a % 2 ^ S < 2 ^ S := Nat.mod_lt _ (Nat.two_pow_pos S)
    obtain ⟨hI0, hI, hS63⟩ := fmt_I h
    generalize decide (2 ^ S ≤ a) = neg at *
    generalize a % 2 ^ S = m at *
    subst hself
    by_cases h4 : cls I m = 4
    · rw [unp_nan hm h4]
      have hP := Pack_nan h 5 false 0 0
      rw [bind_eq hP, if_pos (by rfl), numerallaw11_BitsBack.j0, if_pos (by rfl), if_pos (by rfl), bind_eq (rnan_ok h), if_pos rfl, bind_eq (sure_ok 4)]
    · obtain ⟨p1, p2, p3⟩ := pack_back h neg hm h4 3
      rw [bind_eq p1, if_pos (by rfl), numerallaw11_BitsBack.j0, if_neg (by rw [p3]; simpa using h4), if_pos rfl]
      have hmod := (sgn_mod neg hm).1
      have hN := Next_ok h hlt
      rw [hmod] at hN
      have hmI : m ≤ I := by
        rcases Nat.lt_or_ge I m with hc | hc
        · exact absurd ((cls4 hI0).2 hc) h4
        · exact hc
      by_cases h3 : cls I m = 3
      · have hN2 : bits_Next.f ((sgn S neg m : Nat) : Int) z = some (0, some 4) := by
          rw [hN]; unfold stepv err0; rw [if_neg h4, if_pos h3]; rfl
        rw [bind_eq hN2, if_neg (by simp), if_pos (by rw [p3]; exact h3)]
        exact back_j1 h neg hm h4 1
      · have hmI2 : m < I := by
          rcases Nat.lt_or_ge m I with hc | hc
          · exact hc
          · exfalso; apply h3
            obtain rfl : m = I := by omega
            unfold cls; rw [if_neg (by omega), if_neg (by omega), if_pos rfl]
        have hm1 : m + 1 < 2 ^ S := by omega
        have h1 := sgn_mod neg hm1
        have hs1 : sgn S neg m + 1 = sgn S neg (m + 1) := by unfold sgn; cases neg <;> simp; omega
        have hw : IntKind.u64.wrap (((sgn S neg m : Nat) : Int) + 1) = ((sgn S neg (m + 1) : Nat) : Int) := by
          have := pow_le64 (show S + 1 ≤ 64 by omega)
          have h2 := h1.2.2
          rw [wrapu_id (by omega) (by omega)]; omega
        have hN2 : bits_Next.f ((sgn S neg m : Nat) : Int) z = some (((sgn S neg (m + 1) : Nat) : Int), none) := by
          rw [hN]; unfold stepv err0; rw [if_neg h4, if_neg h3, hw]; rfl
        have hP2 : bits_Prev.f ((sgn S neg (m + 1) : Nat) : Int) z = some (((sgn S neg m : Nat) : Int), none) := by
          rw [Prev_ok h h1.2.2, h1.1]
          have c4 : cls I (m + 1) ≠ 4 := by intro hc; have := (cls4 hI0).1 hc; omega
          have c1 : cls I (m + 1) ≠ 1 := by intro hc; have := cls_one hc; omega
          have hw2 : IntKind.u64.wrap (((sgn S neg (m + 1) : Nat) : Int) - 1) = ((sgn S neg m : Nat) : Int) := by
            have := pow_le64 (show S + 1 ≤ 64 by omega)
            have h2 := h1.2.2
            rw [wrapu_id (by omega) (by omega)]; omega
          unfold stepv err0
          rw [if_neg c4, if_neg c1, hw2]; rfl
        have hC := Compare_ok h hlt h1.2.2 1
        rw [hmod, h1.1, if_neg (by omega), val_sgn neg hm, val_sgn neg hm1] at hC
        rw [bind_eq hN2, if_pos (by rfl), bind_eq hP2, bind_eq hC, if_pos (by rfl), if_pos (by rfl), if_pos rfl, p2]
        cases neg
        · rw [if_neg (by decide), if_pos (by unfold cmpv; rw [if_pos (by simp; omega)]), numerallaw11_BitsBack.j1]
          exact back_j1 h false hm h4 0
        · rw [if_pos rfl, if_pos (by unfold cmpv; rw [if_neg (by simp; omega), if_pos (by simp; omega)]), numerallaw11_BitsBack.j1]
          exact back_j1 h true hm h4 0
  · rw [bind_eq (Unpack_big hbig), if_neg (by simp), if_pos rfl, if_neg (by omega), bind_eq (sure_ok 5)]
  · rw [bind_eq (Unpack_bad hn1 hn2), if_neg (by simp), if_neg hn1, if_neg hn2, bind_eq (sure_ok 5)]
end Go.Proofs.YtdddkkojgepnmaaDoor.Pure
