
/- BitsSteps, the pure statement: the next float and the one before of all bits, and the order of every two, or the errors, are the reference's. -/
import Derived.Test.YtdddkkojgepnmaaDoorXtC
import Derived.Test.YtdddkkojgepnmaaDoorXtx2
import Derived.Test.YtdddkkojgepnmaaDoorXtx7
import Derived.Test.YtdddkkojgepnmaaDoorXtx8
import Derived.Test.YtdddkkojgepnmaaDoorXtx9
namespace Go.Proofs.YtdddkkojgepnmaaDoor.XtB
open Go.RowKit Go.Proofs.YtdddkkojgepnmaaDoor.Xt Go.Proofs.YtdddkkojgepnmaaDoor.A Go.Proofs.YtdddkkojgepnmaaDoorW.PrintWords Go.Proofs.YtdddkkojgepnmaaDoorW.PrintLast
theorem and_sign0 {S a : Nat} (hS : S + 1 ≤ 64) (ha : a < 2 ^ (S + 1)) : (Go.bits .and .u64 (a : Int) ((2 ^ S : Nat) : Int) = 0) ↔ ¬ 2 ^ S ≤ a := by
  have h := and_sign hS ha
  by_cases hc : 2 ^ S ≤ a
  · rw [decide_eq_true hc, bne_iff_ne] at h
    exact ⟨fun h2 => absurd h2 h, fun h2 => absurd hc h2⟩
  · rw [decide_eq_false hc, bne_eq_false_iff_eq] at h
    exact ⟨fun _ => hc, fun _ => h⟩
def cmpv (p q : Int) : Int := if p < q then -1 else if p > q then 1 else 0
def val (S a : Nat) : Int := if 2 ^ S ≤ a then -((a % 2 ^ S : Nat) : Int) else ((a % 2 ^ S : Nat) : Int)
theorem cls4 {I m : Nat} (hI : 0 < I) : cls I m = 4 ↔ I < m := by
  unfold cls
  by_cases h1 : m = 0
  · rw [if_pos h1]; constructor
    · intro h; exact absurd h (by decide)
    · intro h; omega
  · rw [if_neg h1]
    by_cases h2 : m < I
    · rw [if_pos h2]; constructor
      · intro h; exact absurd h (by decide)
      · intro h; omega
    · rw [if_neg h2]
      by_cases h3 : m = I
      · rw [if_pos h3]; constructor
        · intro h; exact absurd h (by decide)
        · intro h; omega
      · rw [if_neg h3]; constructor
        · intro _; omega
        · intro _; rfl
theorem fmt_I {size F E S : Nat} {L : Int} {I : Nat} (h : IsFmt size F E S L I) : 0 < I ∧ I < 2 ^ S ∧ S ≤ 63 := by
  rcases h with ⟨rfl, rfl, rfl, rfl, rfl, rfl⟩ | ⟨rfl, rfl, rfl, rfl, rfl, rfl⟩ <;> simp
theorem j2_ok (k : Nat) (p q : Int) : bits_Compare.j2 (k + 1) p q = some (cmpv p q, none) := by
  rw [bits_Compare.j2]
  unfold cmpv
  by_cases h1 : p < q
  · rw [if_pos h1, if_pos h1]
  · rw [if_neg h1, if_neg h1]
    by_cases h2 : p > q
    · rw [if_pos h2, if_pos h2]
    · rw [if_neg h2, if_neg h2]
theorem mod_eq_iff {S a : Nat} (ha : a < 2 ^ (S + 1)) : ((a : Int) = ((a % 2 ^ S : Nat) : Int)) ↔ ¬ 2 ^ S ≤ a := by
  have h2 : 0 < 2 ^ S := Nat.two_pow_pos S
  have h3 : a % 2 ^ S < 2 ^ S := Nat.mod_lt _ h2
  constructor
  · intro h hc; omega
  · intro h; rw [Nat.mod_eq_of_lt (by omega)]
theorem mag_lt {S a : Nat} (hS : S ≤ 63) : a % 2 ^ S < 9223372036854775808 := by
  have h2 : 0 < 2 ^ S := Nat.two_pow_pos S
  have h3 : a % 2 ^ S < 2 ^ S := Nat.mod_lt _ h2
  have h4 : 2 ^ S ≤ 2 ^ 63 := Nat.pow_le_pow_right (by decide) hS
  omega
theorem Compare_ok {size F E S : Nat} {L : Int} {I : Nat} (h : IsFmt size F E S L I) {a b : Nat} (ha : a < 2 ^ (S + 1)) (hb : b < 2 ^ (S + 1)) (k : Nat) :
    bits_Compare.f (k + 3) a b size = some (if I < a % 2 ^ S ∨ I < b % 2 ^ S then 2 else cmpv (val S a) (val S b), none) := by
  obtain ⟨hI0, hI, hS⟩ := fmt_I h
  have ma := mag_lt (S := S) (a := a) hS
  have mb := mag_lt (S := S) (a := b) hS
  unfold bits_Compare.f
  rw [bind_eq (checked_ok h ha), if_pos (by rfl), bind_eq (checked_ok h hb), if_pos (by rfl), bind_eq (sign_ok h), bind_eq (sign_ok h), bind_eq (inf_ok h), mag_ok h ha, mag_ok h hb]
  by_cases h1 : I < a % 2 ^ S
  · rw [if_pos (by omega), if_pos (.inl h1)]
    rw [bits_Compare.j0]
    rw [if_pos rfl]
  · rw [if_neg (by omega), bind_eq (inf_ok h)]
    by_cases h2 : I < b % 2 ^ S
    · rw [if_pos (.inr h2), decide_eq_true (by omega)]
      rw [bits_Compare.j0]
      rw [if_pos rfl]
    · rw [if_neg (by omega), decide_eq_false (by omega)]
      rw [bits_Compare.j0, if_neg (by decide), bits_Compare.j1, bits_Compare.j1, wrapi_id (n := ((a % 2 ^ S : Nat) : Int)) (by omega) (by omega), wrapi_id (n := ((b % 2 ^ S : Nat) : Int)) (by omega) (by omega), wrapi_id (n := -((a % 2 ^ S : Nat) : Int)) (by omega) (by omega), wrapi_id (n := -((b % 2 ^ S : Nat) : Int)) (by omega) (by omega)]
      unfold val
      by_cases h3 : 2 ^ S ≤ a
      · rw [if_neg (by rw [mod_eq_iff ha]; simp [h3]), if_pos h3]
        by_cases h4 : 2 ^ S ≤ b
        · rw [if_neg (by rw [mod_eq_iff hb]; simp [h4]), if_pos h4, j2_ok]
        · rw [if_pos ((mod_eq_iff hb).2 h4), if_neg h4, j2_ok]
      · rw [if_pos ((mod_eq_iff ha).2 h3), if_neg h3]
        by_cases h4 : 2 ^ S ≤ b
        · rw [if_neg (by rw [mod_eq_iff hb]; simp [h4]), if_pos h4, j2_ok]
        · rw [if_pos ((mod_eq_iff hb).2 h4), if_neg h4, j2_ok]
theorem rj3_ok (k : Nat) (p q : Int) : numeralref11_Compare.j3 (k + 1) p q = some (cmpv p q, 0) := by
  rw [numeralref11_Compare.j3]
  unfold cmpv
  by_cases h1 : p < q
  · rw [if_pos h1, if_pos h1]
  · rw [if_neg h1, if_neg h1]
    by_cases h2 : p > q
    · rw [if_pos h2, if_pos h2]
    · rw [if_neg h2, if_neg h2]
theorem rCompare_ok {size F E S : Nat} {L : Int} {I : Nat} (h : IsFmt size F E S L I) {a b : Nat} (ha : a < 2 ^ (S + 1)) (hb : b < 2 ^ (S + 1)) (k : Nat) :
    numeralref11_Compare.f (k + 4) a b size = some (if I < a % 2 ^ S ∨ I < b % 2 ^ S then 2 else cmpv (val S a) (val S b), 0) := by
  obtain ⟨hI0, hI, hS⟩ := fmt_I h
  have ma := mag_lt (S := S) (a := a) hS
  have mb := mag_lt (S := S) (a := b) hS
  unfold numeralref11_Compare.f
  rw [bind_eq (rcheck_ok h ha), bind_eq (rcheck_ok h hb), if_pos rfl]
  rw [numeralref11_Compare.j0]
  rw [if_neg (by decide), bind_eq (rof_ok h ha)]
  by_cases h1 : I < a % 2 ^ S
  · rw [if_pos ((cls4 hI0).2 h1), if_pos (.inl h1)]
    rw [numeralref11_Compare.j1]
    rw [if_pos rfl]
  · rw [if_neg (by rw [cls4 hI0]; exact h1), bind_eq (rof_ok h hb)]
    by_cases h2 : I < b % 2 ^ S
    · rw [if_pos (.inr h2), (cls4 hI0).2 h2]
      rw [numeralref11_Compare.j1]
      rw [if_pos (by decide)]
    · rw [if_neg (by omega), beq_eq_false_iff_ne.2 (show cls I (b % 2 ^ S) ≠ 4 by intro hc; exact h2 ((cls4 hI0).1 hc))]
      rw [numeralref11_Compare.j1, if_neg (by decide), bind_eq (rmag_ok h ha), bind_eq (rmag_ok h hb), bind_eq (rsign_ok h), numeralref11_Compare.j2, numeralref11_Compare.j2, bind_eq (rsign_ok h), bind_eq (rsign_ok h), wrapi_id (n := ((a % 2 ^ S : Nat) : Int)) (by omega) (by omega), wrapi_id (n := ((b % 2 ^ S : Nat) : Int)) (by omega) (by omega), wrapi_id (n := -((a % 2 ^ S : Nat) : Int)) (by omega) (by omega), wrapi_id (n := -((b % 2 ^ S : Nat) : Int)) (by omega) (by omega)]
      unfold val
      by_cases h3 : 2 ^ S ≤ a
      · rw [if_neg (by rw [and_sign0 (by omega) ha]; simp [h3]), if_pos h3]
        by_cases h4 : 2 ^ S ≤ b
        · rw [if_neg (by rw [and_sign0 (by omega) hb]; simp [h4]), if_pos h4, rj3_ok]
        · rw [if_pos ((and_sign0 (by omega) hb).2 h4), if_neg h4, rj3_ok]
      · rw [if_pos ((and_sign0 (by omega) ha).2 h3), if_neg h3]
        by_cases h4 : 2 ^ S ≤ b
        · rw [if_neg (by rw [and_sign0 (by omega) hb]; simp [h4]), if_pos h4, rj3_ok]
        · rw [if_pos ((and_sign0 (by omega) hb).2 h4), if_neg h4, rj3_ok]
/-- The next float and the one before: the answer, and the error's number (0: none). -/
def stepv (I m : Nat) (e : Int) (x : Int) (c : Int) : Int × Int := if cls I m = 4 then (0, 1) else if cls I m = c then (0, e) else (x, 0)
def err0 (c : Int) : Option Int := if c = 0 then none else some c
theorem Next_ok {size F E S : Nat} {L : Int} {I : Nat} (h : IsFmt size F E S L I) {a : Nat} (ha : a < 2 ^ (S + 1)) :
    bits_Next.f a size = some ((stepv I (a % 2 ^ S) 4 (IntKind.u64.wrap (a + 1)) 3).1, err0 (stepv I (a % 2 ^ S) 4 (IntKind.u64.wrap (a + 1)) 3).2) := by
  unfold bits_Next.f stepv
  rw [bind_eq (Class_ok h ha), if_pos (by rfl)]
  dsimp only
  by_cases h4 : cls I (a % 2 ^ S) = 4
  · rw [if_pos h4, if_pos h4]; rfl
  · rw [if_neg h4, if_neg h4]
    by_cases h3 : cls I (a % 2 ^ S) = 3
    · rw [if_pos h3, if_pos h3]; rfl
    · rw [if_neg h3, if_neg h3]; rfl
theorem Prev_ok {size F E S : Nat} {L : Int} {I : Nat} (h : IsFmt size F E S L I) {a : Nat} (ha : a < 2 ^ (S + 1)) :
    bits_Prev.f a size = some ((stepv I (a % 2 ^ S) 4 (IntKind.u64.wrap (a - 1)) 1).1, err0 (stepv I (a % 2 ^ S) 4 (IntKind.u64.wrap (a - 1)) 1).2) := by
  unfold bits_Prev.f stepv
  rw [bind_eq (Class_ok h ha), if_pos (by rfl)]
  dsimp only
  by_cases h4 : cls I (a % 2 ^ S) = 4
  · rw [if_pos h4, if_pos h4]; rfl
  · rw [if_neg h4, if_neg h4]
    by_cases h3 : cls I (a % 2 ^ S) = 1
    · rw [if_pos h3, if_pos h3]; rfl
    · rw [if_neg h3, if_neg h3]; rfl
theorem rNext_ok {size F E S : Nat} {L : Int} {I : Nat} (h : IsFmt size F E S L I) {a : Nat} (ha : a < 2 ^ (S + 1)) :
    numeralref11_Next.f a size = some (stepv I (a % 2 ^ S) 4 (IntKind.u64.wrap (a + 1)) 3) := by
  unfold numeralref11_Next.f stepv
  rw [bind_eq (rcheck_ok h ha), if_pos rfl, bind_eq (rof_ok h ha)]
  by_cases h4 : cls I (a % 2 ^ S) = 4
  · rw [if_pos h4, if_pos h4]
  · rw [if_neg h4, if_neg h4, bind_eq (rof_ok h ha)]
    by_cases h3 : cls I (a % 2 ^ S) = 3
    · rw [if_pos h3, if_pos h3]
    · rw [if_neg h3, if_neg h3]
theorem rPrev_ok {size F E S : Nat} {L : Int} {I : Nat} (h : IsFmt size F E S L I) {a : Nat} (ha : a < 2 ^ (S + 1)) :
    numeralref11_Prev.f a size = some (stepv I (a % 2 ^ S) 4 (IntKind.u64.wrap (a - 1)) 1) := by
  unfold numeralref11_Prev.f stepv
  rw [bind_eq (rcheck_ok h ha), if_pos rfl, bind_eq (rof_ok h ha)]
  by_cases h4 : cls I (a % 2 ^ S) = 4
  · rw [if_pos h4, if_pos h4]
  · rw [if_neg h4, if_neg h4, bind_eq (rof_ok h ha)]
    by_cases h3 : cls I (a % 2 ^ S) = 1
    · rw [if_pos h3, if_pos h3]
    · rw [if_neg h3, if_neg h3]
theorem num_err0 (c : Int) : numerallaw11_num.f (err0 c) = some c := by
  unfold err0
  by_cases h : c = 0
  · rw [if_pos h, h]; rfl
  · rw [if_neg h]; rfl
end Go.Proofs.YtdddkkojgepnmaaDoor.XtB
namespace Go.Proofs.YtdddkkojgepnmaaDoor.Pure
open Go.RowKit Go.Proofs.YtdddkkojgepnmaaDoor.Xt Go.Proofs.YtdddkkojgepnmaaDoor.A Go.Proofs.YtdddkkojgepnmaaDoor.XtB Go.Proofs.YtdddkkojgepnmaaDoorW.PrintWords Go.Proofs.YtdddkkojgepnmaaDoorW.PrintLast
theorem BitsSteps : numerallaw11_BitsSteps.Pure := by
  intro a0 a1 a2 h0 h1 h2
  obtain ⟨ha, ha'⟩ := wf_u64 h0
  obtain ⟨hb, hb'⟩ := wf_u64 h1
  obtain ⟨a, rfl⟩ := Int.eq_ofNat_of_zero_le ha
  obtain ⟨b, rfl⟩ := Int.eq_ofNat_of_zero_le hb
  refine ⟨4, ?_⟩
  unfold numerallaw11_BitsSteps.f
  rcases size_cases a (by omega) a2 with ⟨z, F, E, S, L, I, rfl, h, hlt⟩ | ⟨rfl, hbig⟩ | ⟨hn1, hn2⟩
  · rw [bind_eq (Next_ok h hlt), bind_eq (rNext_ok h hlt), bind_eq (Prev_ok h hlt), bind_eq (rPrev_ok h hlt)]
    rcases size_cases b (by omega) z with ⟨z', F', E', S', L', I', hz, h', hlt'⟩ | ⟨hz, hbig⟩ | ⟨hn1, hn2⟩
    · have hSS : S' = S := by
        obtain rfl : z = z' := by omega
        rcases h with ⟨h1, _, _, h2, _⟩ | ⟨h1, _, _, h2, _⟩ <;> rcases h' with ⟨h3, _, _, h4, _⟩ | ⟨h3, _, _, h4, _⟩ <;> omega
      subst hSS
      rw [bind_eq (Compare_ok h hlt hlt' 1), bind_eq (rCompare_ok h hlt hlt' 0), if_pos rfl, bind_eq (num_err0 _), if_pos rfl, if_pos rfl, bind_eq (num_err0 _), if_pos rfl, if_pos rfl, bind_eq num_none, if_pos rfl, bind_eq (sure_ok 4)]
    · obtain rfl : z = 32 := by omega
      have c1 : bits_checked.f b ((32 : Nat) : Int) = some (23, 8, some 1) := checked_big hbig
      have c2 : numeralref11_Check.f b ((32 : Nat) : Int) = some 1 := rcheck_big hbig
      have e1 : bits_Compare.f 4 a b (32 : Nat) = some (0, some 1) := by
        unfold bits_Compare.f
        rw [bind_eq (checked_ok h hlt), if_pos (by rfl), bind_eq c1, if_neg (by simp)]
        rfl
      have e2 : numeralref11_Compare.f 4 a b (32 : Nat) = some (0, 1) := by
        unfold numeralref11_Compare.f
        rw [bind_eq (rcheck_ok h hlt), bind_eq c2, if_pos rfl]
        rw [numeralref11_Compare.j0]
        rw [if_pos (by decide)]
        decide +kernel
      rw [bind_eq e1, bind_eq e2, if_pos rfl, bind_eq (num_err0 _), if_pos rfl, if_pos rfl, bind_eq (num_err0 _), if_pos rfl, if_pos rfl, bind_eq (num_some 1), if_pos rfl, bind_eq (sure_ok 4)]
    · exact absurd (fmt_small h).2.2.2.2.2.1 (by omega)
  · have n1 : bits_Next.f a 32 = some (0, some 1) := by unfold bits_Next.f; rw [bind_eq (Class_big hbig), if_neg (by simp)]; rfl
    have n2 : bits_Prev.f a 32 = some (0, some 1) := by unfold bits_Prev.f; rw [bind_eq (Class_big hbig), if_neg (by simp)]; rfl
    have n3 : numeralref11_Next.f a 32 = some (0, 1) := by unfold numeralref11_Next.f; rw [bind_eq (rcheck_big hbig), if_neg (by decide)]
    have n4 : numeralref11_Prev.f a 32 = some (0, 1) := by unfold numeralref11_Prev.f; rw [bind_eq (rcheck_big hbig), if_neg (by decide)]
    have e1 : bits_Compare.f 4 a b 32 = some (0, some 1) := by
      unfold bits_Compare.f
      rw [bind_eq (checked_big hbig), if_neg (by simp)]
      rfl
    have e2 : numeralref11_Compare.f 4 a b 32 = some (0, 1) := by
      unfold numeralref11_Compare.f
      rcases size_cases b (by omega) 32 with ⟨z', F', E', S', L', I', hz, h', hlt'⟩ | ⟨_, hbig'⟩ | ⟨hn1, hn2⟩
      · have hc : numeralref11_Check.f b 32 = some 0 := by rw [hz]; exact rcheck_ok h' hlt'
        rw [bind_eq (rcheck_big hbig), bind_eq hc, if_neg (by decide)]
        rw [numeralref11_Compare.j0]
        rw [if_pos rfl]
        decide +kernel
      · rw [bind_eq (rcheck_big hbig), bind_eq (rcheck_big hbig'), if_neg (by decide)]
        rw [numeralref11_Compare.j0]
        rw [if_pos rfl]
        decide +kernel
      · exact absurd rfl hn1
    rw [bind_eq n1, bind_eq n3, bind_eq n2, bind_eq n4, bind_eq e1, bind_eq e2, if_pos rfl, bind_eq (num_some 1), if_pos rfl, if_pos rfl, bind_eq (num_some 1), if_pos rfl, if_pos rfl, bind_eq (num_some 1), if_pos rfl, bind_eq (sure_ok 4)]
  · have n1 : bits_Next.f a a2 = some (0, some 5) := by unfold bits_Next.f; rw [bind_eq (Class_bad hn1 hn2), if_neg (by simp)]; rfl
    have n2 : bits_Prev.f a a2 = some (0, some 5) := by unfold bits_Prev.f; rw [bind_eq (Class_bad hn1 hn2), if_neg (by simp)]; rfl
    have n3 : numeralref11_Next.f a a2 = some (0, 5) := by unfold numeralref11_Next.f; rw [bind_eq (rcheck_bad hn1 hn2), if_neg (by decide)]
    have n4 : numeralref11_Prev.f a a2 = some (0, 5) := by unfold numeralref11_Prev.f; rw [bind_eq (rcheck_bad hn1 hn2), if_neg (by decide)]
    have e1 : bits_Compare.f 4 a b a2 = some (0, some 5) := by
      unfold bits_Compare.f
      rw [bind_eq (checked_bad hn1 hn2), if_neg (by simp)]
      rfl
    have e2 : numeralref11_Compare.f 4 a b a2 = some (0, 5) := by
      unfold numeralref11_Compare.f
      rw [bind_eq (rcheck_bad hn1 hn2), bind_eq (rcheck_bad hn1 hn2), if_neg (by decide)]
      rw [numeralref11_Compare.j0]
      rw [if_pos rfl]
      decide +kernel
    rw [bind_eq n1, bind_eq n3, bind_eq n2, bind_eq n4, bind_eq e1, bind_eq e2, if_pos rfl, bind_eq (num_some 5), if_pos rfl, if_pos rfl, bind_eq (num_some 5), if_pos rfl, if_pos rfl, bind_eq (num_some 5), if_pos rfl, bind_eq (sure_ok 4)]
end Go.Proofs.YtdddkkojgepnmaaDoor.Pure
