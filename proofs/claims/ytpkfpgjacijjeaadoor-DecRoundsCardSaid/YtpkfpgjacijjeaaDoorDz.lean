
/- Rows of digits: noughts ahead and behind, one unit more, two rows compared. Plain. -/
import Derived.Lib.TrimByte
import Derived.Lib.Bytealg
namespace Go.Proofs.YtpkfpgjacijjeaaDoor.Dz
open Go

def zz (n : Nat) : List UInt8 := List.replicate n 48
theorem zz_len (n : Nat) : (zz n).length = n := List.length_replicate
def trimL (l : List UInt8) : List UInt8 := Lib.trimLeftB l 48
def trimR (l : List UInt8) : List UInt8 := Lib.trimRightB l 48
theorem trimL_cons (c : UInt8) (l : List UInt8) : trimL (c :: l) = if c = 48 then trimL l else c :: l := by
  unfold trimL Lib.trimLeftB
  rw [List.dropWhile_cons]
  by_cases h : c = 48
  · rw [if_pos h, if_pos (by simp [h])]
  · rw [if_neg h, if_neg (by simpa using h)]
theorem trimL_nil : trimL [] = [] := rfl
theorem trimR_nil : trimR [] = [] := rfl
theorem lead_split : ∀ s : List UInt8, ∃ a, s = zz a ++ trimL s ∧ (trimL s = [] ∨ (trimL s).getD 0 0 ≠ 48)
  | [] => ⟨0, rfl, Or.inl rfl⟩
  | c :: l => by
    obtain ⟨a, h1, h2⟩ := lead_split l
    rw [trimL_cons]
    by_cases h : c = 48
    · rw [if_pos h]
      refine ⟨a + 1, ?_, h2⟩
      show c :: l = 48 :: (zz a ++ trimL l)
      rw [← h1, h]
    · rw [if_neg h]
      exact ⟨0, rfl, Or.inr h⟩
theorem trimR_rev (l : List UInt8) : trimR l = (trimL l.reverse).reverse := rfl
theorem rev_last (l : List UInt8) : l.reverse.getD (l.reverse.length - 1) 0 = l.getD 0 0 := by
  cases l with
  | nil => rfl
  | cons x t =>
    rw [List.length_reverse, List.reverse_cons, List.getD_eq_getElem?_getD, List.getElem?_append_right (by simp)]
    simp
theorem tail_split (s : List UInt8) : ∃ b, s = trimR s ++ zz b ∧ (trimR s = [] ∨ (trimR s).getD ((trimR s).length - 1) 0 ≠ 48) := by
  obtain ⟨b, h1, h2⟩ := lead_split s.reverse
  refine ⟨b, ?_, ?_⟩
  · have := congrArg List.reverse h1
    rw [List.reverse_reverse, List.reverse_append] at this
    rw [trimR_rev]
    refine this.trans ?_
    congr 1
    exact List.reverse_replicate ..
  · rw [trimR_rev]
    rcases h2 with h2 | h2
    · left; rw [h2]; rfl
    · right; rw [rev_last]; exact h2
theorem trimL_of (a : Nat) {R : List UInt8} (h : R = [] ∨ R.getD 0 0 ≠ 48) : trimL (zz a ++ R) = R := by
  induction a with
  | zero =>
    show trimL R = R
    cases R with
    | nil => rfl
    | cons c l =>
      rcases h with h | h
      · cases h
      · rw [trimL_cons, if_neg (show ¬ c = 48 from h)]
  | succ a ih =>
    show trimL (48 :: (zz a ++ R)) = R
    rw [trimL_cons, if_pos rfl, ih]
theorem trimR_of (b : Nat) {D : List UInt8} (h : D = [] ∨ D.getD (D.length - 1) 0 ≠ 48) : trimR (D ++ zz b) = D := by
  have hr : (zz b).reverse = zz b := List.reverse_replicate ..
  rw [trimR_rev, List.reverse_append, hr, trimL_of, List.reverse_reverse]
  rcases h with h | h
  · left; rw [h]; rfl
  · right
    have := rev_last D.reverse
    rw [List.reverse_reverse] at this
    rw [← this]; exact h
theorem trimR_cons (c : UInt8) (l : List UInt8) : trimR (c :: l) = if trimR l = [] then (if c = 48 then [] else [c]) else c :: trimR l := by
  obtain ⟨b, h1, h2⟩ := tail_split l
  generalize trimR l = D at *
  subst h1
  by_cases hD : D = []
  · subst hD
    rw [if_pos rfl, List.nil_append]
    by_cases hc : c = 48
    · rw [if_pos hc, hc]
      exact trimR_of (b + 1) (Or.inl rfl)
    · rw [if_neg hc]
      exact trimR_of b (D := [c]) (Or.inr hc)
  · rw [if_neg hD, ← List.cons_append]
    refine trimR_of b (Or.inr ?_)
    rcases h2 with h2 | h2
    · exact absurd h2 hD
    · cases D with
      | nil => exact absurd rfl hD
      | cons y t => exact h2
theorem trimR_len (l : List UInt8) : (trimR l).length ≤ l.length := by
  obtain ⟨b, h1, _⟩ := tail_split l
  have := congrArg List.length h1
  rw [List.length_append] at this
  omega
theorem trimL_len (l : List UInt8) : (trimL l).length ≤ l.length := by
  obtain ⟨b, h1, _⟩ := lead_split l
  have := congrArg List.length h1
  rw [List.length_append] at this
  omega
def allz (l : List UInt8) : Bool := l.all fun b => b == 48
theorem allz_iff (l : List UInt8) : allz l = true ↔ trimR l = [] := by
  induction l with
  | nil => exact ⟨fun _ => rfl, fun _ => rfl⟩
  | cons c t ih =>
    rw [trimR_cons]
    show (c == 48 && allz t) = true ↔ _
    rw [Bool.and_eq_true, beq_iff_eq, ih]
    by_cases h : trimR t = []
    · rw [if_pos h]
      by_cases hc : c = 48
      · rw [if_pos hc]; exact ⟨fun _ => rfl, fun _ => ⟨hc, h⟩⟩
      · rw [if_neg hc]; exact ⟨fun hh => absurd hh.1 hc, fun hh => by cases hh⟩
    · rw [if_neg h]; exact ⟨fun hh => absurd hh.2 h, fun hh => by cases hh⟩
theorem allz_iffL (l : List UInt8) : allz l = true ↔ trimL l = [] := by
  induction l with
  | nil => exact ⟨fun _ => rfl, fun _ => rfl⟩
  | cons c t ih =>
    rw [trimL_cons]
    show (c == 48 && allz t) = true ↔ _
    rw [Bool.and_eq_true, beq_iff_eq, ih]
    by_cases hc : c = 48
    · rw [if_pos hc]; exact ⟨fun hh => hh.2, fun hh => ⟨hc, hh⟩⟩
    · rw [if_neg hc]; exact ⟨fun hh => absurd hh.1 hc, fun hh => by cases hh⟩

/-! One unit more -/
def rbump : List UInt8 → Option (List UInt8)
  | [] => none
  | c :: r => if c = 57 then rbump r else some ((c + 1) :: r)
/-- One unit of the last place more, without the noughts that come of it; none: there is a place more. -/
def bumpS (K : List UInt8) : Option (List UInt8) := (rbump K.reverse).map List.reverse
theorem bumpS_nil : bumpS [] = none := rfl
theorem bumpS_snoc (K : List UInt8) (c : UInt8) : bumpS (K ++ [c]) = if c = 57 then bumpS K else some (K ++ [c + 1]) := by
  unfold bumpS
  rw [List.reverse_append]
  show (rbump (c :: K.reverse)).map _ = _
  rw [rbump]
  by_cases h : c = 57
  · rw [if_pos h, if_pos h]
  · rw [if_neg h, if_neg h, Option.map_some, List.reverse_cons, List.reverse_reverse]

/-! Two rows compared, noughts behind them being nothing -/
def cmpP : List UInt8 → List UInt8 → Int
  | [], [] => 0
  | a :: as, [] => if a < 48 then -1 else if 48 < a then 1 else cmpP as []
  | [], b :: bs => if 48 < b then -1 else if b < 48 then 1 else cmpP [] bs
  | a :: as, b :: bs => if a < b then -1 else if b < a then 1 else cmpP as bs
def dg1 (l : List UInt8) : Bool := l.all fun b => decide (48 ≤ b.toNat) && decide (b.toNat ≤ 57)
theorem dg1_cons (c : UInt8) (l : List UInt8) : dg1 (c :: l) = true ↔ (48 ≤ c.toNat ∧ c.toNat ≤ 57) ∧ dg1 l = true := by
  show (decide (48 ≤ c.toNat) && decide (c.toNat ≤ 57) && dg1 l) = true ↔ _
  simp only [Bool.and_eq_true, decide_eq_true_eq]
theorem lt48 (c : UInt8) (h : 48 ≤ c.toNat) : ¬ c < 48 := by
  rw [UInt8.lt_iff_toNat_lt]; show ¬ c.toNat < 48; omega
theorem gt48 (c : UInt8) (h : 48 ≤ c.toNat) : 48 < c ↔ c ≠ 48 := by
  rw [UInt8.lt_iff_toNat_lt]
  show 48 < c.toNat ↔ _
  constructor
  · intro h1 h2; rw [h2] at h1; exact absurd h1 (by decide)
  · intro h1
    apply Nat.lt_of_le_of_ne h
    intro h2
    exact h1 (UInt8.toNat_inj.1 h2.symm)
theorem cmp_trim : ∀ a b : List UInt8, dg1 a = true → dg1 b = true → Lib.compareBytes (trimR a) (trimR b) = cmpP a b
  | [], [], _, _ => by rw [trimR_nil, cmpP]; rfl
  | x :: a, [], ha, hb => by
    rw [dg1_cons] at ha
    have ih := cmp_trim a [] ha.2 hb
    rw [trimR_nil] at ih ⊢
    rw [cmpP, if_neg (lt48 x ha.1.1), trimR_cons]
    by_cases h : trimR a = []
    · rw [if_pos h]
      rw [h] at ih
      by_cases hx : x = 48
      · rw [if_pos hx, if_neg (by rw [gt48 x ha.1.1]; exact fun h => h hx), ← ih]
      · rw [if_neg hx, if_pos ((gt48 x ha.1.1).2 hx)]; rfl
    · rw [if_neg h]
      by_cases hx : x = 48
      · rw [if_neg (by rw [gt48 x ha.1.1]; exact fun h => h hx), ← ih]
        obtain ⟨y, t, hy⟩ := List.exists_cons_of_ne_nil h
        rw [hy]; rfl
      · rw [if_pos ((gt48 x ha.1.1).2 hx)]; rfl
  | [], x :: b, ha, hb => by
    rw [dg1_cons] at hb
    have ih := cmp_trim [] b ha hb.2
    rw [trimR_nil] at ih ⊢
    rw [cmpP, trimR_cons]
    by_cases h : trimR b = []
    · rw [if_pos h]
      rw [h] at ih
      by_cases hx : x = 48
      · rw [if_pos hx, if_neg (by rw [gt48 x hb.1.1]; exact fun h => h hx), if_neg (lt48 x hb.1.1), ← ih]
      · rw [if_neg hx, if_pos ((gt48 x hb.1.1).2 hx)]; rfl
    · rw [if_neg h]
      by_cases hx : x = 48
      · rw [if_neg (by rw [gt48 x hb.1.1]; exact fun h => h hx), if_neg (lt48 x hb.1.1), ← ih]
        obtain ⟨y, t, hy⟩ := List.exists_cons_of_ne_nil h
        rw [hy]; rfl
      · rw [if_pos ((gt48 x hb.1.1).2 hx)]; rfl
  | x :: a, y :: b, ha, hb => by
    rw [dg1_cons] at ha hb
    have ih := cmp_trim a b ha.2 hb.2
    rw [cmpP, trimR_cons, trimR_cons]
    by_cases h1 : trimR a = []
    · rw [if_pos h1]
      rw [h1] at ih
      by_cases h2 : trimR b = []
      · rw [if_pos h2]
        rw [h2] at ih
        by_cases hx : x = 48
        · rw [if_pos hx]
          by_cases hy : y = 48
          · rw [if_pos hy, hx, hy, if_neg (by decide), if_neg (by decide), ← ih]
          · rw [if_neg hy, hx, if_pos ((gt48 y hb.1.1).2 hy)]; rfl
        · rw [if_neg hx]
          by_cases hy : y = 48
          · rw [if_pos hy, hy, if_neg (lt48 x ha.1.1), if_pos ((gt48 x ha.1.1).2 hx)]; rfl
          · rw [if_neg hy, ← ih]; rfl
      · rw [if_neg h2]
        obtain ⟨z, t, hz⟩ := List.exists_cons_of_ne_nil h2
        rw [hz] at ih ⊢
        by_cases hx : x = 48
        · rw [if_pos hx, hx]
          by_cases hy : y = 48
          · rw [hy, if_neg (by decide), if_neg (by decide), ← ih]; rfl
          · rw [if_pos ((gt48 y hb.1.1).2 hy)]; rfl
        · rw [if_neg hx, ← ih]; rfl
    · rw [if_neg h1]
      obtain ⟨z, t, hz⟩ := List.exists_cons_of_ne_nil h1
      rw [hz] at ih ⊢
      by_cases h2 : trimR b = []
      · rw [if_pos h2]
        rw [h2] at ih
        by_cases hy : y = 48
        · rw [if_pos hy, hy, if_neg (lt48 x ha.1.1)]
          by_cases hx : x = 48
          · rw [hx, if_neg (by decide), ← ih]; rfl
          · rw [if_pos ((gt48 x ha.1.1).2 hx)]; rfl
        · rw [if_neg hy, ← ih]; rfl
      · rw [if_neg h2, ← ih]; rfl
end Go.Proofs.YtpkfpgjacijjeaaDoor.Dz
