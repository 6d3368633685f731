
/- Every two numbers are compared as the reference compares them, or the error. -/
import Derived.Test.YtpkfpgjacijjeaaDoorXcDc
import Derived.Test.YtpkfpgjacijjeaaDoorXcx11
import Derived.Test.YtpkfpgjacijjeaaDoorXcx12
import Derived.Test.YtpkfpgjacijjeaaDoorXcx6
import Derived.Test.YtpkfpgjacijjeaaDoorXcx7
namespace Go.Proofs.YtpkfpgjacijjeaaDoor.Pure
open Go.RowKit Go.Proofs.YtpkfpgjacijjeaaDoor.Xc Go.Proofs.YtpkfpgjacijjeaaDoorW.PrintWords Go.Proofs.YtpkfpgjacijjeaaDoorW.PrintLast Go.Proofs.YtpkfpgjacijjeaaDoorW.PrintMore Go.Proofs.YtpkfpgjacijjeaaDoor.XcLy Go.Proofs.YtpkfpgjacijjeaaDoor.XcDc Go.Proofs.YtpkfpgjacijjeaaDoor.Dz
set_option linter.unusedVariables false

/-- What both answer of two numbers that may be. -/
def cmpS (D : List UInt8) (p : Int) (c : Bool) (E : List UInt8) (q : Int) (f : Bool) : Int :=
  if c = false ∧ f = false then lowerS D p E q
  else if c = true ∧ lowerS (upS D p).1 (upS D p).2 E q ≤ 0 then -1
  else if c = false ∧ lowerS D p E q ≤ 0 then -1
  else if f = true ∧ lowerS (upS E q).1 (upS E q).2 D p ≤ 0 then 1
  else if f = false ∧ lowerS E q D p ≤ 0 then 1 else 2
theorem up_facts {D : List UInt8} {p : Int} (h : validS D p true = true) : good (upS D p).1 ∧ (upS D p).1.length ≤ 801 ∧ -1099511627777 ≤ (upS D p).2 ∧ (upS D p).2 ≤ 1099511627777 ∧ lowerS (upS D p).1 (upS D p).2 D p = 1 := by
  obtain ⟨hg, h8, hp0, hp1⟩ := validS_good h
  have hne : D ++ [] ≠ [] := by
    intro hh
    have hD : D = [] := by simpa using hh
    unfold validS at h
    rw [if_pos hD] at h
    simp at h
  obtain ⟨i1, i2, i3, i4, i5⟩ := upS_more D.length D [] p rfl hg hne
  rw [List.append_nil] at i5
  exact ⟨i1, by omega, by omega, by omega, i5⟩
theorem Compare_eq {D E : List UInt8} {p q : Int} {c f : Bool} (hD : validS D p c = true) (hE : validS E q f = true) {k : Nat} (hk : 4000 ≤ k) :
    dec_Compare.j0 k false (mk D) p c (mk E) q f = some (cmpS D p c E q f, none) := by
  obtain ⟨k, rfl⟩ : ∃ j, k = j + 8 := ⟨k - 8, by omega⟩
  obtain ⟨gD, hD8, hp0, hp1⟩ := validS_good hD
  obtain ⟨gE, hE8, hq0, hq1⟩ := validS_good hE
  have pAB : ∀ k', 1 ≤ k' → dec_plain.f k' (mk D) p c (mk E) q f = some (plainV D p E q) := fun k' hk' => plain3_eq (by omega) (by omega) (by omega) (by omega) (by omega) (by omega) c f hk'
  have pBA : ∀ k', 1 ≤ k' → dec_plain.f k' (mk E) q f (mk D) p c = some (plainV E q D p) := fun k' hk' => plain3_eq (by omega) (by omega) (by omega) (by omega) (by omega) (by omega) f c hk'
  have lAB := plain_lower gD gE p q
  have lBA := plain_lower gE gD q p
  -- the last steps
  have j6 : ∀ b : Bool, b = decide (f = true ∧ lowerS (upS E q).1 (upS E q).2 D p ≤ 0) → dec_Compare.j6 (k + 2) b (mk D) p c (mk E) q f = some (if f = true ∧ lowerS (upS E q).1 (upS E q).2 D p ≤ 0 then 1 else if f = false ∧ lowerS E q D p ≤ 0 then 1 else 2, none) := fun b hb => by
    rw [dec_Compare.j6]
    by_cases h1 : f = true ∧ lowerS (upS E q).1 (upS E q).2 D p ≤ 0
    · rw [decide_eq_true h1] at hb
      rw [if_pos hb, if_pos h1]
    · rw [decide_eq_false h1] at hb
      rw [if_neg (by rw [hb]; decide), if_neg h1]
      cases f with
      | true => rw [if_pos rfl, if_neg (by simp)]
      | false =>
        rw [if_neg (by decide), pBA _ (by omega), Option.bind_some]
        by_cases h2 : plainV E q D p ≤ 0
        · rw [if_pos h2, if_pos ⟨rfl, lBA.1.1 h2⟩]
        · rw [if_neg h2, if_neg (fun h => h2 (lBA.1.2 h.2))]
  have j5 : ∀ (X : List UInt8) (xp : Int) (xc : Bool) (b : Bool), (f = true → (X, xp) = upS E q) → dec_Compare.j5 (k + 3) b (mk D) p c (mk E) q f (mk X) xp xc = some (if b = true then -1 else if f = true ∧ lowerS (upS E q).1 (upS E q).2 D p ≤ 0 then 1 else if f = false ∧ lowerS E q D p ≤ 0 then 1 else 2, none) := fun X xp xc b hX => by
    rw [dec_Compare.j5]
    cases b with
    | true => rw [if_pos rfl, if_pos rfl]
    | false =>
      rw [if_neg (show ¬ false = true by decide), if_neg (show ¬ false = true by decide)]
      cases hf : f with
      | true =>
        subst hf
        obtain ⟨u1, u2, u3, u4, _⟩ := up_facts hE
        have hx := hX rfl
        have hx1 : X = (upS E q).1 := congrArg Prod.fst hx
        have hx2 : xp = (upS E q).2 := congrArg Prod.snd hx
        rw [if_pos rfl, hx1, hx2, plain3_eq (by omega) (by omega) (by omega) (by omega) (by omega) (by omega) _ _ (by omega), Option.bind_some]
        have hl := plain_lower u1 gD (upS E q).2 p
        refine j6 _ ?_
        by_cases h : lowerS (upS E q).1 (upS E q).2 D p ≤ 0
        · rw [decide_eq_true (hl.1.2 h), decide_eq_true ⟨rfl, h⟩]
        · rw [decide_eq_false (fun hh => h (hl.1.1 hh)), decide_eq_false (fun hh => h hh.2)]
      | false =>
        subst hf
        rw [if_neg (show ¬ false = true by decide)]
        exact j6 _ (by rw [decide_eq_false (by simp)])
  have j4 : ∀ (X : List UInt8) (xp : Int) (xc : Bool) (b : Bool), (f = true → (X, xp) = upS E q) → (c = false → b = false) → dec_Compare.j4 (k + 4) b (mk D) p c (mk E) q f (mk X) xp xc = some (if b = true then -1 else if c = false ∧ lowerS D p E q ≤ 0 then -1 else if f = true ∧ lowerS (upS E q).1 (upS E q).2 D p ≤ 0 then 1 else if f = false ∧ lowerS E q D p ≤ 0 then 1 else 2, none) := fun X xp xc b hX hb => by
    rw [dec_Compare.j4]
    cases b with
    | true => rw [if_pos rfl, if_pos rfl, j5 X xp xc true hX, if_pos rfl]
    | false =>
      rw [if_neg (show ¬ false = true by decide), if_neg (show ¬ false = true by decide)]
      cases hc : c with
      | true =>
        subst hc
        rw [if_pos rfl, j5 X xp xc false hX, if_neg (show ¬ false = true by decide), if_neg (show ¬ (true = false ∧ lowerS D p E q ≤ 0) from fun h => by cases h.1)]
      | false =>
        subst hc
        rw [if_neg (show ¬ false = true by decide), pAB _ (by omega), Option.bind_some, j5 X xp xc _ hX]
        by_cases h : lowerS D p E q ≤ 0
        · rw [if_pos (decide_eq_true (lAB.1.2 h)), if_pos ⟨rfl, h⟩]
        · rw [if_neg (show ¬ decide (plainV D p E q ≤ 0) = true from fun hh => h (lAB.1.1 (of_decide_eq_true hh))), if_neg (show ¬ (false = false ∧ lowerS D p E q ≤ 0) from fun hh => h hh.2)]
  have j3 : ∀ (Y : List UInt8) (yp : Int) (yc : Bool) (X : List UInt8) (xp : Int) (xc : Bool) (b : Bool), (c = true → (Y, yp) = upS D p) → (f = true → (X, xp) = upS E q) → b = (!c && !f) → dec_Compare.j3 (k + 5) b (mk D) p c (mk E) q f (mk Y) yp yc (mk X) xp xc = some (cmpS D p c E q f, none) := fun Y yp yc X xp xc b hY hX hb => by
    unfold cmpS
    rw [dec_Compare.j3]
    by_cases h0 : c = false ∧ f = false
    · obtain ⟨hc, hf⟩ := h0
      subst hc; subst hf
      have hb1 : b = true := hb
      rw [if_pos hb1, if_pos ⟨rfl, rfl⟩, pAB _ (by omega), Option.bind_some]
      unfold dec_sign.f
      rw [Option.bind_some, mx_def, mn_def, lAB.2]
    · have hb' : b = false := by
        rw [hb]
        cases c <;> cases f <;> first | rfl | exact absurd ⟨rfl, rfl⟩ h0
      rw [if_neg (by rw [hb']; decide), if_neg h0]
      cases hc : c with
      | true =>
        subst hc
        obtain ⟨u1, u2, u3, u4, _⟩ := up_facts hD
        have hy := hY rfl
        have hy1 : Y = (upS D p).1 := congrArg Prod.fst hy
        have hy2 : yp = (upS D p).2 := congrArg Prod.snd hy
        rw [if_pos rfl, hy1, hy2, plain3_eq (by omega) (by omega) (by omega) (by omega) (by omega) (by omega) _ _ (by omega), Option.bind_some, j4 X xp xc _ hX (fun h => by cases h)]
        have hl := plain_lower u1 gE (upS D p).2 q
        by_cases h : lowerS (upS D p).1 (upS D p).2 E q ≤ 0
        · rw [if_pos (decide_eq_true (hl.1.2 h)), if_pos ⟨rfl, h⟩]
        · rw [if_neg (show ¬ decide (plainV (upS D p).1 (upS D p).2 E q ≤ 0) = true from fun hh => h (hl.1.1 (of_decide_eq_true hh))), if_neg (show ¬ (true = true ∧ lowerS (upS D p).1 (upS D p).2 E q ≤ 0) from fun hh => h hh.2)]
      | false =>
        subst hc
        rw [if_neg (show ¬ false = true by decide), j4 X xp xc false hX (fun _ => rfl), if_neg (show ¬ false = true by decide), if_neg (show ¬ (false = true ∧ lowerS (upS D p).1 (upS D p).2 E q ≤ 0) from fun hh => by cases hh.1)]
  have j2 : ∀ (Y : List UInt8) (yp : Int) (yc : Bool) (X : List UInt8) (xp : Int) (xc : Bool), (c = true → (Y, yp) = upS D p) → (f = true → (X, xp) = upS E q) → dec_Compare.j2 (k + 6) (mk D) p c (mk E) q f (mk Y) yp yc (mk X) xp xc = some (cmpS D p c E q f, none) := fun Y yp yc X xp xc hY hX => by
    rw [dec_Compare.j2]
    cases hc : c with
    | true => subst hc; rw [if_pos rfl]; exact j3 Y yp yc X xp xc false hY hX (by simp)
    | false => subst hc; rw [if_neg (show ¬ false = true by decide)]; exact j3 Y yp yc X xp xc _ hY hX (by simp)
  have j1 : ∀ (Y : List UInt8) (yp : Int) (yc : Bool), (c = true → (Y, yp) = upS D p) → dec_Compare.j1 (k + 7) (mk D) p c (mk E) q f (mk Y) yp yc (mk E) q f = some (cmpS D p c E q f, none) := fun Y yp yc hY => by
    rw [dec_Compare.j1]
    cases hf : f with
    | true =>
      subst hf
      rw [if_pos rfl, bump_eq gE hE8 (by omega) (by omega) true (by omega), Option.bind_some]
      exact j2 Y yp yc _ _ _ hY (fun _ => rfl)
    | false => subst hf; rw [if_neg (show ¬ false = true by decide)]; exact j2 Y yp yc _ _ _ hY (fun h => by cases h)
  rw [dec_Compare.j0, if_neg (show ¬ false = true by decide)]
  cases hc : c with
  | true =>
    subst hc
    rw [if_pos rfl, bump_eq gD hD8 (by omega) (by omega) true (by omega), Option.bind_some]
    exact j1 _ _ _ (fun _ => rfl)
  | false => subst hc; rw [if_neg (show ¬ false = true by decide)]; exact j1 _ _ _ (fun h => by cases h)
theorem rCompare_eq {D E : List UInt8} {p q : Int} {c f : Bool} (hD : validS D p c = true) (hE : validS E q f = true) {k : Nat} (hk : 4000 ≤ k) :
    numeralref03_Compare.j0 k false (mk D) p c (mk E) q f = some (cmpS D p c E q f, 0) := by
  obtain ⟨k, rfl⟩ : ∃ j, k = j + 5 := ⟨k - 5, by omega⟩
  obtain ⟨gD, hD8, hp0, hp1⟩ := validS_good hD
  obtain ⟨gE, hE8, hq0, hq1⟩ := validS_good hE
  have hsw := lower_swap gD gE p q
  have j3 : ∀ b : Bool, b = decide (f = true ∧ lowerS (upS E q).1 (upS E q).2 D p ≤ 0) → ¬ (c = false ∧ f = false) → numeralref03_Compare.j3 (k + 2) (lowerS D p E q) b (mk D) p c (mk E) q f = some (if c = false ∧ lowerS D p E q ≤ 0 then -1 else if f = true ∧ lowerS (upS E q).1 (upS E q).2 D p ≤ 0 then 1 else if f = false ∧ lowerS E q D p ≤ 0 then 1 else 2, 0) := fun b hb hcf => by
    rw [numeralref03_Compare.j3]
    by_cases h1 : f = true ∧ lowerS (upS E q).1 (upS E q).2 D p ≤ 0
    · rw [decide_eq_true h1] at hb
      have hno : ¬ (c = false ∧ lowerS D p E q ≤ 0) := by
        rintro ⟨_, h2⟩
        have hf := h1.1
        subst hf
        obtain ⟨u1, _, _, _, u5⟩ := up_facts hE
        have := lower_trans u1 gD gE h1.2 h2
        rw [u5] at this
        exact absurd this (by decide)
      rw [if_pos hb, if_neg hno, if_pos h1]
    · rw [decide_eq_false h1] at hb
      rw [if_neg (by rw [hb]; decide)]
      cases hc : c with
      | true =>
        subst hc
        rw [if_pos rfl, numeralref03_Compare.j4, if_neg (show ¬ false = true by decide), if_neg (show ¬ (true = false ∧ lowerS D p E q ≤ 0) from fun h => by cases h.1), if_neg h1]
        cases hf : f with
        | true => rw [if_pos rfl, if_neg (show ¬ (true = false ∧ lowerS E q D p ≤ 0) from fun h => by cases h.1)]
        | false =>
          rw [if_neg (show ¬ false = true by decide)]
          by_cases h3 : lowerS D p E q ≥ 0
          · rw [if_pos h3, if_pos ⟨rfl, by omega⟩]
          · rw [if_neg h3, if_neg (fun hh => h3 (by have := hh.2; omega))]
      | false =>
        subst hc
        have hf : f = true := by cases f; exact absurd ⟨rfl, rfl⟩ hcf; rfl
        subst hf
        rw [if_neg (show ¬ false = true by decide), numeralref03_Compare.j4]
        by_cases h3 : lowerS D p E q ≤ 0
        · rw [if_pos (decide_eq_true h3), if_pos ⟨rfl, h3⟩]
        · rw [if_neg (show ¬ decide (lowerS D p E q ≤ 0) = true from fun hh => h3 (of_decide_eq_true hh)), if_pos rfl, if_neg (fun hh => h3 hh.2), if_neg h1, if_neg (by simp)]
  have j2 : ∀ b : Bool, (c = false → b = false) → ¬ (c = false ∧ f = false) → numeralref03_Compare.j2 (k + 3) (lowerS D p E q) b (mk D) p c (mk E) q f = some (if b = true then -1 else if c = false ∧ lowerS D p E q ≤ 0 then -1 else if f = true ∧ lowerS (upS E q).1 (upS E q).2 D p ≤ 0 then 1 else if f = false ∧ lowerS E q D p ≤ 0 then 1 else 2, 0) := fun b hb hcf => by
    rw [numeralref03_Compare.j2]
    cases b with
    | true => rw [if_pos rfl, if_pos rfl]
    | false =>
      rw [if_neg (show ¬ false = true by decide), if_neg (show ¬ false = true by decide)]
      cases hf : f with
      | true =>
        subst hf
        obtain ⟨u1, u2, u3, u4, _⟩ := up_facts hE
        rw [if_pos rfl, next_eq gE hE8 (by omega) (by omega) true (by omega), Option.bind_some]
        dsimp only
        rw [lower_eq _ _ _ _ _ _ u2 (by omega) (by omega), Option.bind_some]
        refine j3 _ ?_ hcf
        by_cases h : lowerS (upS E q).1 (upS E q).2 D p ≤ 0
        · rw [decide_eq_true h, decide_eq_true ⟨rfl, h⟩]
        · rw [decide_eq_false h, decide_eq_false (fun hh => h hh.2)]
      | false => subst hf; rw [if_neg (show ¬ false = true by decide)]; exact j3 _ (by rw [decide_eq_false (by simp)]) hcf
  have j1 : ∀ b : Bool, b = (!c && !f) → numeralref03_Compare.j1 (k + 4) (lowerS D p E q) b (mk D) p c (mk E) q f = some (cmpS D p c E q f, 0) := fun b hb => by
    unfold cmpS
    rw [numeralref03_Compare.j1]
    by_cases h0 : c = false ∧ f = false
    · obtain ⟨hc, hf⟩ := h0
      subst hc; subst hf
      have hb1 : b = true := hb
      rw [if_pos hb1, if_pos ⟨rfl, rfl⟩]
    · have hb' : b = false := by
        rw [hb]
        cases c <;> cases f <;> first | rfl | exact absurd ⟨rfl, rfl⟩ h0
      rw [if_neg (by rw [hb']; decide), if_neg h0]
      cases hc : c with
      | true =>
        subst hc
        obtain ⟨u1, u2, u3, u4, _⟩ := up_facts hD
        rw [if_pos rfl, next_eq gD hD8 (by omega) (by omega) true (by omega), Option.bind_some]
        dsimp only
        rw [lower_eq _ _ _ _ _ _ u2 (by omega) (by omega), Option.bind_some, j2 _ (fun h => by cases h) h0]
        by_cases h : lowerS (upS D p).1 (upS D p).2 E q ≤ 0
        · rw [if_pos (decide_eq_true h), if_pos ⟨rfl, h⟩]
        · rw [if_neg (show ¬ decide (lowerS (upS D p).1 (upS D p).2 E q ≤ 0) = true from fun hh => h (of_decide_eq_true hh)), if_neg (show ¬ (true = true ∧ lowerS (upS D p).1 (upS D p).2 E q ≤ 0) from fun hh => h hh.2)]
      | false =>
        subst hc
        rw [if_neg (show ¬ false = true by decide), j2 false (fun _ => rfl) h0, if_neg (show ¬ false = true by decide), if_neg (show ¬ (false = true ∧ lowerS (upS D p).1 (upS D p).2 E q ≤ 0) from fun hh => by cases hh.1)]
  rw [numeralref03_Compare.j0, if_neg (show ¬ false = true by decide), lower_eq _ _ _ _ _ _ (by omega) (by omega) (by omega), Option.bind_some]
  cases hc : c with
  | true => subst hc; rw [if_pos rfl]; exact j1 _ (by simp)
  | false => subst hc; rw [if_neg (show ¬ false = true by decide)]; exact j1 _ (by simp)
theorem DecCompares : numerallaw03_DecCompares.Pure := by
  intro b p c b2 q f hs wp hs2 wq
  have hDs : b.data.toList.length ≤ 140737488351232 := by rw [Array.length_toList]; exact hs
  have hEs : b2.data.toList.length ≤ 140737488351232 := by rw [Array.length_toList]; exact hs2
  rw [mk_of b, mk_of b2]
  generalize b.data.toList = D at hDs
  generalize b2.data.toList = E at hEs
  refine ⟨5001, ?_⟩
  have hV := Go.Proofs.YtpkfpgjacijjeaaDoor.XcLr.rValid_eq D hDs p c (k := 5001) (by omega)
  have hV2 := Go.Proofs.YtpkfpgjacijjeaaDoor.XcLr.rValid_eq E hEs q f (k := 5001) (by omega)
  have e1 : dec_Compare.j0 5001 true (mk D) p c (mk E) q f = some (0, some 1) := by rw [show (5001 : Nat) = 5000 + 1 from rfl, dec_Compare.j0, if_pos rfl]
  have e2 : numeralref03_Compare.j0 5001 true (mk D) p c (mk E) q f = some (0, 1) := by rw [show (5001 : Nat) = 5000 + 1 from rfl, numeralref03_Compare.j0, if_pos rfl]
  have hend : ∀ (n : Int) (e : Option Int), dec_Compare.f 5001 (mk D) p c (mk E) q f = some (n, e) → numeralref03_Compare.f 5001 (mk D) p c (mk E) q f = some (n, e.getD 0) → numerallaw03_DecCompares.f 5001 (mk D) p c (mk E) q f = some true := fun n e h1 h2 => by
    unfold numerallaw03_DecCompares.f
    rw [h1, Option.bind_some, h2, Option.bind_some, if_pos rfl, num3_eq, Option.bind_some, if_pos rfl, sure (by omega), Option.bind_some]
  by_cases h1 : validS D p c = true
  · rw [if_pos h1] at hV
    by_cases h2 : validS E q f = true
    · rw [if_pos h2] at hV2
      refine hend (cmpS D p c E q f) none ?_ ?_
      · unfold dec_Compare.f
        rw [Valid_eq D hDs p c (by omega), if_pos h1, Option.bind_some, if_pos (show (none : Option Int).isNone = true from rfl), Valid_eq E hEs q f (by omega), if_pos h2, Option.bind_some, if_pos (show (none : Option Int).isNone = true from rfl), Compare_eq h1 h2 (by omega)]
      · unfold numeralref03_Compare.f
        rw [hV, Option.bind_some, if_pos rfl, hV2, Option.bind_some, show ((0 : Int) != 0) = false from rfl, rCompare_eq h1 h2 (by omega)]; rfl
    · rw [if_neg h2] at hV2
      refine hend 0 (some 1) ?_ ?_
      · unfold dec_Compare.f
        rw [Valid_eq D hDs p c (by omega), if_pos h1, Option.bind_some, if_pos (show (none : Option Int).isNone = true from rfl), Valid_eq E hEs q f (by omega), if_neg h2, Option.bind_some, if_neg (by decide), e1]
      · unfold numeralref03_Compare.f
        rw [hV, Option.bind_some, if_pos rfl, hV2, Option.bind_some, show ((1 : Int) != 0) = true from rfl, e2]; rfl
  · rw [if_neg h1] at hV
    refine hend 0 (some 1) ?_ ?_
    · unfold dec_Compare.f
      rw [Valid_eq D hDs p c (by omega), if_neg h1, Option.bind_some, if_neg (by decide), e1]
    · unfold numeralref03_Compare.f
      rw [hV, Option.bind_some, if_neg (by decide), e2]; rfl
end Go.Proofs.YtpkfpgjacijjeaaDoor.Pure
