
/- Every number is rounded, down and up as the reference rounds it, or the errors. -/
import Derived.Test.YtpkfpgjacijjeaaDoorXrDm
import Derived.Test.YtpkfpgjacijjeaaDoorXrx10
import Derived.Test.YtpkfpgjacijjeaaDoorXrx11
import Derived.Test.YtpkfpgjacijjeaaDoorXrx12
import Derived.Test.YtpkfpgjacijjeaaDoorXrx13
import Derived.Test.YtpkfpgjacijjeaaDoorXrx13a
import Derived.Test.YtpkfpgjacijjeaaDoorXrx2
import Derived.Test.YtpkfpgjacijjeaaDoorXrx3
import Derived.Test.YtpkfpgjacijjeaaDoorXrx4
import Derived.Test.YtpkfpgjacijjeaaDoorXrx5
import Derived.Test.YtpkfpgjacijjeaaDoorXrx9
namespace Go.Proofs.YtpkfpgjacijjeaaDoor.Pure
open Go.RowKit Go.Proofs.YtpkfpgjacijjeaaDoor.Xr Go.Proofs.YtpkfpgjacijjeaaDoorW.PrintWords Go.Proofs.YtpkfpgjacijjeaaDoorW.PrintLast Go.Proofs.YtpkfpgjacijjeaaDoorW.PrintMore Go.Proofs.YtpkfpgjacijjeaaDoor.XrLy Go.Proofs.YtpkfpgjacijjeaaDoor.XrDc Go.Proofs.YtpkfpgjacijjeaaDoor.XrDm Go.Proofs.YtpkfpgjacijjeaaDoor.Dz
set_option linter.unusedVariables false

/-- The program answers as the reference. -/
def same (f : Option (ByteArray × Int × Bool × Option Int)) (g : Option (ByteArray × Int × Bool × Int)) : Prop :=
  ∃ (s : List UInt8) (pt : Int) (c : Bool) (e : Option Int), f = some (mk s, pt, c, e) ∧ g = some (mk s, pt, c, e.getD 0)
theorem same_built {D : List UInt8} (hD : good D) (h8 : D.length ≤ 800) {p : Int} (hp0 : -1099511627776 ≤ p) (hp1 : p ≤ 1099511627776) (c up : Bool) {n : Nat} (hn : n ≤ D.length) {k k' : Nat} (hk : 5000 ≤ k) (hk' : 5000 ≤ k') :
    same ((dec_built.f k (mk (D.take n)) p up).bind fun bt => some (bt.1, bt.2.1, bt.2.2.1, bt.2.2.2)) ((numeralref03_made.f k' (mk D) p c (n : Int) up).bind fun bt => some (bt.1, bt.2.1, bt.2.2.1, bt.2.2.2)) := by
  have hK8 : (D.take n).length ≤ 800 := by rw [List.length_take]; omega
  rw [built_eq (good_take hD n) hK8 hp0 hp1 up (by omega), made_eq hD h8 hp0 hp1 c up hn hk', Option.bind_some, Option.bind_some]
  exact ⟨_, _, _, _, rfl, rfl⟩
theorem asked_eq {D : List UInt8} (hs : D.length ≤ 140737488351232) (p : Int) (c : Bool) (n : Int) {k : Nat} (hk : 900 ≤ k) : dec_asked.f k (mk D) p c n = some (if validS D p c = true ∧ 0 ≤ n ∧ n ≤ 800 then none else some 1) := by
  unfold dec_asked.f
  rw [Valid_eq D hs p c hk, Option.bind_some]
  by_cases hv : validS D p c = true
  · rw [if_pos hv, if_pos (show (none : Option Int).isNone = true from rfl)]
    by_cases h0 : n < 0
    · rw [if_pos h0, if_neg (fun h => by omega)]
    · rw [if_neg h0]
      by_cases h1 : n > 800
      · rw [if_pos h1, if_neg (fun h => by omega)]
      · rw [if_neg h1, if_pos ⟨hv, by omega, by omega⟩]
  · rw [if_neg hv, if_neg (by decide), if_neg (fun h => hv h.1)]
theorem last_zero {D : List UInt8} {p : Int} (hv : validS D p false = true) {m : Nat} (hm : m < D.length) (h : trimR (D.drop (m + 1)) = []) : m + 1 = D.length := by
  apply Classical.byContradiction
  intro hne
  have hml : m + 1 < D.length := by omega
  have hall := (allz_iff _).2 h
  have hD0 : D ≠ [] := by intro hh; rw [hh] at hm; simp at hm
  have hlast : D.getD (D.length - 1) 0 = 48 := by
    have hl : D.length - 1 < D.length := by omega
    have hmem : D[D.length - 1] ∈ D.drop (m + 1) := by
      rw [List.mem_iff_getElem]
      refine ⟨D.length - 1 - (m + 1), by rw [List.length_drop]; omega, ?_⟩
      rw [List.getElem_drop]
      congr 1; omega
    have := List.all_eq_true.1 hall _ hmem
    rw [List.getD_eq_getElem?_getD, List.getElem?_eq_getElem hl]
    exact beq_iff_eq.1 this
  unfold validS at hv
  rw [if_neg hD0] at hv
  simp only [Bool.and_eq_true, Bool.or_eq_true, Bool.not_eq_true', decide_eq_false_iff_not, Bool.false_eq_true, or_false] at hv
  exact hv.1.1.1.2 hlast
theorem bl_one (x : UInt8) : Op.bytesLess [53] [x] = decide (53 < x) := by
  rw [Op.bytesLess, Op.bytesLess]; simp
theorem bl_more (x y : UInt8) (l : List UInt8) : Op.bytesLess [53] (x :: y :: l) = (decide (53 < x) || (53 == x)) := by
  rw [Op.bytesLess, Op.bytesLess]; simp
theorem gt53 (x : UInt8) : (53 < x) ↔ 53 < x.toNat := by rw [UInt8.lt_iff_toNat_lt]; rfl
theorem eq53 (x : UInt8) : x = 53 ↔ x.toNat = 53 := ⟨fun h => by rw [h]; rfl, fun h => UInt8.toNat_inj.1 h⟩
theorem Round_P {D : List UInt8} {p : Int} {c : Bool} (h8 : D.length ≤ 800) {m : Nat} (hm : m < D.length) {k : Nat} (hg : good D) (up : Bool)
    (h1 : Op.bytesLess [53] (trimR (D.drop m)) = true → up = true)
    (h2 : Op.bytesLess [53] (trimR (D.drop m)) = false → trimR (D.drop m) = [53] → c = true → up = true)
    (h3 : Op.bytesLess [53] (trimR (D.drop m)) = false → trimR (D.drop m) = [53] → c = false → 0 < m → up = decide ((D.getD (m - 1) 0).toNat % 2 = 1))
    (h4 : Op.bytesLess [53] (trimR (D.drop m)) = false → trimR (D.drop m) = [53] → c = false → m = 0 → up = false)
    (h5 : Op.bytesLess [53] (trimR (D.drop m)) = false → trimR (D.drop m) ≠ [53] → up = false) :
    dec_Round.j0 (k + 1) (m : Int) false (mk D) p c = ((dec_built.f k (mk (D.take m)) p up).bind fun bt => some (bt.1, bt.2.1, bt.2.2.1, bt.2.2.2)) := by
  have hx0 : (mk D).extract 0 ((m : Int)).toNat = mk (D.take m) := by rw [mk_extract, Int.toNat_natCast, List.drop_zero]
  have hx1 : (mk D).extract ((m : Int)).toNat D.length = mk (D.drop m) := by rw [mk_extract, Int.toNat_natCast, List.take_length]
  rw [dec_Round.j0, if_neg (show ¬ false = true by decide), mk_size, if_neg (show ¬ ((m : Int) ≥ (D.length : Int)) by omega), if_pos (show (0 : Int) ≤ (m : Int) by omega), if_pos (show (m : Int) ≤ (D.length : Int) by omega), hx0, hx1, TrimR_eq (by rw [List.length_drop]; omega), Option.bind_some, mk_toList]
  cases hb : Op.bytesLess [53] (trimR (D.drop m)) with
  | true => rw [if_pos rfl, h1 hb]
  | false =>
    rw [if_neg (show ¬ false = true by decide)]
    by_cases hr : trimR (D.drop m) = [53]
    · rw [if_pos hr]
      cases hc : c with
      | true => rw [if_pos rfl, h2 hb hr hc]
      | false =>
        rw [if_neg (show ¬ false = true by decide)]
        by_cases hm0 : (m : Int) > 0
        · have hb1 : bt (mk (D.take m)) ((m : Int) - 1) = ((D.getD (m - 1) 0).toNat : Int) := by
            rw [show (m : Int) - 1 = ((m - 1 : Nat) : Int) by omega, bt_nat, List.getD_eq_getElem?_getD, List.getD_eq_getElem?_getD, List.getElem?_take, if_pos (by omega)]
          have hu : (Int.tmod ((D.getD (m - 1) 0).toNat : Int) 2 == 1) = up := by
            rw [h3 hb hr hc (by omega), Int.tmod_eq_emod_of_nonneg (by omega)]
            generalize (D.getD (m - 1) 0).toNat = v
            by_cases ho : v % 2 = 1
            · rw [decide_eq_true ho]; exact beq_iff_eq.2 (by omega)
            · rw [decide_eq_false ho]; exact beq_eq_false_iff_ne.2 (by omega)
          rw [if_pos hm0, wrapi_id (n := (m : Int) - 1) (by omega) (by omega), if_pos (show (0 : Int) ≤ (m : Int) - 1 by omega), if_pos (by rw [mk_size, List.length_take]; omega), hb1, hu]
        · rw [if_neg hm0, h4 hb hr hc (by omega)]
    · rw [if_neg hr, h5 hb hr]
theorem Round_R {D : List UInt8} {p : Int} {c : Bool} (h8 : D.length ≤ 800) {m : Nat} (hm : m < D.length) {k : Nat} (hg : good D) (up : Bool)
    (h1 : (D.getD m 0).toNat ≠ 53 → up = decide (53 < (D.getD m 0).toNat))
    (h2 : (D.getD m 0).toNat = 53 → 0 < m → (D.getD (m - 1) 0).toNat % 2 = 1 → up = true)
    (h3 : (D.getD m 0).toNat = 53 → (0 < m → ¬ (D.getD (m - 1) 0).toNat % 2 = 1) → c = true → up = true)
    (h4 : (D.getD m 0).toNat = 53 → (0 < m → ¬ (D.getD (m - 1) 0).toNat % 2 = 1) → c = false → up = decide (m + 1 < D.length)) :
    numeralref03_Round.j0 (k + 1) (m : Int) false (mk D) p c = ((numeralref03_made.f k (mk D) p c (m : Int) up).bind fun bt => some (bt.1, bt.2.1, bt.2.2.1, bt.2.2.2)) := by
  have hw1 : wrap64 ((m : Int) + 1) = (m : Int) + 1 := wrapi_id (by omega) (by omega)
  have hde : decide (((m : Int) + 1) < (D.length : Int)) = decide (m + 1 < D.length) := by by_cases h : m + 1 < D.length <;> simp only [h, decide_true, decide_false] <;> simp <;> omega
  rw [numeralref03_Round.j0, if_neg (show ¬ false = true by decide), mk_size, if_neg (show ¬ ((m : Int) ≥ (D.length : Int)) by omega), if_pos (show (0 : Int) ≤ (m : Int) by omega), if_pos (show (m : Int) < (D.length : Int) by omega), bt_nat, hw1, hde]
  by_cases h53 : (D.getD m 0).toNat = 53
  · rw [if_pos (show (((D.getD m 0).toNat : Nat) : Int) = 53 by omega)]
    by_cases hm0 : (m : Int) > 0
    · have hml : m - 1 < D.length := by omega
      have hdm := digs_mem hg.1 hml
      have hge : D.getD (m - 1) 0 = D[m - 1] := by rw [List.getD_eq_getElem?_getD, List.getElem?_eq_getElem hml]; rfl
      rw [if_pos hm0, wrapi_id (n := (m : Int) - 1) (by omega) (by omega), if_pos (show (0 : Int) ≤ (m : Int) - 1 by omega), if_pos (show (m : Int) - 1 < (D.length : Int) by omega), show (m : Int) - 1 = ((m - 1 : Nat) : Int) by omega, bt_nat]
      rw [hge]
      by_cases ho : (D[m - 1]).toNat % 2 = 1
      · rw [if_pos (by omega), h2 h53 (by omega) (by rw [hge]; exact ho)]
      · rw [if_neg (by omega)]
        cases hc : c with
        | true => rw [if_pos rfl, h3 h53 (fun _ => by rw [hge]; exact ho) hc]
        | false => rw [if_neg (show ¬ false = true by decide), h4 h53 (fun _ => by rw [hge]; exact ho) hc]
    · rw [if_neg hm0]
      cases hc : c with
      | true => rw [if_pos rfl, h3 h53 (fun h => by omega) hc]
      | false => rw [if_neg (show ¬ false = true by decide), h4 h53 (fun h => by omega) hc]
  · have hu : decide (((D.getD m 0).toNat : Int) > 53) = up := by
      rw [h1 h53]
      generalize (D.getD m 0).toNat = v
      by_cases h : 53 < v
      · rw [decide_eq_true h]; exact decide_eq_true (by omega)
      · rw [decide_eq_false h]; exact decide_eq_false (by omega)
    rw [if_neg (show ¬ (((D.getD m 0).toNat : Nat) : Int) = 53 by omega), hu]
theorem Round_main {D : List UInt8} {p : Int} {c : Bool} (hv : validS D p c = true) {m : Nat} (hm : m < D.length) {k : Nat} (hk : 6000 ≤ k) :
    same (dec_Round.j0 (k + 1) (m : Int) false (mk D) p c) (numeralref03_Round.j0 (k + 1) (m : Int) false (mk D) p c) := by
  obtain ⟨hg, h8, hp0, hp1⟩ := validS_good hv
  have hge : D.getD m 0 = D[m] := by rw [List.getD_eq_getElem?_getD, List.getElem?_eq_getElem hm]; rfl
  have hrest : trimR (D.drop m) = if trimR (D.drop (m + 1)) = [] then (if D.getD m 0 = 48 then [] else [D.getD m 0]) else D.getD m 0 :: trimR (D.drop (m + 1)) := by
    rw [List.drop_eq_getElem_cons hm, trimR_cons, hge]
  have fin : ∀ up : Bool, dec_Round.j0 (k + 1) (m : Int) false (mk D) p c = ((dec_built.f k (mk (D.take m)) p up).bind fun bt => some (bt.1, bt.2.1, bt.2.2.1, bt.2.2.2)) → numeralref03_Round.j0 (k + 1) (m : Int) false (mk D) p c = ((numeralref03_made.f k (mk D) p c (m : Int) up).bind fun bt => some (bt.1, bt.2.1, bt.2.2.1, bt.2.2.2)) → same (dec_Round.j0 (k + 1) (m : Int) false (mk D) p c) (numeralref03_Round.j0 (k + 1) (m : Int) false (mk D) p c) := fun up h1 h2 => by
    rw [h1, h2]; exact same_built hg h8 hp0 hp1 c up (by omega) (by omega) (by omega)
  have hRlt : ∀ up : Bool, (D.getD m 0).toNat ≠ 53 → up = decide (53 < (D.getD m 0).toNat) → numeralref03_Round.j0 (k + 1) (m : Int) false (mk D) p c = ((numeralref03_made.f k (mk D) p c (m : Int) up).bind fun bt => some (bt.1, bt.2.1, bt.2.2.1, bt.2.2.2)) := fun up hne hu => Round_R h8 hm hg up (fun _ => hu) (fun h => absurd h hne) (fun h => absurd h hne) (fun h => absurd h hne)
  generalize hx : D.getD m 0 = x at hrest hRlt
  have hP1 : Op.bytesLess [53] (trimR (D.drop m)) = true → dec_Round.j0 (k + 1) (m : Int) false (mk D) p c = ((dec_built.f k (mk (D.take m)) p true).bind fun bt => some (bt.1, bt.2.1, bt.2.2.1, bt.2.2.2)) := fun h => Round_P h8 hm hg true (fun _ => rfl) (fun h2 => by rw [h] at h2; cases h2) (fun h2 => by rw [h] at h2; cases h2) (fun h2 => by rw [h] at h2; cases h2) (fun h2 => by rw [h] at h2; cases h2)
  have hP0 : Op.bytesLess [53] (trimR (D.drop m)) = false → trimR (D.drop m) ≠ [53] → dec_Round.j0 (k + 1) (m : Int) false (mk D) p c = ((dec_built.f k (mk (D.take m)) p false).bind fun bt => some (bt.1, bt.2.1, bt.2.2.1, bt.2.2.2)) := fun h hn => Round_P h8 hm hg false (fun h2 => by rw [h] at h2; cases h2) (fun _ h2 => absurd h2 hn) (fun _ h2 => absurd h2 hn) (fun _ h2 => absurd h2 hn) (fun _ _ => rfl)
  by_cases ht : trimR (D.drop (m + 1)) = []
  · rw [if_pos ht] at hrest
    by_cases h48 : x = 48
    · have hn : x.toNat = 48 := by rw [h48]; rfl
      rw [if_pos h48] at hrest
      exact fin false (hP0 (by rw [hrest]; rfl) (by rw [hrest]; simp)) (hRlt false (by omega) (by rw [hn]; rfl))
    · rw [if_neg h48] at hrest
      by_cases h53 : x.toNat = 53
      · have hx53 := (eq53 x).2 h53
        have hb : Op.bytesLess [53] (trimR (D.drop m)) = false := by rw [hrest, hx53]; rfl
        have hr : trimR (D.drop m) = [53] := by rw [hrest, hx53]
        cases hc : c with
        | true =>
          subst hc
          exact fin true (Round_P h8 hm hg true (fun _ => rfl) (fun _ _ _ => rfl) (fun _ _ h => by cases h) (fun _ _ h => by cases h) (fun _ h => absurd hr h)) (Round_R h8 hm hg true (fun h => absurd (hx ▸ h53) h) (fun _ _ _ => rfl) (fun _ _ _ => rfl) (fun _ _ h => by cases h))
        | false =>
          subst hc
          have hlz := last_zero hv hm ht
          by_cases hm0 : 0 < m
          · by_cases ho : (D.getD (m - 1) 0).toNat % 2 = 1
            · exact fin true (Round_P h8 hm hg true (fun _ => rfl) (fun _ _ _ => rfl) (fun _ _ _ _ => (decide_eq_true ho).symm) (fun _ _ _ h => by omega) (fun _ h => absurd hr h)) (Round_R h8 hm hg true (fun h => absurd (hx ▸ h53) h) (fun _ _ _ => rfl) (fun _ _ _ => rfl) (fun _ h => absurd ho (h hm0)))
            · exact fin false (Round_P h8 hm hg false (fun h => by rw [hb] at h; cases h) (fun _ _ h => by cases h) (fun _ _ _ _ => (decide_eq_false ho).symm) (fun _ _ _ _ => rfl) (fun _ h => absurd hr h)) (Round_R h8 hm hg false (fun h => absurd (hx ▸ h53) h) (fun _ _ h => absurd h ho) (fun _ _ h => by cases h) (fun _ _ _ => (decide_eq_false (by omega)).symm))
          · exact fin false (Round_P h8 hm hg false (fun h => by rw [hb] at h; cases h) (fun _ _ h => by cases h) (fun _ _ _ h => absurd h hm0) (fun _ _ _ _ => rfl) (fun _ h => absurd hr h)) (Round_R h8 hm hg false (fun h => absurd (hx ▸ h53) h) (fun _ h => absurd h hm0) (fun _ _ h => by cases h) (fun _ _ _ => (decide_eq_false (by omega)).symm))
      · by_cases hgt : 53 < x.toNat
        · exact fin true (hP1 (by rw [hrest, bl_one]; exact decide_eq_true ((gt53 x).2 hgt))) (hRlt true h53 (decide_eq_true hgt).symm)
        · exact fin false (hP0 (by rw [hrest, bl_one]; exact decide_eq_false (fun h => hgt ((gt53 x).1 h))) (by rw [hrest]; intro h; exact h53 ((eq53 x).1 (List.cons.inj h).1))) (hRlt false h53 (decide_eq_false hgt).symm)
  · rw [if_neg ht] at hrest
    obtain ⟨y, l, hy⟩ := List.exists_cons_of_ne_nil ht
    rw [hy] at hrest
    have hm1 : m + 1 < D.length := by
      apply Nat.lt_of_not_le
      intro h
      rw [List.drop_eq_nil_of_le h] at ht
      exact ht rfl
    by_cases h53 : x.toNat = 53
    · have hx53 := (eq53 x).2 h53
      exact fin true (hP1 (by rw [hrest, bl_more, hx53]; rfl)) (Round_R h8 hm hg true (fun h => absurd (hx ▸ h53) h) (fun _ _ _ => rfl) (fun _ _ _ => rfl) (fun _ _ _ => (decide_eq_true hm1).symm))
    · by_cases hgt : 53 < x.toNat
      · exact fin true (hP1 (by rw [hrest, bl_more, decide_eq_true ((gt53 x).2 hgt)]; rfl)) (hRlt true h53 (decide_eq_true hgt).symm)
      · exact fin false (hP0 (by rw [hrest, bl_more, decide_eq_false (fun h => hgt ((gt53 x).1 h)), show ((53 : UInt8) == x) = false from beq_eq_false_iff_ne.2 (fun h => h53 ((eq53 x).1 h.symm))]; rfl) (by rw [hrest]; simp)) (hRlt false h53 (decide_eq_false hgt).symm)
theorem same_err1 : same (some ((⟨#[]⟩ : ByteArray), 0, false, some 1)) (some ((⟨#[]⟩ : ByteArray), 0, false, 1)) := ⟨[], 0, false, some 1, rfl, rfl⟩
theorem Round_same {D : List UInt8} (hs : D.length ≤ 140737488351232) (p : Int) (c : Bool) (n : Int) {k : Nat} (hk : 7000 ≤ k) : same (dec_Round.f k (mk D) p c n) (numeralref03_Round.f k (mk D) p c n) := by
  obtain ⟨k, rfl⟩ : ∃ j, k = j + 1 := ⟨k - 1, by omega⟩
  have e1 : dec_Round.j0 (k + 1) n true (mk D) p c = some ((⟨#[]⟩ : ByteArray), 0, false, some 1) := by rw [dec_Round.j0, if_pos rfl]
  have e2 : numeralref03_Round.j0 (k + 1) n true (mk D) p c = some ((⟨#[]⟩ : ByteArray), 0, false, 1) := by rw [numeralref03_Round.j0, if_pos rfl]
  unfold dec_Round.f numeralref03_Round.f
  rw [asked_eq hs p c n (by omega), Option.bind_some, Go.Proofs.YtpkfpgjacijjeaaDoor.XrLr.rValid_eq D hs p c (by omega), Option.bind_some]
  by_cases hv : validS D p c = true
  · rw [if_pos hv, if_pos (show (0 : Int) = 0 from rfl)]
    by_cases h0 : n < 0
    · rw [if_neg (show ¬ (validS D p c = true ∧ 0 ≤ n ∧ n ≤ 800) from fun h => by omega), if_pos h0, if_neg (show ¬ ((some (1 : Int)).isNone = true) by decide), e1, e2]; exact same_err1
    · rw [if_neg h0]
      by_cases h1 : n > 800
      · rw [if_neg (show ¬ (validS D p c = true ∧ 0 ≤ n ∧ n ≤ 800) from fun h => by omega), if_pos h1, if_neg (show ¬ ((some (1 : Int)).isNone = true) by decide), e1, e2]; exact same_err1
      · rw [if_pos (show validS D p c = true ∧ 0 ≤ n ∧ n ≤ 800 from ⟨hv, by omega, by omega⟩), if_neg h1, if_pos (show (none : Option Int).isNone = true from rfl), mk_size]
        have hmain : ¬ (c = true ∧ n ≥ (D.length : Int)) → same (dec_Round.j0 (k + 1) n false (mk D) p c) (numeralref03_Round.j0 (k + 1) n false (mk D) p c) := fun hc => by
          by_cases hl : n ≥ (D.length : Int)
          · rw [dec_Round.j0, numeralref03_Round.j0, if_neg (show ¬ false = true by decide), if_neg (show ¬ false = true by decide), mk_size, if_pos hl, if_pos hl]
            exact ⟨D, p, c, none, rfl, rfl⟩
          · obtain ⟨m, rfl⟩ := Int.eq_ofNat_of_zero_le (show 0 ≤ n by omega)
            exact Round_main hv (by omega) (by omega)
        cases hc : c with
        | true =>
          subst hc
          rw [if_pos rfl, if_pos rfl]
          by_cases hl : n ≥ (D.length : Int)
          · rw [decide_eq_true hl, e1, e2]; exact same_err1
          · rw [decide_eq_false hl]; exact hmain (fun h => hl h.2)
        | false =>
          subst hc
          rw [if_neg (show ¬ false = true by decide), if_neg (show ¬ false = true by decide)]
          exact hmain (fun h => by cases h.1)
  · rw [if_neg (show ¬ (validS D p c = true ∧ 0 ≤ n ∧ n ≤ 800) from fun h => hv h.1), if_neg hv, if_neg (show ¬ ((some (1 : Int)).isNone = true) by decide), if_neg (show ¬ ((1 : Int) = 0) by decide), e1, e2]; exact same_err1
theorem Down_same {D : List UInt8} (hs : D.length ≤ 140737488351232) (p : Int) (c : Bool) (n : Int) {k : Nat} (hk : 7000 ≤ k) : same (dec_Down.f k (mk D) p c n) (numeralref03_Down.f k (mk D) p c n) := by
  unfold dec_Down.f numeralref03_Down.f
  rw [asked_eq hs p c n (by omega), Option.bind_some, Go.Proofs.YtpkfpgjacijjeaaDoor.XrLr.rValid_eq D hs p c (by omega), Option.bind_some]
  by_cases hv : validS D p c = true
  · obtain ⟨hg, h8, hp0, hp1⟩ := validS_good hv
    rw [if_pos hv, if_pos (show (0 : Int) = 0 from rfl)]
    by_cases h0 : n < 0
    · rw [if_neg (show ¬ (validS D p c = true ∧ 0 ≤ n ∧ n ≤ 800) from fun h => by omega), if_pos h0, if_neg (show ¬ ((some (1 : Int)).isNone = true) by decide)]; exact same_err1
    · rw [if_neg h0]
      by_cases h1 : n > 800
      · rw [if_neg (show ¬ (validS D p c = true ∧ 0 ≤ n ∧ n ≤ 800) from fun h => by omega), if_pos h1, if_neg (show ¬ ((some (1 : Int)).isNone = true) by decide)]; exact same_err1
      · rw [if_pos (show validS D p c = true ∧ 0 ≤ n ∧ n ≤ 800 from ⟨hv, by omega, by omega⟩), if_neg h1, if_pos (show (none : Option Int).isNone = true from rfl), mk_size, mn_def]
        obtain ⟨m, hm⟩ : ∃ m : Nat, min n (D.length : Int) = m := ⟨(min n (D.length : Int)).toNat, by omega⟩
        have hml : m ≤ D.length := by omega
        have hx0 : (mk D).extract 0 ((m : Int)).toNat = mk (D.take m) := by rw [mk_extract, Int.toNat_natCast, List.drop_zero]
        have hK8 : (D.take m).length ≤ 800 := by rw [List.length_take]; omega
        have hmain : same ((dec_Make.f k (mk (D.take m)) p false).bind fun bt => some (bt.1, bt.2.1, bt.2.2.1, bt.2.2.2)) ((numeralref03_made.f k (mk D) p c (m : Int) false).bind fun bt => some (bt.1, bt.2.1, bt.2.2.1, bt.2.2.2)) := by
          rw [pMake_eq (good_take hg m) hK8 (by omega) (by omega) (by omega), made_eq hg h8 hp0 hp1 c false hml (by omega), Option.bind_some, Option.bind_some]
          exact ⟨_, _, _, _, rfl, rfl⟩
        rw [hm, hx0, if_pos (show (0 : Int) ≤ (m : Int) by omega), if_pos (show (m : Int) ≤ (D.length : Int) by omega)]
        cases hc : c with
        | true =>
          subst hc
          rw [if_pos rfl, if_pos rfl]
          by_cases hl : n > (D.length : Int)
          · rw [if_pos hl, if_pos hl]; exact same_err1
          · rw [if_neg hl, if_neg hl]; exact hmain
        | false =>
          subst hc
          rw [if_neg (show ¬ false = true by decide), if_neg (show ¬ false = true by decide)]; exact hmain
  · rw [if_neg (show ¬ (validS D p c = true ∧ 0 ≤ n ∧ n ≤ 800) from fun h => hv h.1), if_neg hv, if_neg (show ¬ ((some (1 : Int)).isNone = true) by decide), if_neg (show ¬ ((1 : Int) = 0) by decide)]; exact same_err1
theorem Trim_eq {l : List UInt8} (h : l.length ≤ 9223372036854775807) : ∃ t, strings_Trim.f (mk l) (⟨#[48]⟩ : ByteArray) = some (mk t) ∧ (t = [] ↔ allz l = true) := by
  refine ⟨trimL (trimR l), ?_, ?_⟩
  · unfold strings_Trim.f
    show (if _ then _ else none) = _
    rw [if_pos ⟨by decide, by rw [mk_size]; exact h⟩]; rfl
  · rw [← allz_iffL, allz_iff l]
    constructor
    · intro hh
      obtain ⟨b, hb1, hb2⟩ := tail_split l
      rcases hb2 with hb2 | hb2
      · exact hb2
      · apply Classical.byContradiction
        intro hne
        have hl : 0 < (trimR l).length := List.length_pos_iff.2 hne
        apply hb2
        have hmem : (trimR l)[(trimR l).length - 1]'(by omega) ∈ trimR l := List.getElem_mem _
        have := List.all_eq_true.1 hh _ hmem
        rw [List.getD_eq_getElem?_getD, List.getElem?_eq_getElem (by omega)]
        exact beq_iff_eq.1 this
    · intro hh; rw [hh]; rfl
theorem Up_same {D : List UInt8} (hs : D.length ≤ 140737488351232) (p : Int) (c : Bool) (n : Int) {k : Nat} (hk : 7000 ≤ k) : same (dec_Up.f k (mk D) p c n) (numeralref03_Up.f k (mk D) p c n) := by
  obtain ⟨k, rfl⟩ : ∃ j, k = j + 1 := ⟨k - 1, by omega⟩
  have e1 : dec_Up.j0 (k + 1) n true (mk D) p c = some ((⟨#[]⟩ : ByteArray), 0, false, some 1) := by rw [dec_Up.j0, if_pos rfl]
  have e2 : numeralref03_Up.j0 (k + 1) n true (mk D) p c = some ((⟨#[]⟩ : ByteArray), 0, false, 1) := by rw [numeralref03_Up.j0, if_pos rfl]
  unfold dec_Up.f numeralref03_Up.f
  rw [asked_eq hs p c n (by omega), Option.bind_some, Go.Proofs.YtpkfpgjacijjeaaDoor.XrLr.rValid_eq D hs p c (by omega), Option.bind_some]
  by_cases hv : validS D p c = true
  · obtain ⟨hg, h8, hp0, hp1⟩ := validS_good hv
    rw [if_pos hv, if_pos (show (0 : Int) = 0 from rfl)]
    by_cases h0 : n < 0
    · rw [if_neg (show ¬ (validS D p c = true ∧ 0 ≤ n ∧ n ≤ 800) from fun h => by omega), if_pos h0, if_neg (show ¬ ((some (1 : Int)).isNone = true) by decide), e1, e2]; exact same_err1
    · rw [if_neg h0]
      by_cases h1 : n > 800
      · rw [if_neg (show ¬ (validS D p c = true ∧ 0 ≤ n ∧ n ≤ 800) from fun h => by omega), if_pos h1, if_neg (show ¬ ((some (1 : Int)).isNone = true) by decide), e1, e2]; exact same_err1
      · rw [if_pos (show validS D p c = true ∧ 0 ≤ n ∧ n ≤ 800 from ⟨hv, by omega, by omega⟩), if_neg h1, if_pos (show (none : Option Int).isNone = true from rfl), mk_size]
        have hmain : same (dec_Up.j0 (k + 1) n false (mk D) p c) (numeralref03_Up.j0 (k + 1) n false (mk D) p c) := by
          obtain ⟨m, hm⟩ : ∃ m : Nat, min n (D.length : Int) = m := ⟨(min n (D.length : Int)).toNat, by omega⟩
          have hml : m ≤ D.length := by omega
          have sb := fun up => same_built hg h8 hp0 hp1 c up hml (k := k) (k' := k) (by omega) (by omega)
          have hx0 : (mk D).extract 0 ((m : Int)).toNat = mk (D.take m) := by rw [mk_extract, Int.toNat_natCast, List.drop_zero]
          have hx1 : (mk D).extract ((m : Int)).toNat D.length = mk (D.drop m) := by rw [mk_extract, Int.toNat_natCast, List.take_length]
          obtain ⟨t, ht1, ht2⟩ := Trim_eq (l := D.drop m) (by rw [List.length_drop]; omega)
          rw [dec_Up.j0, numeralref03_Up.j0, if_neg (show ¬ false = true by decide), if_neg (show ¬ false = true by decide), mk_size, mn_def, hm, hx0, hx1, ht1, Option.bind_some, mk_toList, if_pos (show (0 : Int) ≤ (m : Int) by omega), if_pos (show (m : Int) ≤ (D.length : Int) by omega)]
          by_cases hD : D = []
          · have hc : c = false := by
              unfold validS at hv
              rw [if_pos hD] at hv
              cases c
              · rfl
              · simp at hv
            have hp : p = 0 := by
              unfold validS at hv
              rw [if_pos hD] at hv
              simp only [Bool.and_eq_true, decide_eq_true_eq] at hv
              exact hv.1
            have ht : t = [] := ht2.2 (by rw [hD]; simp [allz])
            have hm0 : m = 0 := by rw [hD] at hml; simpa using hml
            subst hc; subst hD; subst hp; subst hm0
            rw [ht, if_neg (show ¬ false = true by decide), if_pos (show (([] : List UInt8).length : Int) = 0 from rfl), show (([] : List UInt8) != ([] : List UInt8)) = false from rfl, built_eq (good_take hg 0) (by simp) (by omega) (by omega) false (by omega), Option.bind_some]
            exact ⟨[], 0, false, none, rfl, rfl⟩
          · have hl0 : 0 < D.length := List.length_pos_iff.2 hD
            rw [if_neg (show ¬ ((D.length : Int) = 0) by omega)]
            cases hc : c with
            | true => subst hc; rw [if_pos rfl, if_pos rfl]; exact sb true
            | false =>
              subst hc
              rw [if_neg (show ¬ false = true by decide), if_neg (show ¬ false = true by decide)]
              try rw [if_pos (show (0 : Int) ≤ (m : Int) by omega), if_pos (show (m : Int) ≤ (D.length : Int) by omega)]
              by_cases hml2 : m < D.length
              · have hz : allz (D.drop m) = false := by
                  cases hq : allz (D.drop m) with
                  | false => rfl
                  | true =>
                    exfalso
                    by_cases hm0 : m = 0
                    · subst hm0
                      rw [List.drop_zero] at hq
                      exact hD ((good_trimR hg).1 ((allz_iff D).1 hq))
                    · have := last_zero hv (m := m - 1) (by omega) (by rw [show m - 1 + 1 = m by omega]; exact (allz_iff _).1 hq)
                      omega
                have htn : t ≠ [] := fun h => by rw [ht2.1 h] at hz; cases hz
                rw [show (t != ([] : List UInt8)) = true from bne_iff_ne.2 htn, decide_eq_true (by omega)]
                exact sb true
              · have htn : t = [] := ht2.2 (by rw [List.drop_eq_nil_of_le (by omega)]; rfl)
                rw [htn, show (([] : List UInt8) != ([] : List UInt8)) = false from rfl, decide_eq_false (by omega)]
                exact sb false
        cases hc : c with
        | true =>
          subst hc
          rw [if_pos rfl, if_pos rfl]
          by_cases hl : n > (D.length : Int)
          · rw [decide_eq_true hl, e1, e2]; exact same_err1
          · rw [decide_eq_false hl]; exact hmain
        | false =>
          subst hc
          rw [if_neg (show ¬ false = true by decide), if_neg (show ¬ false = true by decide)]; exact hmain
  · rw [if_neg (show ¬ (validS D p c = true ∧ 0 ≤ n ∧ n ≤ 800) from fun h => hv h.1), if_neg hv, if_neg (show ¬ ((some (1 : Int)).isNone = true) by decide), if_neg (show ¬ ((1 : Int) = 0) by decide), e1, e2]; exact same_err1
theorem DecRounds : numerallaw03_DecRounds.Pure := by
  intro b p c n hs wp wn
  have hDs : b.data.toList.length ≤ 140737488351232 := by rw [Array.length_toList]; exact hs
  rw [mk_of b]
  generalize b.data.toList = D at hDs
  refine ⟨7000, ?_⟩
  obtain ⟨s1, p1, c1, e1, a1, b1⟩ := Round_same hDs p c n (k := 7000) (by omega)
  obtain ⟨s2, p2, c2, e2, a2, b2⟩ := Down_same hDs p c n (k := 7000) (by omega)
  obtain ⟨s3, p3, c3, e3, a3, b3⟩ := Up_same hDs p c n (k := 7000) (by omega)
  unfold numerallaw03_DecRounds.f
  rw [a1, Option.bind_some, b1, Option.bind_some, a2, Option.bind_some, b2, Option.bind_some, a3, Option.bind_some, b3, Option.bind_some]
  dsimp only
  rw [if_pos (by simp), num3_eq, Option.bind_some, if_pos rfl, if_pos (by simp), num3_eq, Option.bind_some, if_pos rfl, if_pos (by simp), num3_eq, Option.bind_some, if_pos rfl, sure (by omega), Option.bind_some]
end Go.Proofs.YtpkfpgjacijjeaaDoor.Pure
