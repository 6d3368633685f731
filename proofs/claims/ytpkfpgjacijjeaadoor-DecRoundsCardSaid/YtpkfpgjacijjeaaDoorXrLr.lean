
/- Chapter 24: the reference's layouts, each as the program's row. -/
import Derived.Test.YtpkfpgjacijjeaaDoorXrLy
import Derived.Test.YtpkfpgjacijjeaaDoorXrx6
namespace Go.Proofs.YtpkfpgjacijjeaaDoor.XrLr
open Go.RowKit Go.Proofs.YtpkfpgjacijjeaaDoor.Xr Go.Proofs.YtpkfpgjacijjeaaDoorW.PrintWords Go.Proofs.YtpkfpgjacijjeaaDoorW.PrintLast Go.Proofs.YtpkfpgjacijjeaaDoorW.PrintMore Go.Proofs.YtpkfpgjacijjeaaDoor.XrLy
set_option linter.unusedVariables false
set_option linter.unusedSimpArgs false

/-! Exponents -/
theorem table (r : Nat) (h : r < 10) : ((⟨#[48, 49, 50, 51, 52, 53, 54, 55, 56, 57, 97, 98, 99, 100, 101, 102, 103, 104, 105, 106, 107, 108, 109, 110, 111, 112, 113, 114, 115, 116, 117, 118, 119, 120, 121, 122]⟩ : ByteArray).extract r (r + 1)) = mk [UInt8.ofNat (48 + r)] := by
  have : ∀ r : Fin 10, ((⟨#[48, 49, 50, 51, 52, 53, 54, 55, 56, 57, 97, 98, 99, 100, 101, 102, 103, 104, 105, 106, 107, 108, 109, 110, 111, 112, 113, 114, 115, 116, 117, 118, 119, 120, 121, 122]⟩ : ByteArray).extract r.val (r.val + 1)) = mk [UInt8.ofNat (48 + r.val)] := by decide +kernel
  exact this ⟨r, h⟩
theorem wrapu' {n : Int} (h0 : 0 ≤ n) (h1 : n < 18446744073709551616) : IntKind.u64.wrap n = n := by
  have : IntKind.u64.wrap n = n % 18446744073709551616 := by simp [IntKind.wrap, IntKind.signed, IntKind.bits]
  rw [this]; omega
/-! Is a number one -/
theorem digits_l0 (D : List UInt8) (hD : D.length ≤ 800) : ∀ (k i : Nat), i ≤ D.length → D.length - i < k → numeralref03_digits.l0 k (mk D) (i : Int) = some (digs (D.drop i))
  | 0, i, _, hk => by omega
  | k + 1, i, hi, hk => by
    rw [numeralref03_digits.l0, mk_size]
    by_cases h : i < D.length
    · rw [if_pos (by omega), if_pos (by omega), bt_mk, Int.toNat_natCast, digs_drop D h, wrapi_id (by omega) (by omega), show ((i : Int) + 1) = ((i + 1 : Nat) : Int) by omega, digits_l0 D hD k (i + 1) h (by omega)]
      generalize (D.getD i 0).toNat = v
      by_cases h1 : 48 ≤ v
      · by_cases h2 : v ≤ 57
        · rw [if_neg (by omega), if_neg (by omega)]; simp [h1, h2]
        · rw [if_neg (by omega), if_pos (by omega)]; simp [h1, h2]
      · rw [if_pos (by omega)]; simp [h1]
    · have e : D.drop i = [] := List.drop_eq_nil_of_le (by omega)
      rw [if_neg (by omega), e]; rfl
theorem rValid_eq (D : List UInt8) (hs : D.length ≤ 140737488351232) (p : Int) (c : Bool) {k : Nat} (hk : 900 ≤ k) : numeralref03_Valid.f k (mk D) p c = some (if validS D p c = true then 0 else 1) := by
  obtain ⟨k, rfl⟩ : ∃ j, k = j + 1 := ⟨k - 1, by omega⟩
  unfold numeralref03_Valid.f validS
  rw [mk_size]
  by_cases hn : D = []
  · subst hn
    rw [if_pos (show (([] : List UInt8).length : Int) = 0 from rfl), if_pos rfl]
    by_cases hp : p = 0
    · rw [if_pos hp, numeralref03_Valid.j0]; cases c <;> simp [hp]
    · rw [if_neg hp, numeralref03_Valid.j0]; simp [hp]
  · have hl : 0 < D.length := List.length_pos_iff.2 hn
    rw [if_neg (by omega), if_neg hn]
    by_cases h8 : D.length ≤ 800
    · have hdg : numeralref03_digits.f (k + 1) (mk D) = some (digs D) := by
        have := digits_l0 D h8 (k + 1) 0 (by omega) (by omega)
        rw [List.drop_zero] at this
        exact this
      rw [if_neg (by omega), hdg, Option.bind_some]
      cases hd : digs D with
      | false => rw [if_neg (show ¬ false = true by decide)]; simp
      | true =>
        rw [if_pos rfl, if_pos (by omega), bt_mk, bt_mk, show (0 : Int).toNat = 0 from rfl, wrapi_id (by omega) (by omega), show ((D.length : Int) - 1).toNat = D.length - 1 by omega, if_pos (by omega : (0 : Int) ≤ (D.length : Int) - 1), if_pos (by omega : (D.length : Int) - 1 < (D.length : Int))]
        simp only [b48]
        have hpp : (if p < (-1099511627776) then some (1 : Int) else (if p > 1099511627776 then some 1 else some 0)) = some (if (decide (-1099511627776 ≤ p) && decide (p ≤ 1099511627776)) = true then 0 else 1) := by
          by_cases hp : p < -1099511627776
          · rw [if_pos hp]; simp [show ¬ (-1099511627776 ≤ p) by omega]
          · rw [if_neg hp]
            by_cases hp2 : p > 1099511627776
            · rw [if_pos hp2]; simp [show ¬ (p ≤ 1099511627776) by omega]
            · rw [if_neg hp2]; simp [show (-1099511627776 ≤ p) by omega, show (p ≤ 1099511627776) by omega]
        rw [hpp]
        by_cases h0 : D.getD 0 0 = 48
        · rw [if_pos h0, decide_eq_true h0]; simp
        · rw [if_neg h0, decide_eq_false h0, decide_eq_true h8]
          by_cases h1 : D.getD (D.length - 1) 0 = 48
          · rw [if_pos h1, decide_eq_true h1]
            cases c with
            | true => rw [if_pos rfl]; simp
            | false => rw [if_neg (by decide)]; simp
          · rw [if_neg h1, decide_eq_false h1]; simp
    · rw [if_pos (by omega)]
      simp [h8]

/-! What is asked -/
/-! Rows -/
def dg (D : List UInt8) (i : Int) : UInt8 := if 0 ≤ i then D.getD i.toNat 48 else 48
def rowS (D : List UInt8) : Int → Nat → List UInt8
  | _, 0 => []
  | a, n + 1 => dg D a :: rowS D (a + 1) n
theorem rowS_add (D : List UInt8) : ∀ (m n : Nat) (a : Int), rowS D a (m + n) = rowS D a m ++ rowS D (a + m) n
  | 0, n, a => by simp [rowS]
  | m + 1, n, a => by
    rw [show m + 1 + n = (m + n) + 1 by omega, rowS, rowS, rowS_add D m n (a + 1), List.cons_append, show a + 1 + (m : Int) = a + ((m + 1 : Nat) : Int) by omega]
theorem rowS_high (D : List UInt8) : ∀ (n : Nat) (a : Int), (D.length : Int) ≤ a → rowS D a n = zs n
  | 0, a, _ => rfl
  | n + 1, a, h => by
    have e : dg D a = 48 := by
      unfold dg
      rw [if_pos (by omega), List.getD_eq_getElem?_getD, List.getElem?_eq_none (by omega)]; rfl
    rw [rowS, rowS_high D n (a + 1) (by omega), e]; rfl
theorem rowS_low (D : List UInt8) : ∀ (n : Nat) (a : Int), a + n ≤ 0 → rowS D a n = zs n
  | 0, a, _ => rfl
  | n + 1, a, h => by
    have e : dg D a = 48 := by unfold dg; rw [if_neg (by omega)]
    rw [rowS, rowS_low D n (a + 1) (by omega), e]; rfl
theorem rowS_in (D : List UInt8) : ∀ (n a : Nat), a + n ≤ D.length → rowS D (a : Int) n = (D.drop a).take n
  | 0, a, _ => by simp [rowS]
  | n + 1, a, h => by
    have hl : a < D.length := by omega
    have e : dg D (a : Int) = D[a] := by
      unfold dg
      rw [if_pos (by omega), Int.toNat_natCast, List.getD_eq_getElem?_getD, List.getElem?_eq_getElem hl]; rfl
    rw [rowS, show ((a : Int) + 1) = ((a + 1 : Nat) : Int) by omega, rowS_in D n (a + 1) (by omega), e, List.drop_eq_getElem_cons hl, List.take_succ_cons]
theorem rowS_all (D : List UInt8) : rowS D 0 D.length = D := by
  have := rowS_in D D.length 0 (by omega)
  rw [List.drop_zero, List.take_length] at this
  exact this
theorem rowS_len (D : List UInt8) : ∀ (n : Nat) (a : Int), (rowS D a n).length = n
  | 0, a => rfl
  | n + 1, a => by rw [rowS, List.length_cons, rowS_len D n]
theorem row_whole (D : List UInt8) {p : Int} (h : 0 < p) : rowS D 0 p.toNat = wholeS D p := by
  unfold wholeS
  rw [if_neg (by omega)]
  by_cases h2 : p.toNat ≤ D.length
  · have := rowS_in D p.toNat 0 (by omega)
    rw [show p.toNat - D.length = 0 by omega, zs_zero, List.append_nil]
    rw [List.drop_zero] at this
    exact this
  · rw [List.take_of_length_le (by omega), show p.toNat = D.length + (p.toNat - D.length) by omega, rowS_add, rowS_all, rowS_high D _ _ (by omega), show D.length + (p.toNat - D.length) - D.length = p.toNat - D.length by omega]
theorem row_part (D : List UInt8) {p : Int} {n : Nat} (hn : (D.length : Int) - p ≤ n) : rowS D p n = part0 D p ++ zs ((n : Int) - (part0 D p).length).toNat := by
  unfold part0
  by_cases h : p ≤ 0
  · rw [if_pos h]
    by_cases hD : D = []
    · subst hD
      rw [if_pos rfl, List.nil_append]
      have : ∀ (m : Nat) (a : Int), rowS [] a m = zs m := by
        intro m
        induction m with
        | zero => intro a; rfl
        | succ m ih =>
          intro a
          have e : dg [] a = 48 := by unfold dg; split <;> simp
          rw [rowS, ih, e]; rfl
      rw [this]
      congr 1
    · rw [if_neg hD, List.length_append, zs_len]
      obtain ⟨m, hm⟩ : ∃ m : Nat, n = (-p).toNat + (D.length + m) := ⟨n - (-p).toNat - D.length, by omega⟩
      rw [hm, rowS_add, rowS_add, rowS_low D _ p (by omega), show p + (((-p).toNat : Nat) : Int) = 0 by omega, rowS_all, rowS_high D m _ (by omega), List.append_assoc, show (((((-p).toNat + (D.length + m) : Nat) : Int) - (((-p).toNat + D.length : Nat) : Int)).toNat) = m by omega]
  · rw [if_neg h]
    by_cases h2 : (D.length : Int) ≤ p
    · rw [List.drop_eq_nil_of_le (by omega), rowS_high D n p h2, List.nil_append]
      congr 1
    · obtain ⟨m, hm⟩ : ∃ m : Nat, n = (D.length - p.toNat) + m := ⟨n - (D.length - p.toNat), by omega⟩
      have := rowS_in D (D.length - p.toNat) p.toNat (by omega)
      rw [show ((p.toNat : Nat) : Int) = p by omega, List.take_of_length_le (by rw [List.length_drop]; omega)] at this
      rw [hm, rowS_add, this, rowS_high D m _ (by omega), List.length_drop, show (((D.length - p.toNat + m : Nat) : Int) - ((D.length - p.toNat : Nat) : Int)).toNat = m by omega]
/-! The layouts -/
theorem mx_def (a b : Int) : mx a b = max a b := by unfold mx; omega
theorem part0_eq {D : List UInt8} {p : Int} (hv : D = [] → p = 0) : ((part0 D p).length : Int) = max 0 ((D.length : Int) - p) := by
  unfold part0
  by_cases h : p ≤ 0
  · rw [if_pos h]
    by_cases hD : D = []
    · rw [if_pos hD, hD, hv hD]; rfl
    · rw [if_neg hD, List.length_append, zs_len]; omega
  · rw [if_neg h, List.length_drop]; omega
theorem asksS_some {L prec e : Int} (h : (asksS L prec).2.2 = some e) : e = 8 ∨ e = 9 := by
  unfold asksS at h
  by_cases hL : isL L = true
  · rw [if_pos hL] at h
    by_cases hp : prec < -1 ∨ prec > 1100
    · rw [if_pos hp] at h; exact Or.inl (Option.some.inj h).symm
    · rw [if_neg hp] at h
      split at h
      · cases h
      · split at h
        · cases h
        · split at h <;> cases h
  · rw [if_neg hL] at h; exact Or.inr (Option.some.inj h).symm
theorem isL_or {L : Int} (h : isL L = true) : L = 101 ∨ L = 69 ∨ L = 102 ∨ L = 103 ∨ L = 71 := by
  unfold isL at h
  simp only [Bool.or_eq_true, beq_iff_eq] at h
  omega
/-- What must hold that a body may be laid. -/
def fits (D : List UInt8) (p L prec : Int) : Prop := 0 ≤ prec → (L = 101 ∨ L = 69 → (D.length : Int) ≤ prec + 1) ∧ (L = 102 → (D.length : Int) - p ≤ prec)
theorem fits_of {D : List UInt8} {p L prec : Int} (hp : 0 ≤ prec) (hL : isL L = true) (hA : (asksS L prec).2.2 = none) (h : manyS D p (asksS L prec).1 (asksS L prec).2.1 = false) : fits D p L prec := by
  have h1 := asksS_none hA
  unfold asksS at h
  rw [if_pos hL, if_neg (by omega), if_neg (by omega)] at h
  intro _
  refine ⟨fun he => ?_, fun he => ?_⟩
  · rw [if_neg (by omega), if_neg (by omega)] at h
    unfold manyS at h
    rw [if_neg (by omega), if_neg (show ¬ false = true by decide)] at h
    have := of_decide_eq_false h
    omega
  · rw [if_pos he] at h
    unfold manyS at h
    rw [if_neg (by omega), if_pos rfl] at h
    have := of_decide_eq_false h
    omega
end Go.Proofs.YtpkfpgjacijjeaaDoor.XrLr
