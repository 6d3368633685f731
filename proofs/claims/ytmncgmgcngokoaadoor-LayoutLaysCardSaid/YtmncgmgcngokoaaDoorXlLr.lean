
/- Chapter 24: the reference's layouts, each as the program's row. -/
import Derived.Test.YtmncgmgcngokoaaDoorXlLy
import Derived.Test.YtmncgmgcngokoaaDoorXlx10
import Derived.Test.YtmncgmgcngokoaaDoorXlx6
import Derived.Test.YtmncgmgcngokoaaDoorXlx7
import Derived.Test.YtmncgmgcngokoaaDoorXlx8
import Derived.Test.YtmncgmgcngokoaaDoorXlx9
namespace Go.Proofs.YtmncgmgcngokoaaDoor.XlLr
open Go.RowKit Go.Proofs.YtmncgmgcngokoaaDoor.Xl Go.Proofs.YtmncgmgcngokoaaDoorW.PrintWords Go.Proofs.YtmncgmgcngokoaaDoorW.PrintLast Go.Proofs.YtmncgmgcngokoaaDoorW.PrintMore Go.Proofs.YtmncgmgcngokoaaDoor.XlLy
set_option linter.unusedVariables false
set_option linter.unusedSimpArgs false

/-! Exponents -/
theorem table (r : Nat) (h : r < 10) : ((⟨#[48, 49, 50, 51, 52, 53, 54, 55, 56, 57, 97, 98, 99, 100, 101, 102, 103, 104, 105, 106, 107, 108, 109, 110, 111, 112, 113, 114, 115, 116, 117, 118, 119, 120, 121, 122]⟩ : ByteArray).extract r (r + 1)) = mk [UInt8.ofNat (48 + r)] := by
  have : ∀ r : Fin 10, ((⟨#[48, 49, 50, 51, 52, 53, 54, 55, 56, 57, 97, 98, 99, 100, 101, 102, 103, 104, 105, 106, 107, 108, 109, 110, 111, 112, 113, 114, 115, 116, 117, 118, 119, 120, 121, 122]⟩ : ByteArray).extract r.val (r.val + 1)) = mk [UInt8.ofNat (48 + r.val)] := by decide +kernel
  exact this ⟨r, h⟩
theorem wrapu' {n : Int} (h0 : 0 ≤ n) (h1 : n < 18446744073709551616) : IntKind.u64.wrap n = n := by
  have : IntKind.u64.wrap n = n % 18446744073709551616 := by simp [IntKind.wrap, IntKind.signed, IntKind.bits]
  rw [this]; omega
theorem Format_l0 : ∀ (k u : Nat), u < 18446744073709551616 → (Lib.decDigits u).length ≤ k → ∀ t : List UInt8, t.length + (Lib.decDigits u).length ≤ 1000 →
    numeralref07_Format.l0 k (u : Int) 10 (mk t) = some (mk (Lib.decDigits u ++ t), 0)
  | 0, u, _, hk, _, _ => by have := d1 u; omega
  | k + 1, u, hu, hk, t, ht => by
    have e10 : IntKind.u64.wrap 10 = 10 := rfl
    have em : Int.tmod (u : Int) 10 = ((u % 10 : Nat) : Int) := by rw [Int.tmod_eq_emod_of_nonneg (by omega)]; omega
    have ed : Int.tdiv (u : Int) 10 = ((u / 10 : Nat) : Int) := by rw [Int.tdiv_eq_ediv_of_nonneg (by omega)]; omega
    have ew : IntKind.u64.wrap (((u % 10 : Nat) : Int) + 1) = ((u % 10 + 1 : Nat) : Int) := by rw [wrapu' (by omega) (by omega)]; omega
    have ew2 : IntKind.u64.wrap ((u / 10 : Nat) : Int) = ((u / 10 : Nat) : Int) := wrapu' (by omega) (by omega)
    rw [numeralref07_Format.l0, e10, if_neg (by decide), em, ed, ew, ew2, if_pos (by omega), if_pos (by omega), if_pos (by omega), Int.toNat_natCast, Int.toNat_natCast, table _ (by omega), mk_size, mk_size, if_pos (by have := d1 u; simp only [List.length_cons, List.length_nil]; omega), mk_append]
    by_cases h2 : u < 10
    · have ez : Lib.decDigits u = [UInt8.ofNat (48 + u)] := by rw [Lib.decDigits, dif_pos h2]
      rw [if_pos (by omega), ez, show u % 10 = u by omega]
    · have ez : Lib.decDigits u = Lib.decDigits (u / 10) ++ [UInt8.ofNat (48 + u % 10)] := by rw [Lib.decDigits, dif_neg h2]
      have el : (Lib.decDigits u).length = (Lib.decDigits (u / 10)).length + 1 := by rw [ez]; simp
      rw [if_neg (by omega), Format_l0 k (u / 10) (by omega) (by omega) _ (by simp only [List.length_append, List.length_cons, List.length_nil]; omega), ez, List.append_assoc]
theorem Format_eq (k : Nat) {u : Nat} (hu : u < 18446744073709551616) (hk : 20 ≤ k) : numeralref07_Format.f k (u : Int) 10 = some (mk (Lib.decDigits u), 0) := by
  have := d20 hu
  unfold numeralref07_Format.f
  rw [show numeralref07_Base.f 10 = some true from rfl, Option.bind_some, if_pos rfl, show (⟨#[]⟩ : ByteArray) = mk [] from rfl, Format_l0 k u hu (by omega) [] (by simp only [List.length_nil]; omega), List.append_nil]
theorem Pad_l0 (k : Nat) {l : List UInt8} (h1 : 1 ≤ l.length) (h2 : l.length ≤ 20) : numeralref07_Pad.l0 (k + 2) 2 (mk l) = some (mk (pad2 l), 0) := by
  unfold pad2
  by_cases h : l.length < 2
  · rw [numeralref07_Pad.l0, mk_size, if_pos (by omega), if_pos (by omega), if_pos h, show (⟨#[48]⟩ : ByteArray) = mk [48] from rfl, mk_append, numeralref07_Pad.l0, mk_size, if_neg (by simp only [List.length_append, List.length_cons, List.length_nil]; omega)]
    rfl
  · rw [numeralref07_Pad.l0, mk_size, if_neg (by omega), if_neg h]
theorem Pad_eq (k : Nat) {u : Nat} (hu : u < 18446744073709551616) (hk : 20 ≤ k) : numeralref07_Pad.f k (u : Int) 10 2 = some (mk (pad2 (Lib.decDigits u)), 0) := by
  obtain ⟨k, rfl⟩ : ∃ j, k = j + 3 := ⟨k - 3, by omega⟩
  unfold numeralref07_Pad.f
  rw [Format_eq _ hu hk, Option.bind_some, if_pos rfl, if_neg (by decide), numeralref07_Pad.j0, if_neg (by decide), Pad_l0 _ (d1 u) (d20 hu)]
theorem Abs_eq {a : Int} (h0 : -9223372036854775808 ≤ a) (h1 : a < 9223372036854775808) : numeralref08_Abs.f a = some ((a.natAbs : Nat) : Int) := by
  have wu : ∀ n : Int, IntKind.u64.wrap n = n % 18446744073709551616 := fun n => by simp [IntKind.wrap, IntKind.signed, IntKind.bits]
  unfold numeralref08_Abs.f
  by_cases hn : a < 0
  · rw [if_pos hn, wu, wu]; congr 1; omega
  · rw [if_neg hn, wu]; congr 1; omega
theorem rExponent_j0 (k : Nat) (hk : 20 ≤ k) {a : Int} (h0 : -9223372036854775808 ≤ a) (h1 : a < 9223372036854775808) (y : UInt8) :
    numeralref24_Exponent.j0 (k + 1) a (mk [y]) = some (mk (y :: (if a < 0 then 45 else 43) :: pad2 (Lib.decDigits a.natAbs))) := by
  have hl := pad2_len (d20 (u := a.natAbs) (by omega))
  have hs : (mk [y]).size = 1 := rfl
  rw [numeralref24_Exponent.j0, Abs_eq h0 h1, hs, Option.bind_some, Option.bind_some, Pad_eq k (by omega) hk, Option.bind_some, Option.bind_some]
  simp only [mk_size]
  by_cases hn : a < 0
  · rw [if_pos hn, if_pos hn, if_pos (by decide), if_pos (by omega), show (⟨#[45]⟩ : ByteArray) = mk [45] from rfl, mk_append, mk_append]
    rfl
  · rw [if_neg hn, if_neg hn, if_pos (by decide), if_pos (by omega), show (⟨#[43]⟩ : ByteArray) = mk [43] from rfl, mk_append, mk_append]
    rfl
theorem rExponent_eq (k : Nat) (hk : 20 ≤ k) {a : Int} (h0 : -9223372036854775808 ≤ a) (h1 : a < 9223372036854775808) (c : Bool) : numeralref24_Exponent.f (k + 1) a c = some (mk (expo a c)) := by
  unfold numeralref24_Exponent.f expo
  cases c with
  | true => rw [if_pos rfl]; exact rExponent_j0 k hk h0 h1 69
  | false => rw [if_neg (by decide)]; exact rExponent_j0 k hk h0 h1 101

/-! Is a number one -/
theorem digits_l0 (D : List UInt8) (hD : D.length ≤ 800) : ∀ (k i : Nat), i ≤ D.length → D.length - i < k → numeralref03_digits.l0 k (mk D) (i : Int) = some (digs (D.drop i))
  | 0, i, _, hk => by omega
  | k + 1, i, hi, hk => by
    rw [numeralref03_digits.l0, mk_size]
    by_cases h : i < D.length
    · rw [if_pos (by omega), if_pos (by omega), bt_mk, Int.toNat_natCast, digs_drop D h, wrapi_id (by omega) (by omega), show ((i : Int) + 1) = ((i + 1 : Nat) : Int) by omega, digits_l0 D hD k (i + 1) h (by omega)]
      generalize (D.getD i 0).toNat = v
      by_cases h1 : 48 ≤ v
      · by_cases h2 : v ≤ 57
        · rw [if_neg (by omega), if_neg (by omega)]; simp [h1, h2]
        · rw [if_neg (by omega), if_pos (by omega)]; simp [h1, h2]
      · rw [if_pos (by omega)]; simp [h1]
    · have e : D.drop i = [] := List.drop_eq_nil_of_le (by omega)
      rw [if_neg (by omega), e]; rfl
theorem rValid_eq (D : List UInt8) (hs : D.length ≤ 140737488351232) (p : Int) (c : Bool) {k : Nat} (hk : 900 ≤ k) : numeralref03_Valid.f k (mk D) p c = some (if validS D p c = true then 0 else 1) := by
  obtain ⟨k, rfl⟩ : ∃ j, k = j + 1 := ⟨k - 1, by omega⟩
  unfold numeralref03_Valid.f validS
  rw [mk_size]
  by_cases hn : D = []
  · subst hn
    rw [if_pos (show (([] : List UInt8).length : Int) = 0 from rfl), if_pos rfl]
    by_cases hp : p = 0
    · rw [if_pos hp, numeralref03_Valid.j0]; cases c <;> simp [hp]
    · rw [if_neg hp, numeralref03_Valid.j0]; simp [hp]
  · have hl : 0 < D.length := List.length_pos_iff.2 hn
    rw [if_neg (by omega), if_neg hn]
    by_cases h8 : D.length ≤ 800
    · have hdg : numeralref03_digits.f (k + 1) (mk D) = some (digs D) := by
        have := digits_l0 D h8 (k + 1) 0 (by omega) (by omega)
        rw [List.drop_zero] at this
        exact this
      rw [if_neg (by omega), hdg, Option.bind_some]
      cases hd : digs D with
      | false => rw [if_neg (show ¬ false = true by decide)]; simp
      | true =>
        rw [if_pos rfl, if_pos (by omega), bt_mk, bt_mk, show (0 : Int).toNat = 0 from rfl, wrapi_id (by omega) (by omega), show ((D.length : Int) - 1).toNat = D.length - 1 by omega, if_pos (by omega : (0 : Int) ≤ (D.length : Int) - 1), if_pos (by omega : (D.length : Int) - 1 < (D.length : Int))]
        simp only [b48]
        have hpp : (if p < (-1099511627776) then some (1 : Int) else (if p > 1099511627776 then some 1 else some 0)) = some (if (decide (-1099511627776 ≤ p) && decide (p ≤ 1099511627776)) = true then 0 else 1) := by
          by_cases hp : p < -1099511627776
          · rw [if_pos hp]; simp [show ¬ (-1099511627776 ≤ p) by omega]
          · rw [if_neg hp]
            by_cases hp2 : p > 1099511627776
            · rw [if_pos hp2]; simp [show ¬ (p ≤ 1099511627776) by omega]
            · rw [if_neg hp2]; simp [show (-1099511627776 ≤ p) by omega, show (p ≤ 1099511627776) by omega]
        rw [hpp]
        by_cases h0 : D.getD 0 0 = 48
        · rw [if_pos h0, decide_eq_true h0]; simp
        · rw [if_neg h0, decide_eq_false h0, decide_eq_true h8]
          by_cases h1 : D.getD (D.length - 1) 0 = 48
          · rw [if_pos h1, decide_eq_true h1]
            cases c with
            | true => rw [if_pos rfl]; simp
            | false => rw [if_neg (by decide)]; simp
          · rw [if_neg h1, decide_eq_false h1]; simp
    · rw [if_pos (by omega)]
      simp [h8]

/-! What is asked -/
theorem rIs_eq (L : Int) : numeralref24_Is.f L = some (isL L) := by
  unfold numeralref24_Is.f isL
  by_cases h1 : L = 101
  · rw [if_pos h1]; simp [h1]
  · rw [if_neg h1]
    by_cases h2 : L = 69
    · rw [if_pos h2]; simp [h2]
    · rw [if_neg h2]
      by_cases h3 : L = 102
      · rw [if_pos h3]; simp [h3]
      · rw [if_neg h3]
        by_cases h4 : L = 103
        · rw [if_pos h4]; simp [h4]
        · rw [if_neg h4]
          by_cases h5 : L = 71
          · rw [if_pos h5]; simp [h5]
          · rw [if_neg h5]; simp [h1, h2, h3, h4, h5]
theorem rAsks_eq (k : Nat) (L prec : Int) : numeralref24_Asks.f (k + 1) L prec = some ((asksS L prec).1, (asksS L prec).2.1, (asksS L prec).2.2.getD 0) := by
  unfold numeralref24_Asks.f asksS
  rw [rIs_eq, Option.bind_some]
  have hj1 : numeralref24_Asks.j0 (k + 1) L prec true = some (0, false, 8) := by rw [numeralref24_Asks.j0, if_pos rfl]
  cases hL : isL L with
  | false => rw [if_neg (show ¬ false = true by decide), if_neg (show ¬ false = true by decide)]; rfl
  | true =>
    rw [if_pos rfl, if_pos rfl]
    by_cases hp : prec < -1
    · rw [if_pos hp, if_pos (Or.inl hp), hj1]; rfl
    · rw [if_neg hp]
      by_cases hp2 : prec > 1100
      · rw [if_pos (Or.inr hp2), decide_eq_true hp2, hj1]; rfl
      · rw [if_neg (show ¬ (prec < -1 ∨ prec > 1100) by omega), decide_eq_false hp2, numeralref24_Asks.j0, if_neg (by decide)]
        by_cases hp3 : prec < 0
        · rw [if_pos hp3, if_pos hp3]; rfl
        · rw [if_neg hp3, if_neg hp3]
          by_cases hf : L = 102
          · rw [if_pos hf, if_pos hf]; rfl
          · rw [if_neg hf, if_neg hf, wrapi_id (by omega) (by omega)]
            have hor : L = 101 ∨ L = 69 ∨ L = 103 ∨ L = 71 := by
              unfold isL at hL
              simp only [Bool.or_eq_true, beq_iff_eq] at hL
              omega
            rcases hor with h | h | h | h
            · rw [if_pos h, if_neg (show ¬ (L = 103 ∨ L = 71) by omega)]; rfl
            · rw [if_neg (show ¬ L = 101 by omega), if_pos h, if_neg (show ¬ (L = 103 ∨ L = 71) by omega)]; rfl
            · rw [if_neg (show ¬ L = 101 by omega), if_neg (show ¬ L = 69 by omega), if_pos (Or.inl h)]; rfl
            · rw [if_neg (show ¬ L = 101 by omega), if_neg (show ¬ L = 69 by omega), if_pos (Or.inr h)]; rfl

/-! Rows -/
def dg (D : List UInt8) (i : Int) : UInt8 := if 0 ≤ i then D.getD i.toNat 48 else 48
def rowS (D : List UInt8) : Int → Nat → List UInt8
  | _, 0 => []
  | a, n + 1 => dg D a :: rowS D (a + 1) n
theorem rowS_add (D : List UInt8) : ∀ (m n : Nat) (a : Int), rowS D a (m + n) = rowS D a m ++ rowS D (a + m) n
  | 0, n, a => by simp [rowS]
  | m + 1, n, a => by
    rw [show m + 1 + n = (m + n) + 1 by omega, rowS, rowS, rowS_add D m n (a + 1), List.cons_append, show a + 1 + (m : Int) = a + ((m + 1 : Nat) : Int) by omega]
theorem rowS_high (D : List UInt8) : ∀ (n : Nat) (a : Int), (D.length : Int) ≤ a → rowS D a n = zs n
  | 0, a, _ => rfl
  | n + 1, a, h => by
    have e : dg D a = 48 := by
      unfold dg
      rw [if_pos (by omega), List.getD_eq_getElem?_getD, List.getElem?_eq_none (by omega)]; rfl
    rw [rowS, rowS_high D n (a + 1) (by omega), e]; rfl
theorem rowS_low (D : List UInt8) : ∀ (n : Nat) (a : Int), a + n ≤ 0 → rowS D a n = zs n
  | 0, a, _ => rfl
  | n + 1, a, h => by
    have e : dg D a = 48 := by unfold dg; rw [if_neg (by omega)]
    rw [rowS, rowS_low D n (a + 1) (by omega), e]; rfl
theorem rowS_in (D : List UInt8) : ∀ (n a : Nat), a + n ≤ D.length → rowS D (a : Int) n = (D.drop a).take n
  | 0, a, _ => by simp [rowS]
  | n + 1, a, h => by
    have hl : a < D.length := by omega
    have e : dg D (a : Int) = D[a] := by
      unfold dg
      rw [if_pos (by omega), Int.toNat_natCast, List.getD_eq_getElem?_getD, List.getElem?_eq_getElem hl]; rfl
    rw [rowS, show ((a : Int) + 1) = ((a + 1 : Nat) : Int) by omega, rowS_in D n (a + 1) (by omega), e, List.drop_eq_getElem_cons hl, List.take_succ_cons]
theorem rowS_all (D : List UInt8) : rowS D 0 D.length = D := by
  have := rowS_in D D.length 0 (by omega)
  rw [List.drop_zero, List.take_length] at this
  exact this
theorem rowS_len (D : List UInt8) : ∀ (n : Nat) (a : Int), (rowS D a n).length = n
  | 0, a => rfl
  | n + 1, a => by rw [rowS, List.length_cons, rowS_len D n]
theorem row_whole (D : List UInt8) {p : Int} (h : 0 < p) : rowS D 0 p.toNat = wholeS D p := by
  unfold wholeS
  rw [if_neg (by omega)]
  by_cases h2 : p.toNat ≤ D.length
  · have := rowS_in D p.toNat 0 (by omega)
    rw [show p.toNat - D.length = 0 by omega, zs_zero, List.append_nil]
    rw [List.drop_zero] at this
    exact this
  · rw [List.take_of_length_le (by omega), show p.toNat = D.length + (p.toNat - D.length) by omega, rowS_add, rowS_all, rowS_high D _ _ (by omega), show D.length + (p.toNat - D.length) - D.length = p.toNat - D.length by omega]
theorem row_part (D : List UInt8) {p : Int} {n : Nat} (hn : (D.length : Int) - p ≤ n) : rowS D p n = part0 D p ++ zs ((n : Int) - (part0 D p).length).toNat := by
  unfold part0
  by_cases h : p ≤ 0
  · rw [if_pos h]
    by_cases hD : D = []
    · subst hD
      rw [if_pos rfl, List.nil_append]
      have : ∀ (m : Nat) (a : Int), rowS [] a m = zs m := by
        intro m
        induction m with
        | zero => intro a; rfl
        | succ m ih =>
          intro a
          have e : dg [] a = 48 := by unfold dg; split <;> simp
          rw [rowS, ih, e]; rfl
      rw [this]
      congr 1
    · rw [if_neg hD, List.length_append, zs_len]
      obtain ⟨m, hm⟩ : ∃ m : Nat, n = (-p).toNat + (D.length + m) := ⟨n - (-p).toNat - D.length, by omega⟩
      rw [hm, rowS_add, rowS_add, rowS_low D _ p (by omega), show p + (((-p).toNat : Nat) : Int) = 0 by omega, rowS_all, rowS_high D m _ (by omega), List.append_assoc, show (((((-p).toNat + (D.length + m) : Nat) : Int) - (((-p).toNat + D.length : Nat) : Int)).toNat) = m by omega]
  · rw [if_neg h]
    by_cases h2 : (D.length : Int) ≤ p
    · rw [List.drop_eq_nil_of_le (by omega), rowS_high D n p h2, List.nil_append]
      congr 1
    · obtain ⟨m, hm⟩ : ∃ m : Nat, n = (D.length - p.toNat) + m := ⟨n - (D.length - p.toNat), by omega⟩
      have := rowS_in D (D.length - p.toNat) p.toNat (by omega)
      rw [show ((p.toNat : Nat) : Int) = p by omega, List.take_of_length_le (by rw [List.length_drop]; omega)] at this
      rw [hm, rowS_add, this, rowS_high D m _ (by omega), List.length_drop, show (((D.length - p.toNat + m : Nat) : Int) - ((D.length - p.toNat : Nat) : Int)).toNat = m by omega]
theorem row_l0 (D : List UInt8) (p0 : Int) (c : Bool) (hD : D.length ≤ 800) : ∀ (n k : Nat), n < k → ∀ (a : Int) (b : Int), b = a + n → -100000 ≤ a → b ≤ 100000 → ∀ x : List UInt8, x.length + n ≤ 100000 →
    ∀ ys : List Int, ys = x.map (fun z => (z.toNat : Int)) → numeralref24_row.l0 k b ys a (mk D) p0 c = some (mk (x ++ rowS D a n))
  | 0, k + 1, _, a, b, hb, _, _, x, _, ys, hy => by
    rw [numeralref24_row.l0, if_neg (by omega), hy, rowS, List.append_nil]
    unfold strOfNums mk
    rw [List.map_map]
    have : (x.map ((fun n : Int => UInt8.ofNat n.toNat) ∘ fun z => (z.toNat : Int))) = x := by
      rw [List.map_congr_left (g := id) (fun b _ => by simp)]
      exact List.map_id x
    rw [this]
  | n + 1, k + 1, hk, a, b, hb, ha, hb2, x, hx, ys, hy => by
    have hyl : ys.length = x.length := by rw [hy, List.length_map]
    rw [numeralref24_row.l0, if_pos (by omega), if_pos (show ys.length < 140737488355328 by omega), mk_size]
    rw [if_pos (show ys.length < 140737488355328 by omega), wrapi_id (by omega) (by omega), rowS]
    have step : ∀ q : UInt8, dg D a = q → numeralref24_row.l0 k b (ys ++ [(q.toNat : Int)]) (a + 1) (mk D) p0 c = some (mk (x ++ dg D a :: rowS D (a + 1) n)) := fun q hq => by
      rw [row_l0 D p0 c hD n k (by omega) (a + 1) b (by omega) (by omega) hb2 (x ++ [q]) (by rw [List.length_append]; simp; omega) _ (by rw [hy, List.map_append]; rfl), hq, List.append_assoc]; rfl
    by_cases h0 : a ≥ 0
    · rw [if_pos h0]
      by_cases h1 : a < (D.length : Int)
      · rw [if_pos h1, if_pos h0, bt_mk]
        have e : dg D a = D.getD a.toNat 0 := by
          unfold dg
          rw [if_pos h0, List.getD_eq_getElem?_getD, List.getD_eq_getElem?_getD, List.getElem?_eq_getElem (by omega : a.toNat < D.length)]; rfl
        exact step _ e
      · rw [if_neg h1]
        have e : dg D a = 48 := by
          unfold dg
          rw [if_pos h0, List.getD_eq_getElem?_getD, List.getElem?_eq_none (by omega)]; rfl
        exact step 48 e
    · rw [if_neg h0]
      have e : dg D a = 48 := by unfold dg; rw [if_neg (by omega)]
      exact step 48 e
theorem row_eq (D : List UInt8) (hD : D.length ≤ 800) (p0 : Int) (c : Bool) {k : Nat} (a : Int) (n : Nat) (hn : n ≤ 3000) (hk : 3000 < k) (ha : -2000 ≤ a) (ha2 : a ≤ 2000) : numeralref24_row.f k (mk D) p0 c a (a + n) = some (mk (rowS D a n)) := by
  unfold numeralref24_row.f
  rw [row_l0 D p0 c hD n k (by omega) a (a + n) rfl (by omega) (by omega) [] (by simp; omega) [] rfl]; rfl
theorem point_eq (l : List UInt8) (h : l.length ≤ 100000) : numeralref24_point.f (mk l) = some (mk (pointS l)) := by
  unfold numeralref24_point.f pointS
  rw [mk_toList, mk_size]
  by_cases hl : l = []
  · rw [if_pos hl, if_pos hl]; rfl
  · rw [if_neg hl, if_neg hl, if_pos (by omega), show (⟨#[46]⟩ : ByteArray) = mk [46] from rfl, mk_append]; rfl

/-! The layouts -/
theorem mx_def (a b : Int) : mx a b = max a b := by unfold mx; omega
theorem rplain_j0 (k : Nat) (hk : 3000 < k) (D : List UInt8) (hD : D.length ≤ 800) {p : Int} (n : Nat) (hn : n ≤ 3000) (hp0 : -1200 ≤ p) (hp1 : p ≤ 400) (hb : (D.length : Int) - p ≤ n) (c : Bool) :
    numeralref24_plain.j0 (k + 1) (n : Int) (mk D) p c = some (mk (wholeS D p ++ pointS (part0 D p ++ zs ((n : Int) - (part0 D p).length).toNat))) := by
  have hr := row_eq D hD p c (k := k) p n hn hk (by omega) (by omega)
  rw [row_part D hb] at hr
  have hl : (part0 D p ++ zs ((n : Int) - (part0 D p).length).toNat).length = n := by rw [← row_part D hb, rowS_len]
  have hq := pointS_len (part0 D p ++ zs ((n : Int) - (part0 D p).length).toNat)
  have hw := wholeS_len D p
  have hr' : numeralref24_row.f k (mk D) p c p (wrap64 (p + n)) = some (mk (part0 D p ++ zs ((n : Int) - (part0 D p).length).toNat)) := by rw [wrapi_id (by omega) (by omega)]; exact hr
  have hpt := point_eq (part0 D p ++ zs ((n : Int) - (part0 D p).length).toNat) (by omega)
  rw [numeralref24_plain.j0]
  by_cases h : p > 0
  · have hr2 := row_eq D hD p c (k := k) 0 p.toNat (by omega) hk (by omega) (by omega)
    rw [show (0 : Int) + (p.toNat : Int) = p by omega, row_whole D h] at hr2
    rw [if_pos h, hr2, Option.bind_some, hr', Option.bind_some, hpt, Option.bind_some, mk_size, mk_size, if_pos (by omega), mk_append]
  · have e : wholeS D p = [48] := by unfold wholeS; rw [if_pos (by omega)]
    rw [if_neg h, hr', Option.bind_some, hpt, Option.bind_some, mk_size, if_pos (by omega), e, show (⟨#[48]⟩ : ByteArray) = mk [48] from rfl, mk_append]
theorem part0_eq {D : List UInt8} {p : Int} (hv : D = [] → p = 0) : ((part0 D p).length : Int) = max 0 ((D.length : Int) - p) := by
  unfold part0
  by_cases h : p ≤ 0
  · rw [if_pos h]
    by_cases hD : D = []
    · rw [if_pos hD, hD, hv hD]; rfl
    · rw [if_neg hD, List.length_append, zs_len]; omega
  · rw [if_neg h, List.length_drop]; omega
theorem rplain_eq (k : Nat) (hk : 3000 < k) (D : List UInt8) (hD : D.length ≤ 800) {p prec : Int} (hv : D = [] → p = 0) (hp0 : -1200 ≤ p) (hp1 : p ≤ 400) (h0 : -1 ≤ prec) (h1 : prec ≤ 1100) (hb : 0 ≤ prec → (D.length : Int) - p ≤ prec) (c : Bool) :
    numeralref24_plain.f (k + 1) (mk D) p c prec = some (mk (plainS D p prec)) := by
  have a := part0_eq hv
  unfold numeralref24_plain.f plainS
  rw [mk_size, wrapi_id (by omega) (by omega), mx_def]
  by_cases h : prec < 0
  · rw [if_pos h]
    obtain ⟨n, hn⟩ : ∃ n : Nat, max 0 ((D.length : Int) - p) = n := ⟨(max 0 ((D.length : Int) - p)).toNat, by omega⟩
    rw [hn, rplain_j0 k hk D hD n (by omega) hp0 hp1 (by omega), show ((n : Int) - (part0 D p).length).toNat = (prec - (part0 D p).length).toNat by omega]
  · rw [if_neg h]
    obtain ⟨n, hn⟩ : ∃ n : Nat, prec = n := ⟨prec.toNat, by omega⟩
    rw [hn, rplain_j0 k hk D hD n (by omega) hp0 hp1 (by omega)]
theorem rsci_j1 (k : Nat) (hk : 3000 < k) (D : List UInt8) (hD : D.length ≤ 800) (p : Int) (n : Nat) (hn : n ≤ 3000) (hb : (D.length : Int) - 1 ≤ n) {e : Int} (he0 : -100000 ≤ e) (he1 : e ≤ 100000) (c cu : Bool) :
    numeralref24_sci.j1 (k + 2) c (n : Int) e (mk D) p cu = some (mk (D.headD 48 :: (pointS (D.tail ++ zs ((n : Int) - D.tail.length).toNat) ++ expo e c))) := by
  have hx := row_eq D hD p cu (k := k + 1) 0 1 (by omega) (by omega) (by omega) (by omega)
  have hr := row_eq D hD p cu (k := k + 1) 1 n hn (by omega) (by omega) (by omega)
  have e1 : rowS D 0 1 = [D.headD 48] := by
    unfold rowS rowS dg
    cases D <;> rfl
  have e2 : part0 D 1 = D.tail := by unfold part0; rw [if_neg (by decide)]; cases D <;> rfl
  have hl : (rowS D 1 n).length = n := rowS_len D n 1
  rw [row_part D hb, e2] at hr hl
  rw [e1] at hx
  have hpt := point_eq (D.tail ++ zs ((n : Int) - D.tail.length).toNat) (by omega)
  have hpl := pointS_len (D.tail ++ zs ((n : Int) - D.tail.length).toNat)
  have hel := expo_len (a := e) (by omega) (by omega) c
  rw [numeralref24_sci.j1, wrapi_id (by omega) (by omega), show (1 : Int) = 0 + ((1 : Nat) : Int) by omega, hx, Option.bind_some, show (0 : Int) + ((1 : Nat) : Int) = 1 by omega, hr, Option.bind_some, hpt, Option.bind_some, mk_size, mk_size, if_pos (by simp only [List.length_cons, List.length_nil]; omega), rExponent_eq k (by omega) (by omega) (by omega), Option.bind_some, mk_size, if_pos (by simp only [List.length_cons, List.length_nil]; omega), mk_append, mk_append]
  simp
theorem rsci_eq (k : Nat) (hk : 3000 < k) (D : List UInt8) (hD : D.length ≤ 800) {p prec : Int} (hp0 : -1200 ≤ p) (hp1 : p ≤ 400) (h0 : -1 ≤ prec) (h1 : prec ≤ 1100) (hb : 0 ≤ prec → (D.length : Int) ≤ prec + 1) (c cu : Bool) :
    numeralref24_sci.f (k + 3) (mk D) p cu prec c = some (mk (sciS D p prec c)) := by
  have hj : ∀ n : Nat, n ≤ 3000 → (D.length : Int) - 1 ≤ n → (zs ((n : Int) - D.tail.length).toNat = zs (prec - D.tail.length).toNat) → numeralref24_sci.j0 (k + 3) c (n : Int) (mk D) p cu = some (mk (sciS D p prec c)) := fun n hn hnb hz => by
    unfold sciS
    rw [numeralref24_sci.j0, mk_toList]
    by_cases hd : D = []
    · rw [if_pos hd, if_pos hd, rsci_j1 k hk D hD p n hn hnb (by omega) (by omega), hz]
    · rw [if_neg hd, if_neg hd, wrapi_id (by omega) (by omega), rsci_j1 k hk D hD p n hn hnb (by omega) (by omega), hz]
  have ht : (D.tail.length : Int) = max 0 ((D.length : Int) - 1) := by rw [List.length_tail]; omega
  unfold numeralref24_sci.f
  rw [mk_size, wrapi_id (by omega) (by omega), mx_def, mx_def]
  by_cases h : prec < 0
  · rw [if_pos h]
    obtain ⟨n, hn⟩ : ∃ n : Nat, max 0 ((D.length : Int) - 1) = n := ⟨(max 0 ((D.length : Int) - 1)).toNat, by omega⟩
    rw [hn]
    exact hj n (by omega) (by omega) (by rw [show ((n : Int) - D.tail.length).toNat = (prec - D.tail.length).toNat by omega])
  · rw [if_neg h]
    obtain ⟨n, hn⟩ : ∃ n : Nat, max prec 0 = n := ⟨prec.toNat, by omega⟩
    rw [hn]
    exact hj n (by omega) (by omega) (by rw [show (n : Int) = prec by omega])
theorem rgeneral_eq (k : Nat) (hk : 3000 < k) (D : List UInt8) (hD : D.length ≤ 800) {p prec : Int} (hv : D = [] → p = 0) (hp0 : -1200 ≤ p) (hp1 : p ≤ 400) (h0 : -1 ≤ prec) (h1 : prec ≤ 1100) (c cu : Bool) :
    numeralref24_general.f (k + 5) (mk D) p cu prec c = some (mk (generalS D p prec c)) := by
  have hj1 : ∀ b, numeralref24_general.j1 (k + 4) c b (mk D) p cu = some (mk (if b = true then sciS D p (-1) c else plainS D p (-1))) := fun b => by
    rw [numeralref24_general.j1]
    cases b with
    | true => rw [if_pos rfl, if_pos rfl, rsci_eq k hk D hD hp0 hp1 (by omega) (by omega) (by omega), Option.bind_some]
    | false => rw [if_neg (show ¬ false = true by decide), if_neg (show ¬ false = true by decide), rplain_eq (k + 2) (by omega) D hD hv hp0 hp1 (by omega) (by omega) (by omega), Option.bind_some]
  have hj0 : ∀ l : Int, numeralref24_general.j0 (k + 5) c (D.length : Int) l (mk D) p cu = some (mk (if D ≠ [] ∧ (p - 1 < -4 ∨ p - 1 ≥ l) then sciS D p (-1) c else plainS D p (-1))) := fun l => by
    rw [numeralref24_general.j0, wrapi_id (by omega) (by omega), hj1, hj1, hj1]
    by_cases hn : D = []
    · rw [if_neg (show ¬ ((D.length : Int) > 0) by rw [hn]; simp), if_neg (show ¬ false = true by decide), if_neg (show ¬ (D ≠ [] ∧ (p - 1 < -4 ∨ p - 1 ≥ l)) from fun h => h.1 hn)]
    · have : 0 < D.length := List.length_pos_iff.2 hn
      rw [if_pos (show (D.length : Int) > 0 by omega)]
      by_cases hp : p - 1 < -4
      · rw [if_pos hp, if_pos rfl, if_pos (show D ≠ [] ∧ (p - 1 < -4 ∨ p - 1 ≥ l) from ⟨hn, Or.inl hp⟩)]
      · rw [if_neg hp]
        by_cases hq : p - 1 ≥ l
        · rw [if_pos (decide_eq_true hq), if_pos (show D ≠ [] ∧ (p - 1 < -4 ∨ p - 1 ≥ l) from ⟨hn, Or.inr hq⟩)]
        · rw [if_neg (show ¬ decide (p - 1 ≥ l) = true by simpa using hq), if_neg (show ¬ (D ≠ [] ∧ (p - 1 < -4 ∨ p - 1 ≥ l)) from fun h => h.2.elim hp hq)]
  unfold numeralref24_general.f generalS limS
  rw [mk_size, hj0, hj0, hj0]
  by_cases hp : prec < 0
  · rw [if_neg (show ¬ prec ≥ 0 by omega), if_pos hp]
  · rw [if_pos (show prec ≥ 0 by omega), if_neg hp]
    by_cases ha : mx prec 1 > (D.length : Int)
    · rw [if_pos ha]
      by_cases hb : (D.length : Int) ≥ p
      · rw [if_pos hb, if_pos (show mx prec 1 > (D.length : Int) ∧ (D.length : Int) ≥ p from ⟨ha, hb⟩)]
      · rw [if_neg hb, if_neg (show ¬ (mx prec 1 > (D.length : Int) ∧ (D.length : Int) ≥ p) from fun h => hb h.2)]
    · rw [if_neg ha, if_neg (show ¬ (mx prec 1 > (D.length : Int) ∧ (D.length : Int) ≥ p) from fun h => ha h.1)]
theorem asksS_some {L prec e : Int} (h : (asksS L prec).2.2 = some e) : e = 8 ∨ e = 9 := by
  unfold asksS at h
  by_cases hL : isL L = true
  · rw [if_pos hL] at h
    by_cases hp : prec < -1 ∨ prec > 1100
    · rw [if_pos hp] at h; exact Or.inl (Option.some.inj h).symm
    · rw [if_neg hp] at h
      split at h
      · cases h
      · split at h
        · cases h
        · split at h <;> cases h
  · rw [if_neg hL] at h; exact Or.inr (Option.some.inj h).symm
theorem isL_or {L : Int} (h : isL L = true) : L = 101 ∨ L = 69 ∨ L = 102 ∨ L = 103 ∨ L = 71 := by
  unfold isL at h
  simp only [Bool.or_eq_true, beq_iff_eq] at h
  omega
/-- What must hold that a body may be laid. -/
def fits (D : List UInt8) (p L prec : Int) : Prop := 0 ≤ prec → (L = 101 ∨ L = 69 → (D.length : Int) ≤ prec + 1) ∧ (L = 102 → (D.length : Int) - p ≤ prec)
theorem rLay_j2 (k : Nat) (hk : 3000 < k) (neg : Bool) (D : List UInt8) (hD : D.length ≤ 800) {p L prec : Int} (hv : D = [] → p = 0) (hp0 : -1200 ≤ p) (hp1 : p ≤ 400) (h0 : -1 ≤ prec) (h1 : prec ≤ 1100) (hL : isL L = true) (hf : fits D p L prec) (cu : Bool) :
    numeralref24_Lay.j2 (k + 6) neg L prec L (L == 101 || L == 69) (mk D) p cu = some (mk (headS neg ++ bodyS D p L prec), 0) := by
  have fin : ∀ l : List UInt8, l.length ≤ 5000 → (if neg = true then (if 1 + (mk l).size ≤ 9223372036854775807 then some ((⟨#[45]⟩ : ByteArray) ++ mk l, (0 : Int)) else none) else some (mk l, 0)) = some (mk (headS neg ++ l), 0) := fun l hl => by
    unfold headS
    rw [mk_size, show (⟨#[45]⟩ : ByteArray) = mk [45] from rfl, mk_append]
    cases neg with
    | true => rw [if_pos rfl, if_pos rfl, if_pos (by omega)]
    | false => rw [if_neg (show ¬ false = true by decide), if_neg (show ¬ false = true by decide), List.nil_append]
  have l1 := sciS_len D hD hp0 hp1 h0 h1
  have l2 := generalS_len D (prec := prec) hD hp0 hp1
  have l3 := plainS_len D hD hp0 hp1 h0 h1
  rw [numeralref24_Lay.j2]
  unfold bodyS
  rcases isL_or hL with h | h | h | h | h
  · subst h
    rw [if_pos rfl, rsci_eq (k + 2) (by omega) D hD hp0 hp1 h0 h1 (fun q => (hf q).1 (Or.inl rfl)), Option.bind_some, fin _ (l1 _)]; rfl
  · subst h
    rw [if_pos rfl, rsci_eq (k + 2) (by omega) D hD hp0 hp1 h0 h1 (fun q => (hf q).1 (Or.inr rfl)), Option.bind_some, fin _ (l1 _)]; rfl
  · subst h
    rw [if_neg (show ¬ ((102 : Int) == 101 || (102 : Int) == 69) = true by decide), if_pos rfl, rplain_eq (k + 4) (by omega) D hD hv hp0 hp1 h0 h1 (fun q => (hf q).2 rfl), Option.bind_some, fin _ l3]; rfl
  · subst h
    rw [if_neg (show ¬ ((103 : Int) == 101 || (103 : Int) == 69) = true by decide), if_neg (show ¬ (103 : Int) = 102 by decide), rgeneral_eq k (by omega) D hD hv hp0 hp1 h0 h1, Option.bind_some, fin _ (l2 _)]; rfl
  · subst h
    rw [if_neg (show ¬ ((71 : Int) == 101 || (71 : Int) == 69) = true by decide), if_neg (show ¬ (71 : Int) = 102 by decide), rgeneral_eq k (by omega) D hD hv hp0 hp1 h0 h1, Option.bind_some, fin _ (l2 _)]; rfl
theorem rLay_j1 (k : Nat) (hk : 3000 < k) (neg b : Bool) (D : List UInt8) (hD : D.length ≤ 800) {p L prec : Int} (hv : D = [] → p = 0) (hp0 : -1200 ≤ p) (hp1 : p ≤ 400) (h0 : -1 ≤ prec) (h1 : prec ≤ 1100) (hL : isL L = true) (hf : b = false → fits D p L prec) (cu : Bool) :
    numeralref24_Lay.j1 (k + 7) neg L prec b (mk D) p cu = some (if b = true then (mk [], 30) else (mk (headS neg ++ bodyS D p L prec), 0)) := by
  rw [numeralref24_Lay.j1]
  cases b with
  | true => rw [if_pos rfl, if_pos rfl]; rfl
  | false =>
    rw [if_neg (show ¬ false = true by decide), if_neg (show ¬ false = true by decide)]
    have := rLay_j2 k hk neg D hD hv hp0 hp1 h0 h1 hL (hf rfl) cu
    by_cases h : L = 101
    · rw [if_pos h]; subst h; exact this
    · rw [if_neg h]
      rw [show (L == 101) = false from beq_eq_false_iff_ne.2 h, Bool.false_or] at this
      exact this
theorem fits_of {D : List UInt8} {p L prec : Int} (hp : 0 ≤ prec) (hL : isL L = true) (hA : (asksS L prec).2.2 = none) (h : manyS D p (asksS L prec).1 (asksS L prec).2.1 = false) : fits D p L prec := by
  have h1 := asksS_none hA
  unfold asksS at h
  rw [if_pos hL, if_neg (by omega), if_neg (by omega)] at h
  intro _
  refine ⟨fun he => ?_, fun he => ?_⟩
  · rw [if_neg (by omega), if_neg (by omega)] at h
    unfold manyS at h
    rw [if_neg (by omega), if_neg (show ¬ false = true by decide)] at h
    have := of_decide_eq_false h
    omega
  · rw [if_pos he] at h
    unfold manyS at h
    rw [if_neg (by omega), if_pos rfl] at h
    have := of_decide_eq_false h
    omega
theorem rLay_eq {k : Nat} (hk : 4000 ≤ k) (neg : Bool) (D : List UInt8) (hs : D.length ≤ 140737488351232) (p : Int) (cu : Bool) {L prec : Int} :
    numeralref24_Lay.f k neg (mk D) p cu L prec = some (mk (layS neg D p cu L prec).1, (layS neg D p cu L prec).2.getD 0) := by
  obtain ⟨k, rfl⟩ : ∃ j, k = j + 8 := ⟨k - 8, by omega⟩
  unfold numeralref24_Lay.f layS
  rw [rValid_eq D hs p cu (by omega), Option.bind_some]
  have hj1 : numeralref24_Lay.j0 (k + 8) neg L prec true (mk D) p cu = some (mk [], 1) := by rw [numeralref24_Lay.j0, if_pos rfl]; rfl
  by_cases hv : validS D p cu = true
  · have hD := validS_len hv
    have hv0 : D = [] → p = 0 := fun h => by
      unfold validS at hv
      rw [if_pos h] at hv
      simp only [Bool.and_eq_true, decide_eq_true_eq] at hv
      exact hv.1
    rw [if_pos hv, if_pos (show (0 : Int) = 0 from rfl)]
    cases cu with
    | true => rw [if_pos rfl, hj1, if_neg (by simp)]; rfl
    | false =>
      rw [if_neg (show ¬ false = true by decide)]
      by_cases hp0 : p < -1200
      · rw [if_pos hp0, hj1, if_neg (by omega)]; rfl
      · rw [if_neg hp0]
        by_cases hp1 : p > 400
        · rw [decide_eq_true hp1, hj1, if_neg (by omega)]; rfl
        · rw [decide_eq_false hp1, if_pos (show validS D p false = true ∧ false = false ∧ -1200 ≤ p ∧ p ≤ 400 from ⟨hv, rfl, by omega, by omega⟩), numeralref24_Lay.j0, if_neg (show ¬ false = true by decide), rAsks_eq (k + 6), Option.bind_some]
          dsimp only
          cases hA : (asksS L prec).2.2 with
          | some e =>
            rw [if_neg (by rcases asksS_some hA with h | h <;> rw [h] <;> decide)]; rfl
          | none =>
            obtain ⟨hl, hq0, hq1⟩ := asksS_none hA
            rw [if_pos (show (none : Option Int).getD 0 = 0 from rfl), mk_size, wrapi_id (by omega) (by omega)]
            dsimp only
            have key : ∀ b, b = manyS D p (asksS L prec).1 (asksS L prec).2.1 → numeralref24_Lay.j1 (k + 7) neg L prec b (mk D) p false = some (mk (if manyS D p (asksS L prec).1 (asksS L prec).2.1 = true then (([] : List UInt8), some (30 : Int)) else (headS neg ++ bodyS D p L prec, none)).1, (if manyS D p (asksS L prec).1 (asksS L prec).2.1 = true then (([] : List UInt8), some (30 : Int)) else (headS neg ++ bodyS D p L prec, none)).2.getD 0) := fun b hb => by
              rw [rLay_j1 k (by omega) neg b D hD hv0 (by omega) (by omega) hq0 hq1 hl (fun hbf => by
                by_cases hp : 0 ≤ prec
                · exact fits_of hp hl hA (hb ▸ hbf)
                · exact fun h => absurd h hp), ← hb]
              cases b <;> rfl
            by_cases hp : prec ≥ 0
            · rw [if_pos hp]
              have hn : ¬ (asksS L prec).1 < 0 := by
                unfold asksS
                rw [if_pos hl, if_neg (by omega), if_neg (by omega)]
                split
                · exact Int.not_lt.2 hp
                · split
                  · rw [mx_def]; show ¬ (max prec 1 < 0); omega
                  · show ¬ (prec + 1 < 0); omega
              have hm : manyS D p (asksS L prec).1 (asksS L prec).2.1 = (if (asksS L prec).2.1 = true then decide ((D.length : Int) - p > (asksS L prec).1) else decide ((D.length : Int) > (asksS L prec).1)) := by
                unfold manyS; rw [if_neg hn]
              cases hpl : (asksS L prec).2.1 with
              | true =>
                rw [hpl] at hm key
                rw [if_pos rfl]
                rw [if_pos rfl] at hm
                exact key _ hm.symm
              | false =>
                rw [hpl] at hm key
                rw [if_neg (show ¬ false = true by decide)]
                rw [if_neg (show ¬ false = true by decide)] at hm
                by_cases hq : (D.length : Int) > (asksS L prec).1
                · rw [if_pos hq]; exact key _ (hm.trans (decide_eq_true hq)).symm
                · rw [if_neg hq]; exact key _ (hm.trans (decide_eq_false hq)).symm
            · rw [if_neg hp]
              have hm : manyS D p (asksS L prec).1 (asksS L prec).2.1 = false := by
                unfold asksS
                rw [if_pos hl, if_neg (by omega), if_pos (by omega)]; rfl
              exact key _ hm.symm
  · rw [if_neg hv, if_neg (by decide), hj1, if_neg (fun h => hv h.1)]; rfl
end Go.Proofs.YtmncgmgcngokoaaDoor.XlLr
