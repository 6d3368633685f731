
/- Chapter 24: texts as rows of bytes; the program's layouts, each as a row. -/
import Derived.Lib.ItoaNum
import Derived.Lib.Repeat
import Derived.Lib.Bytealg
import Derived.Lib.Strings
import Derived.Test.YtmncgmgcngokoaaDoorXbx2
import Derived.Test.YtmncgmgcngokoaaDoorXbx3
import Derived.Test.YtmncgmgcngokoaaDoorXbx4
import Derived.Test.YtmncgmgcngokoaaDoorXbx5
import Derived.Test.YtmncgmgcngokoaaDoorXbx6
namespace Go.Proofs.YtmncgmgcngokoaaDoor.XbLy
open Go.RowKit Go.Proofs.YtmncgmgcngokoaaDoor.Xb Go.Proofs.YtmncgmgcngokoaaDoorW.PrintWords Go.Proofs.YtmncgmgcngokoaaDoorW.PrintLast Go.Proofs.YtmncgmgcngokoaaDoorW.PrintMore
set_option linter.unusedVariables false
set_option linter.unusedSimpArgs false

def mk (l : List UInt8) : ByteArray := ⟨l.toArray⟩
theorem mk_size (l : List UInt8) : (mk l).size = l.length := by simp [mk, ByteArray.size]
theorem mk_append (a b : List UInt8) : mk a ++ mk b = mk (a ++ b) := ByteArray.ext (by rw [ByteArray.data_append]; simp [mk])
theorem mk_extract (l : List UInt8) (i j : Nat) : (mk l).extract i j = mk ((l.take j).drop i) := by
  apply ByteArray.ext
  rw [ByteArray.data_extract]
  apply Array.ext'
  simp [mk, List.extract_eq_take_drop, List.drop_take]
theorem mk_data (l : List UInt8) : (mk l).data.toList = l := rfl
theorem mk_toList (l : List UInt8) : (mk l).toList = l := by rw [Lib.toList_data]; rfl
theorem mk_of (b : ByteArray) : b = mk b.data.toList := rfl
theorem mk_nil : (⟨#[]⟩ : ByteArray) = mk [] := rfl
theorem bt_mk (l : List UInt8) (i : Int) : bt (mk l) i = ((l.getD i.toNat 0).toNat : Int) := by
  unfold bt
  by_cases h : i.toNat < l.length
  · rw [dif_pos (by rw [mk_size]; exact h)]
    have : (mk l)[i.toNat]'(by rw [mk_size]; exact h) = l[i.toNat] := by simp [mk, ByteArray.getElem_eq_getElem_data]
    rw [this]; simp [List.getD_eq_getElem?_getD, h]
  · rw [dif_neg (by rw [mk_size]; exact h)]
    simp [List.getD_eq_getElem?_getD, Nat.not_lt.1 h]
theorem son (p : List Int) (q l : List UInt8) (h : strOfNums p = mk q) : strOfNums (p ++ bytesOf (mk l)) = mk (q ++ l) := by
  have h1 : (p.map fun n => UInt8.ofNat n.toNat) = q := by
    have := congrArg (fun b => b.data.toList) h
    simpa [strOfNums, mk] using this
  unfold strOfNums bytesOf
  rw [mk_data, List.map_append, h1, List.map_map]
  congr 2
  have : (l.map ((fun n : Int => UInt8.ofNat n.toNat) ∘ fun b => (b.toNat : Int))) = l := by
    rw [List.map_congr_left (g := id) (fun b _ => by simp)]
    exact List.map_id l
  rw [this]
theorem wrapi_id {n : Int} (h0 : -9223372036854775808 ≤ n) (h1 : n < 9223372036854775808) : wrap64 n = n := by unfold wrap64; omega
theorem wf_u8 {a : Int} (h : (Lit.int .u8 a).wf = true) : 0 ≤ a ∧ a < 256 := by
  simp only [Lit.wf, IntKind.min, IntKind.max, IntKind.signed, IntKind.bits, Bool.and_eq_true, decide_eq_true_eq] at h
  simp at h; omega
theorem wf_i64 {a : Int} (h : (Lit.int .i64 a).wf = true) : -9223372036854775808 ≤ a ∧ a < 9223372036854775808 := by
  simp only [Lit.wf, IntKind.min, IntKind.max, IntKind.signed, IntKind.bits, Bool.and_eq_true, decide_eq_true_eq] at h
  simp at h; omega
theorem chain {α : Type} {F : Nat → Option α} (h : ∀ k, LeO (F k) (F (k + 1))) {r : α} {k j : Nat} (hk : k ≤ j) (hr : F k = some r) : F j = some r := by
  obtain ⟨d, rfl⟩ := Nat.exists_eq_add_of_le hk
  exact more_rounds h k d r hr

/-! Exponents -/
theorem itoa_f {a : Int} (h0 : -9223372036854775808 ≤ a) (h1 : a < 9223372036854775808) : strconv_Itoa.f a = some (mk (Lib.itoa a)) := by
  unfold strconv_Itoa.f mk
  rw [if_pos (by simp only [decide_eq_true_eq]; omega)]
theorem dlen (u : Nat) : (Lib.decDigits u).length = Lib.nDigits u := by rw [Lib.decDigits_eq]; simp
theorem dmost : ∀ (k u : Nat), u < 10 ^ (k + 1) → Lib.nDigits u ≤ k + 1
  | 0, u, h => by rw [Lib.nDigits_small (by simpa using h)]; omega
  | k + 1, u, h => by
    by_cases h2 : u < 10
    · rw [Lib.nDigits_small h2]; omega
    · rw [Lib.nDigits_big h2]
      have := dmost k (u / 10) (by rw [Nat.pow_succ] at h; omega)
      omega
theorem d20 {u : Nat} (h : u < 18446744073709551616) : (Lib.decDigits u).length ≤ 20 := by
  rw [dlen]; exact dmost 19 u (by omega)
theorem d1 (u : Nat) : 1 ≤ (Lib.decDigits u).length := by rw [dlen]; exact Lib.nDigits_pos u
/-- Digits, two at the least. -/
def pad2 (l : List UInt8) : List UInt8 := if l.length < 2 then 48 :: l else l
def expo (n : Int) (c : Bool) : List UInt8 := (if c = true then 69 else 101) :: (if n < 0 then 45 else 43) :: pad2 (Lib.decDigits n.natAbs)
theorem pad2_len {l : List UInt8} (h : l.length ≤ 20) : (pad2 l).length ≤ 21 := by
  unfold pad2; split
  · simp only [List.length_cons]; omega
  · omega
theorem expo_len {a : Int} (h0 : -9223372036854775808 ≤ a) (h1 : a < 9223372036854775808) (c : Bool) : (expo a c).length ≤ 23 := by
  have := pad2_len (d20 (u := a.natAbs) (by omega))
  unfold expo; simp only [List.length_cons]; omega
theorem Exponent_j0 (k : Nat) {a : Int} (h0 : -9223372036854775808 ≤ a) (h1 : a < 9223372036854775808) (x : List Int) (y : UInt8) (hx : x.length = 1) (hxy : strOfNums x = mk [y]) :
    layout_Exponent.j0 (k + 1) a x = some (mk (y :: (if a < 0 then 45 else 43) :: pad2 (Lib.decDigits a.natAbs))) := by
  have hl := d20 (u := a.natAbs) (by omega)
  have hl1 := d1 a.natAbs
  have hp : ∀ z : Int, ∀ t : UInt8, UInt8.ofNat z.toNat = t → strOfNums (x ++ [z]) = mk [y, t] := fun z t hz => by
    have := congrArg (fun b => b.data.toList) hxy
    simp [strOfNums, mk] at this
    obtain ⟨q, rfl, rfl⟩ := this
    simp [strOfNums, mk, hz]
  have hq : ∀ z z' : Int, ∀ t t' : UInt8, UInt8.ofNat z.toNat = t → UInt8.ofNat z'.toNat = t' → strOfNums ((x ++ [z]) ++ [z']) = mk [y, t, t'] := fun z z' t t' hz hz' => by
    have := congrArg (fun b => b.data.toList) hxy
    simp [strOfNums, mk] at this
    obtain ⟨q, rfl, rfl⟩ := this
    simp [strOfNums, mk, hz, hz']
  rw [layout_Exponent.j0, itoa_f h0 h1]
  simp only [Option.bind_some]
  by_cases hn : a < 0
  · have hi : Lib.itoa a = 45 :: Lib.decDigits a.natAbs := by unfold Lib.itoa; rw [if_pos hn]
    have hd : (mk (45 :: Lib.decDigits a.natAbs)).extract 1 (mk (45 :: Lib.decDigits a.natAbs)).size = mk (Lib.decDigits a.natAbs) := by rw [mk_extract, mk_size, List.take_length]; rfl
    rw [hi, if_pos hn, if_pos hn, hd, mk_size, mk_size]
    have hs : ((45 : UInt8) :: Lib.decDigits a.natAbs).length = (Lib.decDigits a.natAbs).length + 1 := rfl
    rw [hs, if_pos (by omega), if_pos (by omega)]
    unfold pad2
    by_cases h2 : (Lib.decDigits a.natAbs).length < 2
    · rw [if_pos (by omega), if_pos (by simp; omega), if_pos (by simp; omega), if_pos h2, son _ _ _ (hq 45 48 45 48 rfl rfl)]
      rfl
    · rw [if_neg (by omega), if_pos (by simp; omega), if_neg h2, son _ _ _ (hp 45 45 rfl)]
      rfl
  · have hi : Lib.itoa a = Lib.decDigits a.natAbs := by unfold Lib.itoa; rw [if_neg hn, show a.toNat = a.natAbs by omega]
    rw [hi, if_neg hn, if_neg hn, mk_size, if_pos (by omega)]
    unfold pad2
    by_cases h2 : (Lib.decDigits a.natAbs).length < 2
    · rw [if_pos (by omega), if_pos (by simp; omega), if_pos (by simp; omega), if_pos h2, son _ _ _ (hq 43 48 43 48 rfl rfl)]
      rfl
    · rw [if_neg (by omega), if_pos (by simp; omega), if_neg h2, son _ _ _ (hp 43 43 rfl)]
      rfl
theorem Exponent_eq (k : Nat) {a : Int} (h0 : -9223372036854775808 ≤ a) (h1 : a < 9223372036854775808) (c : Bool) : layout_Exponent.f (k + 1) a c = some (mk (expo a c)) := by
  unfold layout_Exponent.f expo
  rw [Option.bind_some]
  cases c with
  | true => rw [if_pos rfl, if_pos (by decide)]; exact Exponent_j0 k h0 h1 _ 69 rfl rfl
  | false => rw [if_neg (by decide)]; exact Exponent_j0 k h0 h1 _ 101 rfl rfl

/-! Rows of noughts -/
def zs (n : Nat) : List UInt8 := List.replicate n 48
theorem zs_len (n : Nat) : (zs n).length = n := List.length_replicate
theorem zs_zero : zs 0 = [] := rfl
theorem zs_add (a b : Nat) : zs (a + b) = zs a ++ zs b := (List.replicate_append_replicate).symm
theorem Repeat_eq {n : Int} (h0 : 0 ≤ n) (h1 : n ≤ 1000000) : strings_Repeat.f (⟨#[48]⟩ : ByteArray) n = some (mk (zs n.toNat)) := by
  unfold strings_Repeat.f
  have e : (⟨#[48]⟩ : ByteArray).size = 1 := rfl
  rw [e, if_pos (by simp only [decide_eq_true_eq]; omega), mk]
  have := Lib.repeatL_replicate 48 1 n.toNat
  rw [Nat.mul_one] at this
  unfold zs
  rw [← this]; rfl

/-! Is a number one -/
def digs (l : List UInt8) : Bool := l.all fun b => decide (48 ≤ b.toNat) && decide (b.toNat ≤ 57)
def validS (D : List UInt8) (p : Int) (c : Bool) : Bool :=
  if D = [] then decide (p = 0) && !c
  else decide (D.length ≤ 800) && !decide (D.getD 0 0 = 48) && (!decide (D.getD (D.length - 1) 0 = 48) || c) && decide (-1099511627776 ≤ p) && decide (p ≤ 1099511627776) && digs D
theorem digs_drop (D : List UInt8) {i : Nat} (h : i < D.length) : digs (D.drop i) = (decide (48 ≤ (D.getD i 0).toNat) && decide ((D.getD i 0).toNat ≤ 57) && digs (D.drop (i + 1))) := by
  rw [List.drop_eq_getElem_cons h]
  unfold digs
  rw [List.all_cons]
  simp [List.getD_eq_getElem?_getD, h]
theorem b48 (b : UInt8) : ((b.toNat : Int) = 48) ↔ b = 48 := by
  constructor
  · intro h; exact UInt8.toNat_inj.1 (show b.toNat = 48 by omega)
  · intro h; rw [h]; rfl
theorem Valid_l0 (D : List UInt8) (hD : D.length ≤ 800) (p : Int) (c : Bool) : ∀ (k i : Nat), i ≤ D.length → D.length - i < k →
    dec_Valid.l0 k (D.length : Int) (i : Int) (mk D) p c = some (if digs (D.drop i) = true then none else some 1)
  | 0, i, _, hk => by omega
  | k + 1, i, hi, hk => by
    rw [dec_Valid.l0]
    by_cases h : i < D.length
    · rw [if_pos (by omega), if_pos (by omega), mk_size, if_pos (by omega), bt_mk, Int.toNat_natCast, digs_drop D h, wrapi_id (by omega) (by omega), show ((i : Int) + 1) = ((i + 1 : Nat) : Int) by omega, Valid_l0 D hD p c k (i + 1) h (by omega)]
      generalize (D.getD i 0).toNat = v
      by_cases h1 : 48 ≤ v
      · by_cases h2 : v ≤ 57
        · rw [if_neg (by omega), if_neg (by omega)]; simp [h1, h2]
        · rw [if_neg (by omega), if_pos (by omega)]; simp [h1, h2]
      · rw [if_pos (by omega)]; simp [h1]
    · have e : D.drop i = [] := List.drop_eq_nil_of_le (by omega)
      rw [if_neg (by omega), e]; rfl
theorem Valid_eq (D : List UInt8) (hs : D.length ≤ 140737488351232) (p : Int) (c : Bool) {k : Nat} (hk : 900 ≤ k) : dec_Valid.f k (mk D) p c = some (if validS D p c = true then none else some 1) := by
  obtain ⟨k, rfl⟩ : ∃ j, k = j + 1 := ⟨k - 1, by omega⟩
  unfold dec_Valid.f validS
  rw [mk_size, mk_toList]
  cases hD : D with
  | nil =>
    rw [if_pos (show (([] : List UInt8).length : Int) = 0 from rfl), if_pos rfl]
    by_cases hp : p = 0 <;> cases c <;> simp [hp]
  | cons x t =>
    have hl : 0 < D.length := by rw [hD]; simp
    have hne : ¬ D = [] := by rw [hD]; simp
    rw [← hD, if_neg (by omega), if_neg hne]
    by_cases h8 : D.length ≤ 800
    · rw [if_neg (by omega), if_pos (by omega), bt_mk, bt_mk, show (0 : Int).toNat = 0 from rfl, wrapi_id (by omega) (by omega), show ((D.length : Int) - 1).toNat = D.length - 1 by omega, if_pos (by omega : (0 : Int) ≤ (D.length : Int) - 1), if_pos (by omega : (D.length : Int) - 1 < (D.length : Int))]
      have hj1 : ∀ z, dec_Valid.j0 (k + 1) z true (mk D) p c = some (some 1) := fun z => by rw [dec_Valid.j0, if_pos rfl]
      have hj0 : dec_Valid.j0 (k + 1) (D.length : Int) false (mk D) p c = some (if digs D = true then none else some 1) := by
        rw [dec_Valid.j0, if_neg (by decide)]
        have := Valid_l0 D h8 p c k 0 (by omega) (by omega)
        rw [List.drop_zero] at this
        exact this
      simp only [b48, hj1]
      by_cases h0 : D.getD 0 0 = 48
      · rw [if_pos h0, decide_eq_true h0]; simp
      · rw [if_neg h0, decide_eq_false h0, decide_eq_true h8]
        have hpp : (if p < (-1099511627776) then some (some 1) else dec_Valid.j0 (k + 1) (D.length : Int) (decide (p > 1099511627776)) (mk D) p c) = some (if (decide (-1099511627776 ≤ p) && decide (p ≤ 1099511627776) && digs D) = true then none else some 1) := by
          by_cases hp : p < -1099511627776
          · rw [if_pos hp]; simp [show ¬ (-1099511627776 ≤ p) by omega]
          · rw [if_neg hp]
            by_cases hp2 : p > 1099511627776
            · rw [decide_eq_true hp2, hj1]; simp [show ¬ (p ≤ 1099511627776) by omega]
            · rw [decide_eq_false hp2, hj0]; simp [show (-1099511627776 ≤ p) by omega, show (p ≤ 1099511627776) by omega]
        rw [hpp]
        by_cases h1 : D.getD (D.length - 1) 0 = 48
        · rw [if_pos h1, decide_eq_true h1]
          cases c with
          | true => rw [if_pos rfl]; simp
          | false => rw [if_neg (by decide)]; simp
        · rw [if_neg h1, decide_eq_false h1]; simp
    · rw [if_pos (by omega), dec_Valid.j0, if_pos rfl]
      simp [h8]

/-! What is asked -/
def isL (L : Int) : Bool := L == 101 || L == 69 || L == 102 || L == 103 || L == 71
theorem IndexByte_eq {L : Int} (h0 : 0 ≤ L) (h1 : L < 256) : ∃ t, strings_IndexByte.f (⟨#[101, 69, 102, 103, 71]⟩ : ByteArray) L = some t ∧ (t < 0 ↔ isL L = false) := by
  refine ⟨_, rfl, ?_⟩
  have h : ∀ c : Fin 256, decide (Lib.indexByte [101, 69, 102, 103, 71] c.val.toUInt8 < 0) = !isL (c.val : Int) := by decide +kernel
  have := h ⟨L.toNat, by omega⟩
  have e : ((L.toNat : Nat) : Int) = L := by omega
  simp only [e] at this
  constructor
  · intro hl
    have h2 : decide (Lib.indexByte [101, 69, 102, 103, 71] L.toNat.toUInt8 < 0) = true := decide_eq_true hl
    rw [h2] at this
    cases hq : isL L
    · rfl
    · rw [hq] at this; cases this
  · intro hl
    rw [hl] at this
    exact of_decide_eq_true this
def asksS (L prec : Int) : Int × Bool × Option Int :=
  if isL L = true then (if prec < -1 ∨ prec > 1100 then (0, false, some 8) else if prec < 0 then (-1, false, none) else if L = 102 then (prec, true, none) else if L = 103 ∨ L = 71 then (mx prec 1, false, none) else (prec + 1, false, none)) else (0, false, some 9)
theorem Asks_eq (k : Nat) {L prec : Int} (h0 : 0 ≤ L) (h1 : L < 256) : layout_Asks.f (k + 1) L prec = some (asksS L prec) := by
  obtain ⟨t, ht, hiff⟩ := IndexByte_eq h0 h1
  unfold layout_Asks.f asksS
  rw [ht, Option.bind_some]
  have hj1 : layout_Asks.j0 (k + 1) L prec true = some (0, false, some 8) := by rw [layout_Asks.j0, if_pos rfl]
  cases hL : isL L with
  | false => rw [if_pos (hiff.2 hL), if_neg (by decide)]
  | true =>
    have hn : ¬ t < 0 := fun h => by rw [hiff.1 h] at hL; cases hL
    rw [if_neg hn, if_pos rfl]
    by_cases hp : prec < -1
    · rw [if_pos hp, if_pos (Or.inl hp), hj1]
    · rw [if_neg hp]
      by_cases hp2 : prec > 1100
      · rw [if_pos (Or.inr hp2), decide_eq_true hp2, hj1]
      · rw [if_neg (by omega), decide_eq_false hp2, layout_Asks.j0, if_neg (by decide)]
        by_cases hp3 : prec < 0
        · rw [if_pos hp3, if_pos hp3]
        · rw [if_neg hp3, if_neg hp3]
          by_cases hf : L = 102
          · rw [if_pos hf, if_pos hf]
          · rw [if_neg hf, if_neg hf]
            by_cases hg : L = 103
            · rw [if_pos hg, if_pos (Or.inl hg)]
            · rw [if_neg hg]
              by_cases hG : L = 71
              · rw [if_pos hG, if_pos (Or.inr hG)]
              · rw [if_neg hG, if_neg (by omega), wrapi_id (by omega) (by omega)]
def manyS (D : List UInt8) (p n : Int) (pl : Bool) : Bool := if n < 0 then false else if pl = true then decide ((D.length : Int) - p > n) else decide ((D.length : Int) > n)
theorem many_eq (D : List UInt8) {p : Int} (hD : D.length ≤ 800) (h0 : -1200 ≤ p) (h1 : p ≤ 400) (c : Bool) (n : Int) (pl : Bool) : layout_many.f (mk D) p c n pl = some (manyS D p n pl) := by
  unfold layout_many.f manyS
  rw [mk_size, wrapi_id (by omega) (by omega)]
  by_cases hn : n < 0
  · rw [if_pos hn, if_pos hn]
  · rw [if_neg hn, if_neg hn]
    cases pl
    · rw [if_neg (by decide), if_neg (by decide)]
    · rw [if_pos rfl, if_pos rfl]

/-! The layouts -/
def pointS (l : List UInt8) : List UInt8 := if l = [] then [] else 46 :: l
def wholeS (D : List UInt8) (p : Int) : List UInt8 := if p ≤ 0 then [48] else D.take p.toNat ++ zs (p.toNat - D.length)
def part0 (D : List UInt8) (p : Int) : List UInt8 := if p ≤ 0 then (if D = [] then [] else zs (-p).toNat ++ D) else D.drop p.toNat
def plainS (D : List UInt8) (p prec : Int) : List UInt8 := wholeS D p ++ pointS (part0 D p ++ zs (prec - (part0 D p).length).toNat)
def sciS (D : List UInt8) (p prec : Int) (c : Bool) : List UInt8 := D.headD 48 :: (pointS (D.tail ++ zs (prec - D.tail.length).toNat) ++ expo (if D = [] then 0 else p - 1) c)
def limS (D : List UInt8) (p prec : Int) : Int := if prec < 0 then 6 else if mx prec 1 > (D.length : Int) ∧ (D.length : Int) ≥ p then (D.length : Int) else mx prec 1
def generalS (D : List UInt8) (p prec : Int) (c : Bool) : List UInt8 := if D ≠ [] ∧ (p - 1 < -4 ∨ p - 1 ≥ limS D p prec) then sciS D p (-1) c else plainS D p (-1)
theorem part0_len (D : List UInt8) (p : Int) : ((part0 D p).length : Int) ≤ max 0 ((D.length : Int) - p) := by
  unfold part0
  by_cases h : p ≤ 0
  · rw [if_pos h]
    by_cases hD : D = []
    · rw [if_pos hD]; simp; omega
    · rw [if_neg hD, List.length_append, zs_len]; omega
  · rw [if_neg h, List.length_drop]; omega
theorem wholeS_len (D : List UInt8) (p : Int) : ((wholeS D p).length : Int) ≤ max 1 p := by
  unfold wholeS
  by_cases h : p ≤ 0
  · rw [if_pos h]; simp; omega
  · rw [if_neg h, List.length_append, zs_len, List.length_take]; omega
theorem pointS_len (l : List UInt8) : (pointS l).length ≤ l.length + 1 := by
  unfold pointS; split
  · simp
  · simp
theorem plain_j0 (k : Nat) (w q : List UInt8) {prec : Int} (hw : w.length ≤ 3000) (hq : q.length ≤ 3000) (h0 : -1 ≤ prec) (h1 : prec ≤ 1100) :
    layout_plain.j0 (k + 1) prec (mk w) (mk q) = some (mk (w ++ pointS (q ++ zs (prec - q.length).toNat))) := by
  have e46 : (⟨#[46]⟩ : ByteArray) = mk [46] := rfl
  rw [layout_plain.j0, mk_size, mk_size, wrapi_id (by omega) (by omega)]
  by_cases h : prec - (q.length : Int) > 0
  · have hne : q ++ zs (prec - (q.length : Int)).toNat ≠ [] := by
      intro hh
      have := congrArg List.length hh
      rw [List.length_append, zs_len, List.length_nil] at this
      omega
    rw [if_pos h, Repeat_eq (by omega) (by omega), Option.bind_some, mk_size, zs_len, mk_append, mk_toList, if_pos (by omega), if_neg hne, if_pos (by omega), if_pos (by omega), e46, mk_append, mk_append]
    unfold pointS
    rw [if_neg hne, List.append_assoc]; rfl
  · rw [if_neg h, mk_toList, show (prec - (q.length : Int)).toNat = 0 by omega, zs_zero, List.append_nil]
    unfold pointS
    by_cases hne : q = []
    · rw [if_pos hne, if_pos hne, List.append_nil]
    · rw [if_neg hne, if_neg hne, if_pos (by omega), if_pos (by omega), e46, mk_append, mk_append, List.append_assoc]; rfl
theorem plain_eq (k : Nat) (D : List UInt8) {p prec : Int} (hD : D.length ≤ 800) (hp0 : -1200 ≤ p) (hp1 : p ≤ 400) (h0 : -1 ≤ prec) (h1 : prec ≤ 1100) (c : Bool) :
    layout_plain.f (k + 1) (mk D) p c prec = some (mk (plainS D p prec)) := by
  have e48 : (⟨#[48]⟩ : ByteArray) = mk [48] := rfl
  unfold layout_plain.f plainS
  rw [mk_toList, mk_size]
  unfold wholeS part0
  by_cases h : p ≤ 0
  · rw [if_pos h, if_pos h, if_pos h]
    by_cases hn : D = []
    · rw [if_pos hn, if_pos hn, e48, mk_nil, plain_j0 k _ _ (by simp) (by simp) h0 h1]
    · rw [if_neg hn, if_neg hn, wrapi_id (by omega) (by omega), Repeat_eq (by omega) (by omega), Option.bind_some, mk_size, zs_len, if_pos (by omega), e48, mk_append, plain_j0 k _ _ (by simp) (by rw [List.length_append, zs_len]; omega) h0 h1]
  · rw [if_neg h, if_neg h, if_neg h]
    by_cases h2 : p ≥ (D.length : Int)
    · rw [if_pos h2, wrapi_id (by omega) (by omega), Repeat_eq (by omega) (by omega), Option.bind_some, mk_size, zs_len, if_pos (by omega), mk_append, mk_nil, plain_j0 k _ _ (by rw [List.length_append, zs_len]; omega) (by simp) h0 h1, List.take_of_length_le (by omega), List.drop_eq_nil_of_le (by omega), show (p - (D.length : Int)).toNat = p.toNat - D.length by omega]
    · rw [if_neg h2, if_pos (by omega), if_pos (by omega), mk_extract, mk_extract, List.take_length, List.drop_zero, plain_j0 k _ _ (by rw [List.length_take]; omega) (by rw [List.length_drop]; omega) h0 h1, show p.toNat - D.length = 0 by omega, zs_zero, List.append_nil]
theorem sci_j0 (k : Nat) (x : UInt8) (t : List UInt8) {prec e : Int} (ht : t.length ≤ 800) (h0 : -1 ≤ prec) (h1 : prec ≤ 1100) (he0 : -100000 ≤ e) (he1 : e ≤ 100000) (c : Bool) :
    layout_scientific.j0 (k + 2) prec c (mk (x :: t)) e = some (mk (x :: (pointS (t ++ zs (prec - t.length).toNat) ++ expo e c))) := by
  have e46 : (⟨#[46]⟩ : ByteArray) = mk [46] := rfl
  have hs : (mk (x :: t)).size = t.length + 1 := by rw [mk_size]; rfl
  have hx1 : (mk (x :: t)).extract 0 1 = mk [x] := by rw [mk_extract]; rfl
  have hx2 : (mk (x :: t)).extract 1 (t.length + 1) = mk t := by
    rw [mk_extract, List.take_of_length_le (by simp)]; rfl
  have hel := expo_len (a := e) (by omega) (by omega) c
  have hE : layout_Exponent.f (k + 1) e c = some (mk (expo e c)) := Exponent_eq k (by omega) (by omega) c
  rw [layout_scientific.j0, hs, hx1, hx2, hE, if_pos (by decide), if_pos (by omega), show t.length + 1 - 1 = t.length by omega, show min 1 (t.length + 1) = 1 by omega, wrapi_id (by omega) (by omega)]
  by_cases h : prec - (t.length : Int) > 0
  · have hne : t ++ zs (prec - (t.length : Int)).toNat ≠ [] := by
      intro hh
      have := congrArg List.length hh
      rw [List.length_append, zs_len, List.length_nil] at this
      omega
    rw [if_pos h, Repeat_eq (by omega) (by omega), Option.bind_some, mk_size, zs_len, mk_append, mk_toList, if_pos (by omega), if_neg hne, if_pos (by omega), if_pos (by omega), Option.bind_some, mk_size, if_pos (by omega), e46, mk_append, mk_append, mk_append]
    unfold pointS
    rw [if_neg hne]; rfl
  · rw [if_neg h, mk_toList, show (prec - (t.length : Int)).toNat = 0 by omega, zs_zero, List.append_nil]
    unfold pointS
    by_cases hne : t = []
    · rw [if_pos hne, if_pos hne, Option.bind_some, mk_size, if_pos (by omega), mk_append]; rfl
    · rw [if_neg hne, if_neg hne, if_pos (by omega), if_pos (by omega), Option.bind_some, mk_size, if_pos (by omega), e46, mk_append, mk_append, mk_append]; rfl
theorem sci_eq (k : Nat) (D : List UInt8) {p prec : Int} (hD : D.length ≤ 800) (hp0 : -1200 ≤ p) (hp1 : p ≤ 400) (h0 : -1 ≤ prec) (h1 : prec ≤ 1100) (c cu : Bool) :
    layout_scientific.f (k + 2) (mk D) p cu prec c = some (mk (sciS D p prec c)) := by
  have e48 : (⟨#[48]⟩ : ByteArray) = mk [48] := rfl
  unfold layout_scientific.f sciS
  rw [mk_toList]
  cases hd : D with
  | nil => rw [if_pos rfl, if_pos rfl, e48, sci_j0 k 48 [] (by simp) h0 h1 (by omega) (by omega)]; rfl
  | cons x t =>
    rw [hd] at hD
    rw [if_neg (by simp), if_neg (by simp), wrapi_id (by omega) (by omega), sci_j0 k x t (by simp at hD; omega) h0 h1 (by omega) (by omega)]; rfl
theorem general_eq (k : Nat) (D : List UInt8) {p prec : Int} (hD : D.length ≤ 800) (hp0 : -1200 ≤ p) (hp1 : p ≤ 400) (h0 : -1 ≤ prec) (h1 : prec ≤ 1100) (c cu : Bool) :
    layout_general.f (k + 6) (mk D) p cu prec c = some (mk (generalS D p prec c)) := by
  have hj3 : ∀ b, layout_general.j3 (k + 3) c b (mk D) p cu = some (mk (if b = true then sciS D p (-1) c else plainS D p (-1))) := fun b => by
    rw [layout_general.j3]
    cases b with
    | true => rw [if_pos rfl, if_pos rfl, sci_eq k D hD hp0 hp1 (by omega) (by omega), Option.bind_some]
    | false => rw [if_neg (by decide), if_neg (by decide), plain_eq (k + 1) D hD hp0 hp1 (by omega) (by omega), Option.bind_some]
  have hj2 : ∀ l : Int, layout_general.j2 (k + 4) c (D.length : Int) l (mk D) p cu = some (mk (if D ≠ [] ∧ (p - 1 < -4 ∨ p - 1 ≥ l) then sciS D p (-1) c else plainS D p (-1))) := fun l => by
    rw [layout_general.j2, wrapi_id (by omega) (by omega), hj3, hj3, hj3]
    by_cases hn : D = []
    · rw [if_neg (by rw [hn]; simp), if_neg (by decide), if_neg (by simp [hn])]
    · have : 0 < D.length := List.length_pos_iff.2 hn
      rw [if_pos (by omega)]
      by_cases hp : p - 1 < -4
      · rw [if_pos hp, if_pos rfl, if_pos ⟨hn, Or.inl hp⟩]
      · rw [if_neg hp]
        by_cases hq : p - 1 ≥ l
        · rw [if_pos (decide_eq_true hq), if_pos ⟨hn, Or.inr hq⟩]
        · rw [if_neg (by simpa using hq), if_neg (by simp only [not_and, not_or]; intro _; exact ⟨hp, hq⟩)]
  have hj1 : ∀ (l : Int) (b : Bool), layout_general.j1 (k + 5) c (D.length : Int) l b (mk D) p cu = some (mk (if D ≠ [] ∧ (p - 1 < -4 ∨ p - 1 ≥ (if b = true then (D.length : Int) else l)) then sciS D p (-1) c else plainS D p (-1))) := fun l b => by
    rw [layout_general.j1, hj2, hj2]
    cases b with
    | true => rw [if_pos rfl, if_pos rfl]
    | false => rw [if_neg (show ¬ false = true by decide), if_neg (show ¬ false = true by decide)]
  have hj0 : ∀ l : Int, layout_general.j0 (k + 6) prec c (D.length : Int) l (mk D) p cu = some (mk (if D ≠ [] ∧ (p - 1 < -4 ∨ p - 1 ≥ (if l > (D.length : Int) ∧ (D.length : Int) ≥ p ∧ prec ≥ 0 then (D.length : Int) else l)) then sciS D p (-1) c else plainS D p (-1))) := fun l => by
    rw [layout_general.j0, hj1, hj1]
    by_cases ha : l > (D.length : Int)
    · rw [if_pos ha]
      by_cases hb : (D.length : Int) ≥ p
      · rw [if_pos hb]
        by_cases hc : prec ≥ 0
        · rw [if_pos (decide_eq_true hc), if_pos (show l > (D.length : Int) ∧ (D.length : Int) ≥ p ∧ prec ≥ 0 from ⟨ha, hb, hc⟩)]
        · rw [if_neg (show ¬ decide (prec ≥ 0) = true by simpa using hc), if_neg (show ¬ (l > (D.length : Int) ∧ (D.length : Int) ≥ p ∧ prec ≥ 0) from fun h => hc h.2.2)]
      · rw [if_neg hb, if_neg (show ¬ false = true by decide), if_neg (show ¬ (l > (D.length : Int) ∧ (D.length : Int) ≥ p ∧ prec ≥ 0) from fun h => hb h.2.1)]
    · rw [if_neg ha, if_neg (show ¬ false = true by decide), if_neg (show ¬ (l > (D.length : Int) ∧ (D.length : Int) ≥ p ∧ prec ≥ 0) from fun h => ha h.1)]
  unfold layout_general.f generalS limS
  rw [mk_size, hj0, hj0]
  by_cases hp : prec < 0
  · rw [if_pos hp, if_pos hp, if_neg (show ¬ ((6 : Int) > (D.length : Int) ∧ (D.length : Int) ≥ p ∧ prec ≥ 0) from fun h => absurd h.2.2 (by omega))]
  · rw [if_neg hp, if_neg hp]
    by_cases hq : mx prec 1 > (D.length : Int) ∧ (D.length : Int) ≥ p
    · rw [if_pos hq, if_pos (show mx prec 1 > (D.length : Int) ∧ (D.length : Int) ≥ p ∧ prec ≥ 0 from ⟨hq.1, hq.2, by omega⟩)]
    · rw [if_neg hq, if_neg (show ¬ (mx prec 1 > (D.length : Int) ∧ (D.length : Int) ≥ p ∧ prec ≥ 0) from fun h => hq ⟨h.1, h.2.1⟩)]
def bodyS (D : List UInt8) (p L prec : Int) : List UInt8 :=
  if L = 69 then sciS D p prec true else if L = 101 then sciS D p prec false else if L = 71 then generalS D p prec true else if L = 103 then generalS D p prec false else plainS D p prec
def headS (neg : Bool) : List UInt8 := if neg = true then [45] else []
/-- What is laid: the text, the error. -/
def layS (neg : Bool) (D : List UInt8) (p : Int) (c : Bool) (L prec : Int) : List UInt8 × Option Int :=
  if validS D p c = true ∧ c = false ∧ -1200 ≤ p ∧ p ≤ 400 then
    (match (asksS L prec).2.2 with
     | some e => ([], some e)
     | none => if manyS D p (asksS L prec).1 (asksS L prec).2.1 = true then ([], some 30) else (headS neg ++ bodyS D p L prec, none))
  else ([], some 1)
theorem validS_len {D : List UInt8} {p : Int} {c : Bool} (h : validS D p c = true) : D.length ≤ 800 := by
  unfold validS at h
  by_cases hD : D = []
  · rw [hD]; simp
  · rw [if_neg hD] at h
    simp only [Bool.and_eq_true, decide_eq_true_eq] at h
    exact h.1.1.1.1.1
theorem asksS_none {L prec : Int} (h : (asksS L prec).2.2 = none) : isL L = true ∧ -1 ≤ prec ∧ prec ≤ 1100 := by
  unfold asksS at h
  by_cases hL : isL L = true
  · rw [if_pos hL] at h
    by_cases hp : prec < -1 ∨ prec > 1100
    · rw [if_pos hp] at h; cases h
    · exact ⟨hL, by omega, by omega⟩
  · rw [if_neg hL] at h; cases h
theorem plainS_len (D : List UInt8) {p prec : Int} (hD : D.length ≤ 800) (hp0 : -1200 ≤ p) (hp1 : p ≤ 400) (h0 : -1 ≤ prec) (h1 : prec ≤ 1100) : (plainS D p prec).length ≤ 5000 := by
  unfold plainS
  have a := part0_len D p
  have b := wholeS_len D p
  have c := pointS_len (part0 D p ++ zs (prec - (part0 D p).length).toNat)
  rw [List.length_append] at *
  rw [zs_len] at c
  omega
theorem sciS_len (D : List UInt8) {p prec : Int} (hD : D.length ≤ 800) (hp0 : -1200 ≤ p) (hp1 : p ≤ 400) (h0 : -1 ≤ prec) (h1 : prec ≤ 1100) (c : Bool) : (sciS D p prec c).length ≤ 5000 := by
  unfold sciS
  have a := expo_len (a := if D = [] then 0 else p - 1) (by split <;> omega) (by split <;> omega) c
  have b := pointS_len (D.tail ++ zs (prec - D.tail.length).toNat)
  have t := List.length_tail (l := D)
  rw [List.length_append, zs_len] at b
  rw [List.length_cons, List.length_append]
  omega
theorem generalS_len (D : List UInt8) {p prec : Int} (hD : D.length ≤ 800) (hp0 : -1200 ≤ p) (hp1 : p ≤ 400) (c : Bool) : (generalS D p prec c).length ≤ 5000 := by
  unfold generalS
  split
  · exact sciS_len D hD hp0 hp1 (by omega) (by omega) c
  · exact plainS_len D hD hp0 hp1 (by omega) (by omega)
theorem Lay_j1 (k : Nat) (h : List UInt8) (hh : h.length ≤ 1) (D : List UInt8) {p prec : Int} (L : Int) (hD : D.length ≤ 800) (hp0 : -1200 ≤ p) (hp1 : p ≤ 400) (h0 : -1 ≤ prec) (h1 : prec ≤ 1100) (cu : Bool) :
    layout_Lay.j1 (k + 7) L prec (mk h) (mk D) p cu = some (mk (h ++ bodyS D p L prec), none) := by
  have l1 := sciS_len D hD hp0 hp1 h0 h1
  have l2 := generalS_len D (prec := prec) hD hp0 hp1
  have l3 := plainS_len D hD hp0 hp1 h0 h1
  rw [layout_Lay.j1, sci_eq (k + 4) D hD hp0 hp1 h0 h1, sci_eq (k + 4) D hD hp0 hp1 h0 h1, general_eq k D hD hp0 hp1 h0 h1, general_eq k D hD hp0 hp1 h0 h1, plain_eq (k + 5) D hD hp0 hp1 h0 h1]
  simp only [Option.bind_some, mk_size, mk_append]
  unfold bodyS
  have a1 := l1 true
  have a2 := l1 false
  have a3 := l2 true
  have a4 := l2 false
  rw [if_pos (show h.length + (sciS D p prec true).length ≤ 9223372036854775807 by omega), if_pos (show h.length + (sciS D p prec false).length ≤ 9223372036854775807 by omega), if_pos (show h.length + (generalS D p prec true).length ≤ 9223372036854775807 by omega), if_pos (show h.length + (generalS D p prec false).length ≤ 9223372036854775807 by omega), if_pos (show h.length + (plainS D p prec).length ≤ 9223372036854775807 by omega)]
  repeat' split
  all_goals rfl
theorem Lay_eq {k : Nat} (hk : 1000 ≤ k) (neg : Bool) (D : List UInt8) (hs : D.length ≤ 140737488351232) (p : Int) (cu : Bool) {L prec : Int} (hL0 : 0 ≤ L) (hL1 : L < 256) :
    layout_Lay.f k neg (mk D) p cu L prec = some (mk (layS neg D p cu L prec).1, (layS neg D p cu L prec).2) := by
  obtain ⟨k, rfl⟩ : ∃ j, k = j + 8 := ⟨k - 8, by omega⟩
  unfold layout_Lay.f layS
  rw [Valid_eq D hs p cu (by omega), Option.bind_some]
  have hj1 : layout_Lay.j0 (k + 8) neg L prec true (mk D) p cu = some (mk [], some 1) := by rw [layout_Lay.j0, if_pos rfl]; rfl
  by_cases hv : validS D p cu = true
  · have hD := validS_len hv
    rw [if_pos hv, if_pos (show (none : Option Int).isNone = true from rfl)]
    cases cu with
    | true => rw [if_pos rfl, hj1, if_neg (by simp)]
    | false =>
      rw [if_neg (by decide)]
      by_cases hp0 : p < -1200
      · rw [if_pos hp0, hj1, if_neg (by omega)]
      · rw [if_neg hp0]
        by_cases hp1 : p > 400
        · rw [decide_eq_true hp1, hj1, if_neg (by omega)]
        · rw [decide_eq_false hp1, if_pos ⟨hv, rfl, by omega, by omega⟩, layout_Lay.j0, if_neg (by decide), Asks_eq (k + 6) hL0 hL1, Option.bind_some]
          cases hA : (asksS L prec).2.2 with
          | some e => rw [if_neg (by simp)]; rfl
          | none =>
            obtain ⟨hl, hq0, hq1⟩ := asksS_none hA
            rw [if_pos (show (none : Option Int).isNone = true from rfl), many_eq D hD (by omega) (by omega), Option.bind_some]
            dsimp only
            cases hm : manyS D p (asksS L prec).1 (asksS L prec).2.1 with
            | true => rw [if_pos rfl, if_pos rfl]; rfl
            | false =>
              rw [if_neg (show ¬ false = true by decide), if_neg (show ¬ false = true by decide)]
              unfold headS
              cases neg with
              | true => rw [if_pos rfl, if_pos rfl, show (⟨#[45]⟩ : ByteArray) = mk [45] from rfl, Lay_j1 k _ (by simp) D L hD (by omega) (by omega) hq0 hq1]
              | false => rw [if_neg (by decide), if_neg (by decide), mk_nil, Lay_j1 k _ (by simp) D L hD (by omega) (by omega) hq0 hq1]
  · rw [if_neg hv, if_neg (by decide), hj1, if_neg (fun h => hv h.1)]
theorem num_eq (e : Option Int) : numerallaw24_num.f e = some (e.getD 0) := by
  unfold numerallaw24_num.f
  cases e <;> rfl
theorem works40 : numerallaw24_works.f 40 = some true := by decide +kernel
theorem works {k : Nat} (h : 40 ≤ k) : numerallaw24_works.f k = some true := chain numerallaw24_works.mono h works40
end Go.Proofs.YtmncgmgcngokoaaDoor.XbLy
