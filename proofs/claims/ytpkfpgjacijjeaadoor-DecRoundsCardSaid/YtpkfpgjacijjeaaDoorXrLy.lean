
/- Chapter 24: texts as rows of bytes; the program's layouts, each as a row. -/
import Derived.Lib.ItoaNum
import Derived.Lib.Repeat
import Derived.Lib.Bytealg
import Derived.Lib.Strings
import Derived.Test.YtpkfpgjacijjeaaDoorXrx2
namespace Go.Proofs.YtpkfpgjacijjeaaDoor.XrLy
open Go.RowKit Go.Proofs.YtpkfpgjacijjeaaDoor.Xr Go.Proofs.YtpkfpgjacijjeaaDoorW.PrintWords Go.Proofs.YtpkfpgjacijjeaaDoorW.PrintLast Go.Proofs.YtpkfpgjacijjeaaDoorW.PrintMore
set_option linter.unusedVariables false
set_option linter.unusedSimpArgs false

def mk (l : List UInt8) : ByteArray := ⟨l.toArray⟩
theorem mk_size (l : List UInt8) : (mk l).size = l.length := by simp [mk, ByteArray.size]
theorem mk_append (a b : List UInt8) : mk a ++ mk b = mk (a ++ b) := ByteArray.ext (by rw [ByteArray.data_append]; simp [mk])
theorem mk_extract (l : List UInt8) (i j : Nat) : (mk l).extract i j = mk ((l.take j).drop i) := by
  apply ByteArray.ext
  rw [ByteArray.data_extract]
  apply Array.ext'
  simp [mk, List.extract_eq_take_drop, List.drop_take]
theorem mk_data (l : List UInt8) : (mk l).data.toList = l := rfl
theorem mk_toList (l : List UInt8) : (mk l).toList = l := by rw [Lib.toList_data]; rfl
theorem mk_of (b : ByteArray) : b = mk b.data.toList := rfl
theorem mk_nil : (⟨#[]⟩ : ByteArray) = mk [] := rfl
theorem bt_mk (l : List UInt8) (i : Int) : bt (mk l) i = ((l.getD i.toNat 0).toNat : Int) := by
  unfold bt
  by_cases h : i.toNat < l.length
  · rw [dif_pos (by rw [mk_size]; exact h)]
    have : (mk l)[i.toNat]'(by rw [mk_size]; exact h) = l[i.toNat] := by simp [mk, ByteArray.getElem_eq_getElem_data]
    rw [this]; simp [List.getD_eq_getElem?_getD, h]
  · rw [dif_neg (by rw [mk_size]; exact h)]
    simp [List.getD_eq_getElem?_getD, Nat.not_lt.1 h]
theorem son (p : List Int) (q l : List UInt8) (h : strOfNums p = mk q) : strOfNums (p ++ bytesOf (mk l)) = mk (q ++ l) := by
  have h1 : (p.map fun n => UInt8.ofNat n.toNat) = q := by
    have := congrArg (fun b => b.data.toList) h
    simpa [strOfNums, mk] using this
  unfold strOfNums bytesOf
  rw [mk_data, List.map_append, h1, List.map_map]
  congr 2
  have : (l.map ((fun n : Int => UInt8.ofNat n.toNat) ∘ fun b => (b.toNat : Int))) = l := by
    rw [List.map_congr_left (g := id) (fun b _ => by simp)]
    exact List.map_id l
  rw [this]
theorem wrapi_id {n : Int} (h0 : -9223372036854775808 ≤ n) (h1 : n < 9223372036854775808) : wrap64 n = n := by unfold wrap64; omega
theorem wf_u8 {a : Int} (h : (Lit.int .u8 a).wf = true) : 0 ≤ a ∧ a < 256 := by
  simp only [Lit.wf, IntKind.min, IntKind.max, IntKind.signed, IntKind.bits, Bool.and_eq_true, decide_eq_true_eq] at h
  simp at h; omega
theorem wf_i64 {a : Int} (h : (Lit.int .i64 a).wf = true) : -9223372036854775808 ≤ a ∧ a < 9223372036854775808 := by
  simp only [Lit.wf, IntKind.min, IntKind.max, IntKind.signed, IntKind.bits, Bool.and_eq_true, decide_eq_true_eq] at h
  simp at h; omega
theorem chain {α : Type} {F : Nat → Option α} (h : ∀ k, LeO (F k) (F (k + 1))) {r : α} {k j : Nat} (hk : k ≤ j) (hr : F k = some r) : F j = some r := by
  obtain ⟨d, rfl⟩ := Nat.exists_eq_add_of_le hk
  exact more_rounds h k d r hr

/-! Exponents -/
theorem dlen (u : Nat) : (Lib.decDigits u).length = Lib.nDigits u := by rw [Lib.decDigits_eq]; simp
theorem dmost : ∀ (k u : Nat), u < 10 ^ (k + 1) → Lib.nDigits u ≤ k + 1
  | 0, u, h => by rw [Lib.nDigits_small (by simpa using h)]; omega
  | k + 1, u, h => by
    by_cases h2 : u < 10
    · rw [Lib.nDigits_small h2]; omega
    · rw [Lib.nDigits_big h2]
      have := dmost k (u / 10) (by rw [Nat.pow_succ] at h; omega)
      omega
theorem d20 {u : Nat} (h : u < 18446744073709551616) : (Lib.decDigits u).length ≤ 20 := by
  rw [dlen]; exact dmost 19 u (by omega)
theorem d1 (u : Nat) : 1 ≤ (Lib.decDigits u).length := by rw [dlen]; exact Lib.nDigits_pos u
/-- Digits, two at the least. -/
def pad2 (l : List UInt8) : List UInt8 := if l.length < 2 then 48 :: l else l
def expo (n : Int) (c : Bool) : List UInt8 := (if c = true then 69 else 101) :: (if n < 0 then 45 else 43) :: pad2 (Lib.decDigits n.natAbs)
theorem pad2_len {l : List UInt8} (h : l.length ≤ 20) : (pad2 l).length ≤ 21 := by
  unfold pad2; split
  · simp only [List.length_cons]; omega
  · omega
theorem expo_len {a : Int} (h0 : -9223372036854775808 ≤ a) (h1 : a < 9223372036854775808) (c : Bool) : (expo a c).length ≤ 23 := by
  have := pad2_len (d20 (u := a.natAbs) (by omega))
  unfold expo; simp only [List.length_cons]; omega
/-! Rows of noughts -/
def zs (n : Nat) : List UInt8 := List.replicate n 48
theorem zs_len (n : Nat) : (zs n).length = n := List.length_replicate
theorem zs_zero : zs 0 = [] := rfl
theorem zs_add (a b : Nat) : zs (a + b) = zs a ++ zs b := (List.replicate_append_replicate).symm
/-! Is a number one -/
def digs (l : List UInt8) : Bool := l.all fun b => decide (48 ≤ b.toNat) && decide (b.toNat ≤ 57)
def validS (D : List UInt8) (p : Int) (c : Bool) : Bool :=
  if D = [] then decide (p = 0) && !c
  else decide (D.length ≤ 800) && !decide (D.getD 0 0 = 48) && (!decide (D.getD (D.length - 1) 0 = 48) || c) && decide (-1099511627776 ≤ p) && decide (p ≤ 1099511627776) && digs D
theorem digs_drop (D : List UInt8) {i : Nat} (h : i < D.length) : digs (D.drop i) = (decide (48 ≤ (D.getD i 0).toNat) && decide ((D.getD i 0).toNat ≤ 57) && digs (D.drop (i + 1))) := by
  rw [List.drop_eq_getElem_cons h]
  unfold digs
  rw [List.all_cons]
  simp [List.getD_eq_getElem?_getD, h]
theorem b48 (b : UInt8) : ((b.toNat : Int) = 48) ↔ b = 48 := by
  constructor
  · intro h; exact UInt8.toNat_inj.1 (show b.toNat = 48 by omega)
  · intro h; rw [h]; rfl
theorem Valid_l0 (D : List UInt8) (hD : D.length ≤ 800) (p : Int) (c : Bool) : ∀ (k i : Nat), i ≤ D.length → D.length - i < k →
    dec_Valid.l0 k (D.length : Int) (i : Int) (mk D) p c = some (if digs (D.drop i) = true then none else some 1)
  | 0, i, _, hk => by omega
  | k + 1, i, hi, hk => by
    rw [dec_Valid.l0]
    by_cases h : i < D.length
    · rw [if_pos (by omega), if_pos (by omega), mk_size, if_pos (by omega), bt_mk, Int.toNat_natCast, digs_drop D h, wrapi_id (by omega) (by omega), show ((i : Int) + 1) = ((i + 1 : Nat) : Int) by omega, Valid_l0 D hD p c k (i + 1) h (by omega)]
      generalize (D.getD i 0).toNat = v
      by_cases h1 : 48 ≤ v
      · by_cases h2 : v ≤ 57
        · rw [if_neg (by omega), if_neg (by omega)]; simp [h1, h2]
        · rw [if_neg (by omega), if_pos (by omega)]; simp [h1, h2]
      · rw [if_pos (by omega)]; simp [h1]
    · have e : D.drop i = [] := List.drop_eq_nil_of_le (by omega)
      rw [if_neg (by omega), e]; rfl
theorem Valid_eq (D : List UInt8) (hs : D.length ≤ 140737488351232) (p : Int) (c : Bool) {k : Nat} (hk : 900 ≤ k) : dec_Valid.f k (mk D) p c = some (if validS D p c = true then none else some 1) := by
  obtain ⟨k, rfl⟩ : ∃ j, k = j + 1 := ⟨k - 1, by omega⟩
  unfold dec_Valid.f validS
  rw [mk_size, mk_toList]
  cases hD : D with
  | nil =>
    rw [if_pos (show (([] : List UInt8).length : Int) = 0 from rfl), if_pos rfl]
    by_cases hp : p = 0 <;> cases c <;> simp [hp]
  | cons x t =>
    have hl : 0 < D.length := by rw [hD]; simp
    have hne : ¬ D = [] := by rw [hD]; simp
    rw [← hD, if_neg (by omega), if_neg hne]
    by_cases h8 : D.length ≤ 800
    · rw [if_neg (by omega), if_pos (by omega), bt_mk, bt_mk, show (0 : Int).toNat = 0 from rfl, wrapi_id (by omega) (by omega), show ((D.length : Int) - 1).toNat = D.length - 1 by omega, if_pos (by omega : (0 : Int) ≤ (D.length : Int) - 1), if_pos (by omega : (D.length : Int) - 1 < (D.length : Int))]
      have hj1 : ∀ z, dec_Valid.j0 (k + 1) z true (mk D) p c = some (some 1) := fun z => by rw [dec_Valid.j0, if_pos rfl]
      have hj0 : dec_Valid.j0 (k + 1) (D.length : Int) false (mk D) p c = some (if digs D = true then none else some 1) := by
        rw [dec_Valid.j0, if_neg (by decide)]
        have := Valid_l0 D h8 p c k 0 (by omega) (by omega)
        rw [List.drop_zero] at this
        exact this
      simp only [b48, hj1]
      by_cases h0 : D.getD 0 0 = 48
      · rw [if_pos h0, decide_eq_true h0]; simp
      · rw [if_neg h0, decide_eq_false h0, decide_eq_true h8]
        have hpp : (if p < (-1099511627776) then some (some 1) else dec_Valid.j0 (k + 1) (D.length : Int) (decide (p > 1099511627776)) (mk D) p c) = some (if (decide (-1099511627776 ≤ p) && decide (p ≤ 1099511627776) && digs D) = true then none else some 1) := by
          by_cases hp : p < -1099511627776
          · rw [if_pos hp]; simp [show ¬ (-1099511627776 ≤ p) by omega]
          · rw [if_neg hp]
            by_cases hp2 : p > 1099511627776
            · rw [decide_eq_true hp2, hj1]; simp [show ¬ (p ≤ 1099511627776) by omega]
            · rw [decide_eq_false hp2, hj0]; simp [show (-1099511627776 ≤ p) by omega, show (p ≤ 1099511627776) by omega]
        rw [hpp]
        by_cases h1 : D.getD (D.length - 1) 0 = 48
        · rw [if_pos h1, decide_eq_true h1]
          cases c with
          | true => rw [if_pos rfl]; simp
          | false => rw [if_neg (by decide)]; simp
        · rw [if_neg h1, decide_eq_false h1]; simp
    · rw [if_pos (by omega), dec_Valid.j0, if_pos rfl]
      simp [h8]

/-! What is asked -/
def isL (L : Int) : Bool := L == 101 || L == 69 || L == 102 || L == 103 || L == 71
def asksS (L prec : Int) : Int × Bool × Option Int :=
  if isL L = true then (if prec < -1 ∨ prec > 1100 then (0, false, some 8) else if prec < 0 then (-1, false, none) else if L = 102 then (prec, true, none) else if L = 103 ∨ L = 71 then (mx prec 1, false, none) else (prec + 1, false, none)) else (0, false, some 9)
def manyS (D : List UInt8) (p n : Int) (pl : Bool) : Bool := if n < 0 then false else if pl = true then decide ((D.length : Int) - p > n) else decide ((D.length : Int) > n)
/-! The layouts -/
def pointS (l : List UInt8) : List UInt8 := if l = [] then [] else 46 :: l
def wholeS (D : List UInt8) (p : Int) : List UInt8 := if p ≤ 0 then [48] else D.take p.toNat ++ zs (p.toNat - D.length)
def part0 (D : List UInt8) (p : Int) : List UInt8 := if p ≤ 0 then (if D = [] then [] else zs (-p).toNat ++ D) else D.drop p.toNat
def plainS (D : List UInt8) (p prec : Int) : List UInt8 := wholeS D p ++ pointS (part0 D p ++ zs (prec - (part0 D p).length).toNat)
def sciS (D : List UInt8) (p prec : Int) (c : Bool) : List UInt8 := D.headD 48 :: (pointS (D.tail ++ zs (prec - D.tail.length).toNat) ++ expo (if D = [] then 0 else p - 1) c)
def limS (D : List UInt8) (p prec : Int) : Int := if prec < 0 then 6 else if mx prec 1 > (D.length : Int) ∧ (D.length : Int) ≥ p then (D.length : Int) else mx prec 1
def generalS (D : List UInt8) (p prec : Int) (c : Bool) : List UInt8 := if D ≠ [] ∧ (p - 1 < -4 ∨ p - 1 ≥ limS D p prec) then sciS D p (-1) c else plainS D p (-1)
theorem part0_len (D : List UInt8) (p : Int) : ((part0 D p).length : Int) ≤ max 0 ((D.length : Int) - p) := by
  unfold part0
  by_cases h : p ≤ 0
  · rw [if_pos h]
    by_cases hD : D = []
    · rw [if_pos hD]; simp; omega
    · rw [if_neg hD, List.length_append, zs_len]; omega
  · rw [if_neg h, List.length_drop]; omega
theorem wholeS_len (D : List UInt8) (p : Int) : ((wholeS D p).length : Int) ≤ max 1 p := by
  unfold wholeS
  by_cases h : p ≤ 0
  · rw [if_pos h]; simp; omega
  · rw [if_neg h, List.length_append, zs_len, List.length_take]; omega
theorem pointS_len (l : List UInt8) : (pointS l).length ≤ l.length + 1 := by
  unfold pointS; split
  · simp
  · simp
def bodyS (D : List UInt8) (p L prec : Int) : List UInt8 :=
  if L = 69 then sciS D p prec true else if L = 101 then sciS D p prec false else if L = 71 then generalS D p prec true else if L = 103 then generalS D p prec false else plainS D p prec
def headS (neg : Bool) : List UInt8 := if neg = true then [45] else []
/-- What is laid: the text, the error. -/
def layS (neg : Bool) (D : List UInt8) (p : Int) (c : Bool) (L prec : Int) : List UInt8 × Option Int :=
  if validS D p c = true ∧ c = false ∧ -1200 ≤ p ∧ p ≤ 400 then
    (match (asksS L prec).2.2 with
     | some e => ([], some e)
     | none => if manyS D p (asksS L prec).1 (asksS L prec).2.1 = true then ([], some 30) else (headS neg ++ bodyS D p L prec, none))
  else ([], some 1)
theorem validS_len {D : List UInt8} {p : Int} {c : Bool} (h : validS D p c = true) : D.length ≤ 800 := by
  unfold validS at h
  by_cases hD : D = []
  · rw [hD]; simp
  · rw [if_neg hD] at h
    simp only [Bool.and_eq_true, decide_eq_true_eq] at h
    exact h.1.1.1.1.1
theorem asksS_none {L prec : Int} (h : (asksS L prec).2.2 = none) : isL L = true ∧ -1 ≤ prec ∧ prec ≤ 1100 := by
  unfold asksS at h
  by_cases hL : isL L = true
  · rw [if_pos hL] at h
    by_cases hp : prec < -1 ∨ prec > 1100
    · rw [if_pos hp] at h; cases h
    · exact ⟨hL, by omega, by omega⟩
  · rw [if_neg hL] at h; cases h
theorem plainS_len (D : List UInt8) {p prec : Int} (hD : D.length ≤ 800) (hp0 : -1200 ≤ p) (hp1 : p ≤ 400) (h0 : -1 ≤ prec) (h1 : prec ≤ 1100) : (plainS D p prec).length ≤ 5000 := by
  unfold plainS
  have a := part0_len D p
  have b := wholeS_len D p
  have c := pointS_len (part0 D p ++ zs (prec - (part0 D p).length).toNat)
  rw [List.length_append] at *
  rw [zs_len] at c
  omega
theorem sciS_len (D : List UInt8) {p prec : Int} (hD : D.length ≤ 800) (hp0 : -1200 ≤ p) (hp1 : p ≤ 400) (h0 : -1 ≤ prec) (h1 : prec ≤ 1100) (c : Bool) : (sciS D p prec c).length ≤ 5000 := by
  unfold sciS
  have a := expo_len (a := if D = [] then 0 else p - 1) (by split <;> omega) (by split <;> omega) c
  have b := pointS_len (D.tail ++ zs (prec - D.tail.length).toNat)
  have t := List.length_tail (l := D)
  rw [List.length_append, zs_len] at b
  rw [List.length_cons, List.length_append]
  omega
theorem generalS_len (D : List UInt8) {p prec : Int} (hD : D.length ≤ 800) (hp0 : -1200 ≤ p) (hp1 : p ≤ 400) (c : Bool) : (generalS D p prec c).length ≤ 5000 := by
  unfold generalS
  split
  · exact sciS_len D hD hp0 hp1 (by omega) (by omega) c
  · exact plainS_len D hD hp0 hp1 (by omega) (by omega)
end Go.Proofs.YtpkfpgjacijjeaaDoor.XrLy
