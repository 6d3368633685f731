
/- The exponents of a layout: the program's one is the reference's: a letter, a sign, at least two digits. -/
import Derived.Lib.ItoaNum
import Derived.Test.YthgdopfjkgdajaaDoorXex6
import Derived.Test.YthgdopfjkgdajaaDoorXex6
namespace Go.Proofs.YthgdopfjkgdajaaDoor.Pure
open Go.RowKit Go.Proofs.YthgdopfjkgdajaaDoor.Xe Go.Proofs.YthgdopfjkgdajaaDoorW.PrintWords Go.Proofs.YthgdopfjkgdajaaDoorW.PrintLast

def mk (l : List UInt8) : ByteArray := ⟨l.toArray⟩
theorem mk_size (l : List UInt8) : (mk l).size = l.length := by simp [mk, ByteArray.size]
theorem mk_append (a b : List UInt8) : mk a ++ mk b = mk (a ++ b) := ByteArray.ext (by rw [ByteArray.data_append]; simp [mk])
theorem mk_drop (x : UInt8) (l : List UInt8) : (mk (x :: l)).extract 1 (mk (x :: l)).size = mk l := by
  apply ByteArray.ext
  rw [ByteArray.data_extract, mk_size]
  apply Array.ext'
  simp [mk]
theorem mk_toList (l : List UInt8) : (mk l).data.toList = l := rfl
theorem son (p : List Int) (q l : List UInt8) (h : strOfNums p = mk q) : strOfNums (p ++ bytesOf (mk l)) = mk (q ++ l) := by
  have h1 : (p.map fun n => UInt8.ofNat n.toNat) = q := by
    have := congrArg (fun b => b.data.toList) h
    simpa [strOfNums, mk] using this
  unfold strOfNums bytesOf
  rw [mk_toList, List.map_append, h1, List.map_map]
  congr 2
  have : (l.map ((fun n : Int => UInt8.ofNat n.toNat) ∘ fun b => (b.toNat : Int))) = l := by
    rw [List.map_congr_left (g := id) (fun b _ => by simp)]
    exact List.map_id l
  rw [this]
theorem itoa_f {a : Int} (h0 : -9223372036854775808 ≤ a) (h1 : a < 9223372036854775808) : strconv_Itoa.f a = some (mk (Lib.itoa a)) := by
  unfold strconv_Itoa.f mk
  rw [if_pos (by simp only [decide_eq_true_eq]; omega)]
theorem dlen (u : Nat) : (Lib.decDigits u).length = Lib.nDigits u := by rw [Lib.decDigits_eq]; simp
theorem dmost : ∀ (k u : Nat), u < 10 ^ (k + 1) → Lib.nDigits u ≤ k + 1
  | 0, u, h => by rw [Lib.nDigits_small (by simpa using h)]; omega
  | k + 1, u, h => by
    by_cases h2 : u < 10
    · rw [Lib.nDigits_small h2]; omega
    · rw [Lib.nDigits_big h2]
      have := dmost k (u / 10) (by rw [Nat.pow_succ] at h; omega)
      omega
theorem d20 {u : Nat} (h : u < 18446744073709551616) : (Lib.decDigits u).length ≤ 20 := by
  rw [dlen]; exact dmost 19 u (by omega)
theorem d1 (u : Nat) : 1 ≤ (Lib.decDigits u).length := by rw [dlen]; exact Lib.nDigits_pos u

/-- Digits, two at the least. -/
def pad2 (l : List UInt8) : List UInt8 := if l.length < 2 then 48 :: l else l
def expo (n : Int) (c : Bool) : List UInt8 := (if c = true then 69 else 101) :: (if n < 0 then 45 else 43) :: pad2 (Lib.decDigits n.natAbs)

theorem Exponent_j0 (k : Nat) {a : Int} (h0 : -9223372036854775808 ≤ a) (h1 : a < 9223372036854775808) (x : List Int) (y : UInt8) (hx : x.length = 1) (hxy : strOfNums x = mk [y]) :
    layout_Exponent.j0 (k + 1) a x = some (mk (y :: (if a < 0 then 45 else 43) :: pad2 (Lib.decDigits a.natAbs))) := by
  have hl := d20 (u := a.natAbs) (by omega)
  have hl1 := d1 a.natAbs
  have hp : ∀ z : Int, ∀ t : UInt8, UInt8.ofNat z.toNat = t → strOfNums (x ++ [z]) = mk [y, t] := fun z t hz => by
    have := congrArg (fun b => b.data.toList) hxy
    simp [strOfNums, mk] at this
    obtain ⟨q, rfl, rfl⟩ := this
    simp [strOfNums, mk, hz]
  have hq : ∀ z z' : Int, ∀ t t' : UInt8, UInt8.ofNat z.toNat = t → UInt8.ofNat z'.toNat = t' → strOfNums ((x ++ [z]) ++ [z']) = mk [y, t, t'] := fun z z' t t' hz hz' => by
    have := congrArg (fun b => b.data.toList) hxy
    simp [strOfNums, mk] at this
    obtain ⟨q, rfl, rfl⟩ := this
    simp [strOfNums, mk, hz, hz']
  rw [layout_Exponent.j0, itoa_f h0 h1]
  simp only [Option.bind_some]
  by_cases hn : a < 0
  · have hi : Lib.itoa a = 45 :: Lib.decDigits a.natAbs := by unfold Lib.itoa; rw [if_pos hn]
    rw [hi, if_pos hn, if_pos hn, mk_drop, mk_size, mk_size]
    have hs : ((45 : UInt8) :: Lib.decDigits a.natAbs).length = (Lib.decDigits a.natAbs).length + 1 := rfl
    rw [hs, if_pos (by omega), if_pos (by omega)]
    unfold pad2
    by_cases h2 : (Lib.decDigits a.natAbs).length < 2
    · rw [if_pos (by omega), if_pos (by simp; omega), if_pos (by simp; omega), if_pos h2, son _ _ _ (hq 45 48 45 48 rfl rfl)]
      rfl
    · rw [if_neg (by omega), if_pos (by simp; omega), if_neg h2, son _ _ _ (hp 45 45 rfl)]
      rfl
  · have hi : Lib.itoa a = Lib.decDigits a.natAbs := by unfold Lib.itoa; rw [if_neg hn, show a.toNat = a.natAbs by omega]
    rw [hi, if_neg hn, if_neg hn, mk_size, if_pos (by omega)]
    unfold pad2
    by_cases h2 : (Lib.decDigits a.natAbs).length < 2
    · rw [if_pos (by omega), if_pos (by simp; omega), if_pos (by simp; omega), if_pos h2, son _ _ _ (hq 43 48 43 48 rfl rfl)]
      rfl
    · rw [if_neg (by omega), if_pos (by simp; omega), if_neg h2, son _ _ _ (hp 43 43 rfl)]
      rfl
theorem Exponent_eq (k : Nat) {a : Int} (h0 : -9223372036854775808 ≤ a) (h1 : a < 9223372036854775808) (c : Bool) : layout_Exponent.f (k + 1) a c = some (mk (expo a c)) := by
  unfold layout_Exponent.f expo
  rw [Option.bind_some]
  cases c with
  | true => rw [if_pos rfl, if_pos (by decide)]; exact Exponent_j0 k h0 h1 _ 69 rfl rfl
  | false => rw [if_neg (by decide)]; exact Exponent_j0 k h0 h1 _ 101 rfl rfl

/-! The reference -/
theorem table (r : Nat) (h : r < 10) : ((⟨#[48, 49, 50, 51, 52, 53, 54, 55, 56, 57, 97, 98, 99, 100, 101, 102, 103, 104, 105, 106, 107, 108, 109, 110, 111, 112, 113, 114, 115, 116, 117, 118, 119, 120, 121, 122]⟩ : ByteArray).extract r (r + 1)) = mk [UInt8.ofNat (48 + r)] := by
  have : ∀ r : Fin 10, ((⟨#[48, 49, 50, 51, 52, 53, 54, 55, 56, 57, 97, 98, 99, 100, 101, 102, 103, 104, 105, 106, 107, 108, 109, 110, 111, 112, 113, 114, 115, 116, 117, 118, 119, 120, 121, 122]⟩ : ByteArray).extract r.val (r.val + 1)) = mk [UInt8.ofNat (48 + r.val)] := by decide +kernel
  exact this ⟨r, h⟩
theorem wrapu' {n : Int} (h0 : 0 ≤ n) (h1 : n < 18446744073709551616) : IntKind.u64.wrap n = n := by
  have : IntKind.u64.wrap n = n % 18446744073709551616 := by simp [IntKind.wrap, IntKind.signed, IntKind.bits]
  rw [this]; omega
theorem Format_l0 : ∀ (k u : Nat), u < 18446744073709551616 → (Lib.decDigits u).length ≤ k → ∀ t : List UInt8, t.length + (Lib.decDigits u).length ≤ 1000 →
    numeralref07_Format.l0 k (u : Int) 10 (mk t) = some (mk (Lib.decDigits u ++ t), 0)
  | 0, u, _, hk, _, _ => by have := d1 u; omega
  | k + 1, u, hu, hk, t, ht => by
    have e10 : IntKind.u64.wrap 10 = 10 := rfl
    have em : Int.tmod (u : Int) 10 = ((u % 10 : Nat) : Int) := by rw [Int.tmod_eq_emod_of_nonneg (by omega)]; omega
    have ed : Int.tdiv (u : Int) 10 = ((u / 10 : Nat) : Int) := by rw [Int.tdiv_eq_ediv_of_nonneg (by omega)]; omega
    have ew : IntKind.u64.wrap (((u % 10 : Nat) : Int) + 1) = ((u % 10 + 1 : Nat) : Int) := by rw [wrapu' (by omega) (by omega)]; omega
    have ew2 : IntKind.u64.wrap ((u / 10 : Nat) : Int) = ((u / 10 : Nat) : Int) := wrapu' (by omega) (by omega)
    rw [numeralref07_Format.l0, e10, if_neg (by decide), em, ed, ew, ew2, if_pos (by omega), if_pos (by omega), if_pos (by omega), Int.toNat_natCast, Int.toNat_natCast, table _ (by omega), mk_size, mk_size, if_pos (by have := d1 u; simp only [List.length_cons, List.length_nil]; omega), mk_append]
    by_cases h2 : u < 10
    · have ez : Lib.decDigits u = [UInt8.ofNat (48 + u)] := by rw [Lib.decDigits, dif_pos h2]
      rw [if_pos (by omega), ez, show u % 10 = u by omega]
    · have ez : Lib.decDigits u = Lib.decDigits (u / 10) ++ [UInt8.ofNat (48 + u % 10)] := by rw [Lib.decDigits, dif_neg h2]
      have el : (Lib.decDigits u).length = (Lib.decDigits (u / 10)).length + 1 := by rw [ez]; simp
      rw [if_neg (by omega), Format_l0 k (u / 10) (by omega) (by omega) _ (by simp only [List.length_append, List.length_cons, List.length_nil]; omega), ez, List.append_assoc]
theorem Format_eq (k : Nat) {u : Nat} (hu : u < 18446744073709551616) (hk : 20 ≤ k) : numeralref07_Format.f k (u : Int) 10 = some (mk (Lib.decDigits u), 0) := by
  have := d20 hu
  unfold numeralref07_Format.f
  rw [show numeralref07_Base.f 10 = some true from rfl, Option.bind_some, if_pos rfl, show (⟨#[]⟩ : ByteArray) = mk [] from rfl, Format_l0 k u hu (by omega) [] (by simp only [List.length_nil]; omega), List.append_nil]
theorem Pad_l0 (k : Nat) {l : List UInt8} (h1 : 1 ≤ l.length) (h2 : l.length ≤ 20) : numeralref07_Pad.l0 (k + 2) 2 (mk l) = some (mk (pad2 l), 0) := by
  unfold pad2
  by_cases h : l.length < 2
  · rw [numeralref07_Pad.l0, mk_size, if_pos (by omega), if_pos (by omega), if_pos h, show (⟨#[48]⟩ : ByteArray) = mk [48] from rfl, mk_append, numeralref07_Pad.l0, mk_size, if_neg (by simp only [List.length_append, List.length_cons, List.length_nil]; omega)]
    rfl
  · rw [numeralref07_Pad.l0, mk_size, if_neg (by omega), if_neg h]
theorem Pad_eq (k : Nat) {u : Nat} (hu : u < 18446744073709551616) (hk : 20 ≤ k) : numeralref07_Pad.f k (u : Int) 10 2 = some (mk (pad2 (Lib.decDigits u)), 0) := by
  obtain ⟨k, rfl⟩ : ∃ j, k = j + 3 := ⟨k - 3, by omega⟩
  unfold numeralref07_Pad.f
  rw [Format_eq _ hu hk, Option.bind_some, if_pos rfl, if_neg (by decide), numeralref07_Pad.j0, if_neg (by decide), Pad_l0 _ (d1 u) (d20 hu)]
theorem Abs_eq {a : Int} (h0 : -9223372036854775808 ≤ a) (h1 : a < 9223372036854775808) : numeralref08_Abs.f a = some ((a.natAbs : Nat) : Int) := by
  have wu : ∀ n : Int, IntKind.u64.wrap n = n % 18446744073709551616 := fun n => by simp [IntKind.wrap, IntKind.signed, IntKind.bits]
  unfold numeralref08_Abs.f
  by_cases hn : a < 0
  · rw [if_pos hn, wu, wu]; congr 1; omega
  · rw [if_neg hn, wu]; congr 1; omega
theorem pad2_len {l : List UInt8} (h : l.length ≤ 20) : (pad2 l).length ≤ 21 := by
  unfold pad2; split
  · simp only [List.length_cons]; omega
  · omega
theorem rExponent_j0 (k : Nat) (hk : 20 ≤ k) {a : Int} (h0 : -9223372036854775808 ≤ a) (h1 : a < 9223372036854775808) (y : UInt8) :
    numeralref24_Exponent.j0 (k + 1) a (mk [y]) = some (mk (y :: (if a < 0 then 45 else 43) :: pad2 (Lib.decDigits a.natAbs))) := by
  have hl := pad2_len (d20 (u := a.natAbs) (by omega))
  have h1 : (mk [y]).size = 1 := rfl
  rw [numeralref24_Exponent.j0, Abs_eq h0 ‹_›, h1, Option.bind_some, Option.bind_some, Pad_eq k (by omega) hk, Option.bind_some, Option.bind_some]
  simp only [mk_size]
  by_cases hn : a < 0
  · rw [if_pos hn, if_pos hn, if_pos (by decide), if_pos (by omega), show (⟨#[45]⟩ : ByteArray) = mk [45] from rfl, mk_append, mk_append]
    rfl
  · rw [if_neg hn, if_neg hn, if_pos (by decide), if_pos (by omega), show (⟨#[43]⟩ : ByteArray) = mk [43] from rfl, mk_append, mk_append]
    rfl
theorem rExponent_eq (k : Nat) (hk : 20 ≤ k) {a : Int} (h0 : -9223372036854775808 ≤ a) (h1 : a < 9223372036854775808) (c : Bool) : numeralref24_Exponent.f (k + 1) a c = some (mk (expo a c)) := by
  unfold numeralref24_Exponent.f expo
  cases c with
  | true => rw [if_pos rfl]; exact rExponent_j0 k hk h0 h1 69
  | false => rw [if_neg (by decide)]; exact rExponent_j0 k hk h0 h1 101
theorem works : numerallaw24_works.f 40 = some true := by decide +kernel
theorem LayoutExponents : numerallaw24_LayoutExponents.Pure := by
  intro a c wf
  have h : -9223372036854775808 ≤ a ∧ a < 9223372036854775808 := by
    simp only [Lit.wf, IntKind.min, IntKind.max, IntKind.signed, IntKind.bits, Bool.and_eq_true, decide_eq_true_eq] at wf
    simp at wf; omega
  refine ⟨40, ?_⟩
  unfold numerallaw24_LayoutExponents.f
  rw [Exponent_eq 39 h.1 h.2, Option.bind_some, rExponent_eq 39 (by omega) h.1 h.2, Option.bind_some, if_pos rfl, works, Option.bind_some]
end Go.Proofs.YthgdopfjkgdajaaDoor.Pure
