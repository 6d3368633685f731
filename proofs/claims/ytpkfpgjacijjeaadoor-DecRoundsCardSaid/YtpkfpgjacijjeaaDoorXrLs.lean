
/- The reference's reading of a number's text (chapter 10), at texts of digits, a point, digits, an exponent. -/
import Derived.Test.YtpkfpgjacijjeaaDoorXrLy
import Derived.Test.YtpkfpgjacijjeaaDoorXrx6
import Derived.Test.YtpkfpgjacijjeaaDoorXrx8
namespace Go.Proofs.YtpkfpgjacijjeaaDoor.XrLs
open Go.RowKit Go.Proofs.YtpkfpgjacijjeaaDoor.Xr Go.Proofs.YtpkfpgjacijjeaaDoorW.PrintWords Go.Proofs.YtpkfpgjacijjeaaDoorW.PrintLast Go.Proofs.YtpkfpgjacijjeaaDoorW.PrintMore Go.Proofs.YtpkfpgjacijjeaaDoor.XrLy
set_option linter.unusedVariables false
set_option linter.unusedSimpArgs false

theorem mx_def (a b : Int) : mx a b = max a b := by unfold mx; omega
theorem mn_def (a b : Int) : mn a b = min a b := by unfold mn; omega
theorem bt_nat (l : List UInt8) (i : Nat) : bt (mk l) (i : Int) = ((l.getD i 0).toNat : Int) := by rw [bt_mk, Int.toNat_natCast]
theorem getD_pre (pre r : List UInt8) (j : Nat) : (pre ++ r).getD (pre.length + j) 0 = r.getD j 0 := by
  simp only [List.getD_eq_getElem?_getD]
  rw [List.getElem?_append_right (by omega), show pre.length + j - pre.length = j by omega]
theorem strOf (x : List UInt8) : strOfNums (x.map fun z => (z.toNat : Int)) = mk x := by
  unfold strOfNums mk
  rw [List.map_map]
  have : (x.map ((fun n : Int => UInt8.ofNat n.toNat) ∘ fun z => (z.toNat : Int))) = x := by
    rw [List.map_congr_left (g := id) (fun b _ => by simp)]
    exact List.map_id x
  rw [this]
theorem digs_cons (c : UInt8) (l : List UInt8) : digs (c :: l) = (decide (48 ≤ c.toNat) && decide (c.toNat ≤ 57) && digs l) := rfl
/-- A row of digits, up to what is none. -/
def stops (r : List UInt8) : Prop := ((r.getD 0 0).toNat < 48 ∨ 57 < (r.getD 0 0).toNat) ∧ (r.getD 0 0).toNat ≠ 95
theorem stops_nil : stops [] := by unfold stops; decide
theorem stops_46 (x : List UInt8) : stops (46 :: x) := ⟨Or.inl (by show (46 : UInt8).toNat < 48; decide), by show (46 : UInt8).toNat ≠ 95; decide⟩
/-! The exponent -/
def val : Int → List UInt8 → Int
  | x, [] => x
  | x, c :: l => val (x * 10 + ((c.toNat : Int) - 48)) l
theorem val_append : ∀ (a b : List UInt8) (x : Int), val x (a ++ b) = val (val x a) b
  | [], b, x => rfl
  | c :: a, b, x => by rw [List.cons_append, val, val, val_append a b]
theorem val_ge : ∀ (a : List UInt8) (x : Int), 0 ≤ x → digs a = true → x ≤ val x a
  | [], x, _, _ => Int.le_refl _
  | c :: a, x, hx, h => by
    rw [digs_cons, Bool.and_eq_true, Bool.and_eq_true] at h
    have h1 := of_decide_eq_true h.1.1
    have := val_ge a (x * 10 + ((c.toNat : Int) - 48)) (by omega) h.2
    rw [val]; omega
theorem val_dec (n : Nat) : val 0 (Lib.decDigits n) = n := by
  induction n using Nat.strongRecOn with
  | _ n ih =>
    have hm : ∀ m : Nat, m < 10 → ((UInt8.ofNat (48 + m)).toNat : Int) = 48 + m := fun m hm => by
      rw [UInt8.toNat_ofNat']; omega
    rw [Lib.decDigits]
    by_cases h : n < 10
    · rw [dif_pos h, val, val, hm n h]; omega
    · rw [dif_neg h, val_append, ih (n / 10) (by omega), val, val, hm (n % 10) (by omega)]; omega
theorem digs_dec (n : Nat) : digs (Lib.decDigits n) = true := by
  induction n using Nat.strongRecOn with
  | _ n ih =>
    have hm : ∀ m : Nat, m < 10 → digs [UInt8.ofNat (48 + m)] = true := fun m hm => by
      have : (UInt8.ofNat (48 + m)).toNat = 48 + m := by rw [UInt8.toNat_ofNat']; omega
      rw [digs_cons, this, decide_eq_true (by omega), decide_eq_true (by omega)]; rfl
    rw [Lib.decDigits]
    by_cases h : n < 10
    · rw [dif_pos h]; exact hm n h
    · rw [dif_neg h]
      unfold digs at *
      rw [List.all_append, ih (n / 10) (by omega), hm (n % 10) (by omega)]; rfl
theorem val_pad (n : Nat) : val 0 (pad2 (Lib.decDigits n)) = n := by
  unfold pad2
  split
  · rw [val]; exact val_dec n
  · exact val_dec n
theorem digs_pad (n : Nat) : digs (pad2 (Lib.decDigits n)) = true := by
  unfold pad2
  split
  · rw [digs_cons, digs_dec]; rfl
  · exact digs_dec n
theorem pad2_ne (n : Nat) : pad2 (Lib.decDigits n) ≠ [] := by
  have := d1 n
  unfold pad2
  split
  · simp
  · intro h; rw [h] at this; simp at this
/-! The digits, made a number -/
def clean (D : List UInt8) : Prop := D = [] ∨ (D.getD 0 0 ≠ 48 ∧ D.getD (D.length - 1) 0 ≠ 48)
theorem zs_get (n j : Nat) (h : j < n) : (zs n).getD j 0 = 48 := by
  unfold zs
  rw [List.getD_eq_getElem?_getD, List.getElem?_replicate, if_pos h]; rfl
theorem getD_lt {a b : List UInt8} {j : Nat} (h : j < a.length) : (a ++ b).getD j 0 = a.getD j 0 := by
  rw [List.getD_eq_getElem?_getD, List.getD_eq_getElem?_getD, List.getElem?_append_left h]
theorem make_l2 (D : List UInt8) (hD : clean D) (pt lead : Int) (hD8 : D.length ≤ 800) : ∀ (b k : Nat), b < k → b ≤ 100000 → numeralref03_Make.l2 k (mk (D ++ zs b)) pt false lead = numeralref03_Make.j5 (k - b - 1) (mk D) pt false lead
  | 0, k + 1, _, _ => by
    rw [numeralref03_Make.l2, if_neg (by decide), zs_zero, List.append_nil, mk_size]
    by_cases h : D = []
    · rw [if_neg (by rw [h]; simp)]; rfl
    · have hl : 0 < D.length := List.length_pos_iff.2 h
      rcases hD with hD | hD
      · exact absurd hD h
      · rw [if_pos (by omega), wrapi_id (by omega) (by omega), if_pos (by omega), if_pos (by omega), show ((D.length : Int) - 1) = ((D.length - 1 : Nat) : Int) by omega, bt_nat, if_neg (by rw [b48]; exact hD.2)]; rfl
  | b + 1, k + 1, hk, hb => by
    have hl : (D ++ zs (b + 1)).length = D.length + b + 1 := by rw [List.length_append, zs_len]; rfl
    have hz : (D ++ zs (b + 1)).getD (D.length + b) 0 = 48 := by rw [getD_pre]; exact zs_get _ _ (by omega)
    have hx : (mk (D ++ zs (b + 1))).extract 0 (D.length + b) = mk (D ++ zs b) := by
      rw [mk_extract, List.drop_zero, zs_add b 1, ← List.append_assoc, List.take_left' (by rw [List.length_append, zs_len])]
    rw [numeralref03_Make.l2, if_neg (by decide), mk_size, hl, wrapi_id (by omega) (by omega), show (((D.length + b + 1 : Nat) : Int) - 1) = ((D.length + b : Nat) : Int) by omega, if_pos (by omega), if_pos (by omega), if_pos (by omega), bt_nat, hz, if_pos (by decide), if_pos (by omega), Int.toNat_natCast, hx, make_l2 D hD pt lead hD8 b k (by omega) (by omega), show k + 1 - (b + 1) - 1 = k - b - 1 by omega]
theorem make_l1 (s : List UInt8) (pt lead : Int) (hs : s.length ≤ 100000) (h0 : ∀ j, 800 ≤ j → j < s.length → s.getD j 0 = 48) (h8 : 800 ≤ s.length) : ∀ (n i k : Nat), i + n = s.length → 800 ≤ i → n < k → numeralref03_Make.l1 k (mk s) pt false lead (i : Int) = numeralref03_Make.j3 (k - n - 1) (mk (s.take 800)) pt false lead
  | 0, i, k + 1, hi, _, _ => by
    rw [numeralref03_Make.l1, mk_size, if_neg (by omega), if_pos (by decide), if_pos (by omega), mk_extract, List.drop_zero]; rfl
  | n + 1, i, k + 1, hi, h8i, hk => by
    have hst : (wrap64 ((i : Int) + 1)) = ((i + 1 : Nat) : Int) := by rw [wrapi_id (by omega) (by omega)]; omega
    have hz := h0 i h8i (by omega)
    rw [numeralref03_Make.l1, mk_size, if_pos (by omega), if_neg (by decide), if_pos (by omega), bt_nat, hz, hst, show ((((48 : UInt8).toNat : Int)) != 48) = false from rfl, make_l1 s pt lead hs h0 h8 n (i + 1) k (by omega) (by omega) (by omega), show k + 1 - (n + 1) - 1 = k - n - 1 by omega]
/-- What stands behind the noughts ahead. -/
def bigR (D : List UInt8) (b : Nat) : List UInt8 := D ++ zs b
theorem make_j1 (s D : List UInt8) (a b : Nat) (hs : s = zs a ++ (D ++ zs b)) (hl : s.length ≤ 20000) (hD : clean D) (hD8 : D.length ≤ 800) {k : Nat} (hk : 50000 ≤ k) :
    numeralref03_Make.j1 k (mk s) 0 false (a : Int) = some (if D = [] then (mk [], 0, false, 0) else (mk D, -(a : Int), false, 0)) := by
  obtain ⟨k, rfl⟩ : ∃ j, k = j + 1 := ⟨k - 1, by omega⟩
  have hlen : s.length = a + (D.length + b) := by rw [hs, List.length_append, List.length_append, zs_len, zs_len]
  have hx : (mk s).extract (a : Int).toNat s.length = mk (D ++ zs b) := by
    rw [mk_extract, List.take_length, Int.toNat_natCast, hs, List.drop_left' (zs_len a)]
  have hj5 : ∀ j, numeralref03_Make.j5 (j + 1) (mk D) 0 false (a : Int) = some (if D = [] then (mk [], 0, false, 0) else (mk D, -(a : Int), false, 0)) := fun j => by
    rw [numeralref03_Make.j5, mk_size]
    by_cases h : D = []
    · rw [if_pos (by rw [h]; rfl), if_neg (by decide), if_pos h]; rfl
    · have : 0 < D.length := List.length_pos_iff.2 h
      rw [if_neg (by omega), if_neg (by decide), wrapi_id (by omega) (by omega), if_neg (by omega), wrapi_id (by omega) (by omega), if_neg (by omega), if_neg h, Int.zero_sub]
  have hl2 : ∀ (k b : Nat), 30000 ≤ k → b ≤ 20000 → numeralref03_Make.l2 k (mk (D ++ zs b)) 0 false (a : Int) = some (if D = [] then (mk [], 0, false, 0) else (mk D, -(a : Int), false, 0)) := fun k b h1 h2 => by
    rw [make_l2 D hD 0 a hD8 b k (by omega) (by omega), show k - b - 1 = (k - b - 2) + 1 by omega]
    exact hj5 _
  rw [numeralref03_Make.j1, mk_size, if_pos (by omega), if_pos (by omega), hx]
  have hsz : (mk (D ++ zs b)).size = D.length + b := by rw [mk_size, List.length_append, zs_len]
  have hcond : ∀ (P Q : Option (ByteArray × Int × Bool × Int)) (R : Option (ByteArray × Int × Bool × Int)), (D.length + b > 800 → P = R) → (¬ D.length + b > 800 → Q = R) → ∀ z : Int, z = ((D.length + b : Nat) : Int) → (if z > 800 then P else Q) = R := fun P Q R h1 h2 z hz => by
    subst hz
    by_cases h : D.length + b > 800
    · rw [if_pos (by omega)]; exact h1 h
    · rw [if_neg (by omega)]; exact h2 h
  refine hcond _ _ _ (fun h => ?_) (fun h => ?_) _ (by first | rw [hsz] | (rw [mk_size, hlen]; omega) | omega)
  · have ht : (D ++ zs b).take 800 = D ++ zs (800 - D.length) := by
      rw [List.take_append, List.take_of_length_le hD8]
      unfold zs
      rw [List.take_replicate]
      congr 2; omega
    have := make_l1 (D ++ zs b) 0 a (by rw [List.length_append, zs_len]; omega) (fun j h1 h2 => by
      rw [show j = D.length + (j - D.length) by omega, getD_pre]
      rw [List.length_append, zs_len] at h2
      exact zs_get _ _ (by omega)) (by rw [List.length_append, zs_len]; omega) (D.length + b - 800) 800 k (by rw [List.length_append, zs_len]; omega) (by omega) (by omega)
    rw [show ((800 : Nat) : Int) = 800 from rfl] at this
    rw [this, ht, show k - (D.length + b - 800) - 1 = (k - (D.length + b - 800) - 2) + 1 by omega, numeralref03_Make.j3]
    exact hl2 _ _ (by omega) (by omega)
  · obtain ⟨k, rfl⟩ : ∃ j, k = j + 1 := ⟨k - 1, by omega⟩
    rw [numeralref03_Make.j3]
    exact hl2 _ _ (by omega) (by omega)
theorem get_lead {s D : List UInt8} {a b : Nat} (hs : s = zs a ++ (D ++ zs b)) (h : D ≠ []) : s.getD a 0 = D.getD 0 0 := by
  have h1 := getD_pre (zs a) (D ++ zs b) 0
  rw [zs_len, Nat.add_zero] at h1
  rw [hs, h1, getD_lt (List.length_pos_iff.2 h)]
theorem make_l0 (s D : List UInt8) (a b : Nat) (hs : s = zs a ++ (D ++ zs b)) (hl : s.length ≤ 20000) (hD : clean D) (hDb : D = [] → b = 0) (hD8 : D.length ≤ 800) : ∀ (n i k : Nat), i + n = a → 50000 + n < k →
    numeralref03_Make.l0 k (mk s) 0 false (i : Int) = some (if D = [] then (mk [], 0, false, 0) else (mk D, -(a : Int), false, 0))
  | 0, i, k, hi, hk => by
    obtain ⟨k, rfl⟩ : ∃ j, k = j + 1 := ⟨k - 1, by omega⟩
    have hia : i = a := by omega
    have hlen : s.length = a + (D.length + b) := by rw [hs, List.length_append, List.length_append, zs_len, zs_len]
    have hj := make_j1 s D a b hs hl hD hD8 (k := k) (by omega)
    rw [numeralref03_Make.l0, mk_size, hia]
    by_cases h : D = []
    · have hb := hDb h
      have : D.length = 0 := by rw [h]; rfl
      rw [if_neg (by omega), hj]
    · have : 0 < D.length := List.length_pos_iff.2 h
      rcases hD with hD | hD
      · exact absurd hD h
      · rw [if_pos (by omega), if_pos (by omega), bt_nat, get_lead hs h, if_neg (by rw [b48]; exact hD.1), hj]
  | n + 1, i, k, hi, hk => by
    obtain ⟨k, rfl⟩ : ∃ j, k = j + 1 := ⟨k - 1, by omega⟩
    have hlen : s.length = a + (D.length + b) := by rw [hs, List.length_append, List.length_append, zs_len, zs_len]
    have hst : (wrap64 ((i : Int) + 1)) = ((i + 1 : Nat) : Int) := by rw [wrapi_id (by omega) (by omega)]; omega
    have hg : s.getD i 0 = 48 := by rw [hs, getD_lt (by rw [zs_len]; omega), zs_get _ _ (by omega)]
    rw [numeralref03_Make.l0, mk_size, if_pos (by omega), if_pos (by omega), bt_nat, hg, if_pos (by decide), hst]
    exact make_l0 s D a b hs hl hD hDb hD8 n (i + 1) k (by omega) (by omega)
theorem digits_l0' (s : List UInt8) (hl : s.length ≤ 20000) (hd : digs s = true) : ∀ (n i k : Nat), i + n = s.length → n < k → numeralref03_digits.l0 k (mk s) (i : Int) = some true
  | 0, i, k, hi, hk => by
    obtain ⟨k, rfl⟩ : ∃ j, k = j + 1 := ⟨k - 1, by omega⟩
    rw [numeralref03_digits.l0, mk_size, if_neg (by omega)]
  | n + 1, i, k, hi, hk => by
    obtain ⟨k, rfl⟩ : ∃ j, k = j + 1 := ⟨k - 1, by omega⟩
    have hil : i < s.length := by omega
    have hst : (wrap64 ((i : Int) + 1)) = ((i + 1 : Nat) : Int) := by rw [wrapi_id (by omega) (by omega)]; omega
    have hb : bt (mk s) (i : Int) = (s[i].toNat : Int) := by
      rw [bt_nat, List.getD_eq_getElem?_getD, List.getElem?_eq_getElem hil]; rfl
    have hdi : 48 ≤ s[i].toNat ∧ s[i].toNat ≤ 57 := by
      unfold digs at hd
      have := List.all_eq_true.1 hd s[i] (List.getElem_mem hil)
      rw [Bool.and_eq_true] at this
      exact ⟨of_decide_eq_true this.1, of_decide_eq_true this.2⟩
    rw [numeralref03_digits.l0, mk_size, if_pos (by omega), if_pos (by omega), hb, if_neg (by omega), if_neg (by omega), hst]
    exact digits_l0' s hl hd n (i + 1) k (by omega) (by omega)
theorem make_eq {s D : List UInt8} {a b k : Nat} (hs : s = zs a ++ (D ++ zs b)) (hl : s.length ≤ 20000) (hd : digs s = true) (hD : clean D) (hDb : D = [] → b = 0) (hD8 : D.length ≤ 800) (hk : 80000 ≤ k) :
    numeralref03_Make.f k (mk s) 0 false = some (if D = [] then (mk [], 0, false, 0) else (mk D, -(a : Int), false, 0)) := by
  have hlen : s.length = a + (D.length + b) := by rw [hs, List.length_append, List.length_append, zs_len, zs_len]
  unfold numeralref03_Make.f numeralref03_digits.f
  have h1 := digits_l0' s hl hd s.length 0 k (by omega) (by omega)
  have h2 := make_l0 s D a b hs hl hD hDb hD8 a 0 k (by omega) (by omega)
  rw [show ((0 : Nat) : Int) = 0 from rfl] at h1 h2
  rw [h1, Option.bind_some, if_pos rfl, h2]
/-! The whole text -/
/-- What stands behind the digits: nothing, or an exponent. -/
def tailS (r : List UInt8) (e : Int) : Prop := (r = [] ∧ e = 0) ∨ ∃ c, r = expo e c
theorem tailS_head {r : List UInt8} {e : Int} (h : tailS r e) : (r.getD 0 0).toNat = 0 ∨ (r.getD 0 0).toNat = 69 ∨ (r.getD 0 0).toNat = 101 := by
  rcases h with ⟨h, _⟩ | ⟨c, h⟩
  · left; rw [h]; rfl
  · right
    rw [h]
    unfold expo
    cases c
    · right; rfl
    · left; rfl
end Go.Proofs.YtpkfpgjacijjeaaDoor.XrLs
