
/- The reference's reading of a number's text (chapter 10), at texts of digits, a point, digits, an exponent. -/
import Derived.Test.YtmncgmgcngokoaaDoorXbLy
import Derived.Test.YtmncgmgcngokoaaDoorXbx10
import Derived.Test.YtmncgmgcngokoaaDoorXbx11
import Derived.Test.YtmncgmgcngokoaaDoorXbx12
import Derived.Test.YtmncgmgcngokoaaDoorXbx6
import Derived.Test.YtmncgmgcngokoaaDoorXbx7
import Derived.Test.YtmncgmgcngokoaaDoorXbx8
import Derived.Test.YtmncgmgcngokoaaDoorXbx9
namespace Go.Proofs.YtmncgmgcngokoaaDoor.XbLs
open Go.RowKit Go.Proofs.YtmncgmgcngokoaaDoor.Xb Go.Proofs.YtmncgmgcngokoaaDoorW.PrintWords Go.Proofs.YtmncgmgcngokoaaDoorW.PrintLast Go.Proofs.YtmncgmgcngokoaaDoorW.PrintMore Go.Proofs.YtmncgmgcngokoaaDoor.XbLy
set_option linter.unusedVariables false
set_option linter.unusedSimpArgs false

theorem mx_def (a b : Int) : mx a b = max a b := by unfold mx; omega
theorem mn_def (a b : Int) : mn a b = min a b := by unfold mn; omega
theorem bt_nat (l : List UInt8) (i : Nat) : bt (mk l) (i : Int) = ((l.getD i 0).toNat : Int) := by rw [bt_mk, Int.toNat_natCast]
theorem getD_pre (pre r : List UInt8) (j : Nat) : (pre ++ r).getD (pre.length + j) 0 = r.getD j 0 := by
  simp only [List.getD_eq_getElem?_getD]
  rw [List.getElem?_append_right (by omega), show pre.length + j - pre.length = j by omega]
theorem at_eq (l : List UInt8) (i : Nat) : numeralref10_at.f (mk l) (i : Int) = some ((l.getD i 0).toNat : Int) := by
  unfold numeralref10_at.f
  rw [mk_size, if_neg (by omega)]
  by_cases h : i < l.length
  · rw [if_neg (by omega), if_pos (by omega), if_pos (by omega), bt_nat]
  · rw [if_pos (by omega), List.getD_eq_getElem?_getD, List.getElem?_eq_none (by omega)]; rfl
theorem digit_eq (v : Int) : numeralref10_digit.f v false = some (decide (48 ≤ v ∧ v ≤ 57)) := by
  unfold numeralref10_digit.f
  by_cases h : v ≥ 48
  · rw [if_pos h]
    by_cases h2 : v ≤ 57
    · rw [if_pos h2, decide_eq_true (by omega)]
    · rw [if_neg h2, if_neg (by decide), decide_eq_false (by omega)]
  · rw [if_neg h, if_neg (by decide), decide_eq_false (by omega)]
theorem small_id {v : Int} (h : v < 65 ∨ 90 < v) : numeralref10_small.f v = some v := by
  unfold numeralref10_small.f
  by_cases h1 : v ≥ 65
  · rw [if_pos h1, if_neg (by omega)]
  · rw [if_neg h1]
theorem strOf (x : List UInt8) : strOfNums (x.map fun z => (z.toNat : Int)) = mk x := by
  unfold strOfNums mk
  rw [List.map_map]
  have : (x.map ((fun n : Int => UInt8.ofNat n.toNat) ∘ fun z => (z.toNat : Int))) = x := by
    rw [List.map_congr_left (g := id) (fun b _ => by simp)]
    exact List.map_id x
  rw [this]
theorem digs_cons (c : UInt8) (l : List UInt8) : digs (c :: l) = (decide (48 ≤ c.toNat) && decide (c.toNat ≤ 57) && digs l) := rfl
/-- A row of digits, up to what is none. -/
def stops (r : List UInt8) : Prop := ((r.getD 0 0).toNat < 48 ∨ 57 < (r.getD 0 0).toNat) ∧ (r.getD 0 0).toNat ≠ 95
theorem run_l0 (l : List UInt8) (hl : l.length ≤ 100000) : ∀ (a pre r x : List UInt8) (k : Nat) (fr : Bool), l = pre ++ (a ++ r) → digs a = true → stops r → a.length < k → x.length + a.length ≤ 200000 →
    numeralref10_run.l0 k (mk l) (pre.length : Int) false fr (x.map fun z => (z.toNat : Int)) = some (mk (x ++ a), ((pre.length + a.length : Nat) : Int))
  | [], pre, r, x, k + 1, fr, hl2, _, hr, _, _ => by
    have hg : l.getD pre.length 0 = r.getD 0 0 := by rw [hl2]; exact getD_pre pre r 0
    rw [numeralref10_run.l0, at_eq, hg, Option.bind_some, digit_eq, Option.bind_some, decide_eq_false (by have := hr.1; omega), if_neg (by decide), Option.bind_some, if_neg (by have := hr.2; omega), strOf, List.append_nil]
    rfl
  | c :: a, pre, r, x, k + 1, fr, hl2, ha, hr, hk, hx => by
    rw [digs_cons, Bool.and_eq_true, Bool.and_eq_true] at ha
    obtain ⟨⟨h1, h2⟩, h3⟩ := ha
    have h1 := of_decide_eq_true h1
    have h2 := of_decide_eq_true h2
    have hg : l.getD pre.length 0 = c := by rw [hl2]; exact getD_pre pre (c :: a ++ r) 0
    have hlen : l.length = pre.length + (a.length + 1 + r.length) := by rw [hl2, List.length_append, List.length_append, List.length_cons]
    have hxl : (x.map fun z => (z.toNat : Int)).length = x.length := List.length_map _
    have hs : (wrap64 ((pre.length : Int) + 1)) = (((pre ++ [c]).length : Nat) : Int) := by rw [wrapi_id (by omega) (by omega), List.length_append]; rfl
    have ih := run_l0 l hl a (pre ++ [c]) r (x ++ [c]) k false (by rw [hl2]; simp) h3 hr (by rw [List.length_cons] at hk; omega) (by rw [List.length_append]; simp only [List.length_cons, List.length_nil] at *; omega)
    rw [List.map_append] at ih
    simp only [List.length_cons] at hk hx
    rw [numeralref10_run.l0, at_eq, hg, Option.bind_some, digit_eq, Option.bind_some, decide_eq_true (by omega), if_pos rfl, if_pos (by omega), mk_size, if_pos (by omega), bt_nat, hg, if_pos (by rw [hxl]; omega), hs]
    rw [List.map_cons, List.map_nil] at ih
    rw [ih, List.append_assoc, List.length_append]
    simp only [List.length_cons, List.length_nil, List.cons_append, List.nil_append]
    congr 2
    omega
theorem run_eq {l pre a r : List UInt8} {k : Nat} (fr : Bool) (hl : l.length ≤ 100000) (h : l = pre ++ (a ++ r)) (ha : digs a = true) (hr : stops r) (hk : 100000 < k) :
    numeralref10_run.f k (mk l) (pre.length : Int) false fr = some (mk a, ((pre.length + a.length : Nat) : Int)) := by
  have hlen : a.length ≤ l.length := by rw [h, List.length_append, List.length_append]; omega
  unfold numeralref10_run.f
  have := run_l0 l hl a pre r [] k fr h ha hr (by omega) (by simp; omega)
  rw [List.nil_append] at this
  exact this
theorem stops_nil : stops [] := by unfold stops; decide
theorem stops_46 (x : List UInt8) : stops (46 :: x) := ⟨Or.inl (by show (46 : UInt8).toNat < 48; decide), by show (46 : UInt8).toNat ≠ 95; decide⟩
theorem mantissa_eq {l pre w q r : List UInt8} {k : Nat} (hl : l.length ≤ 100000) (h : l = pre ++ (w ++ (pointS q ++ r))) (hw : digs w = true) (hw0 : w ≠ []) (hq : digs q = true) (hr : stops r) (hr46 : (r.getD 0 0).toNat ≠ 46) (hk : 100000 < k) :
    numeralref10_mantissa.f k (mk l) (pre.length : Int) false = some (mk w, mk q, ((pre.length + (w ++ pointS q).length : Nat) : Int), true) := by
  unfold numeralref10_mantissa.f
  by_cases hq0 : q = []
  · subst hq0
    have e : pointS [] = [] := rfl
    rw [e, List.nil_append] at h
    have hg : l.getD (pre.length + w.length) 0 = r.getD 0 0 := by rw [h, ← List.append_assoc, ← List.length_append]; exact getD_pre (pre ++ w) r 0
    rw [run_eq false hl h hw hr hk, Option.bind_some]
    dsimp only
    rw [at_eq, hg, Option.bind_some, if_neg (by omega), mk_toList, if_neg hw0, e, List.append_nil]; rfl
  · have e : pointS q = 46 :: q := by unfold pointS; rw [if_neg hq0]
    rw [e] at h ⊢
    have hg : l.getD (pre.length + w.length) 0 = 46 := by rw [h, ← List.append_assoc, ← List.length_append]; exact getD_pre (pre ++ w) (46 :: (q ++ r)) 0
    have hlen : l.length = pre.length + (w.length + (q.length + r.length + 1)) := by rw [h]; simp only [List.length_append, List.length_cons]; omega
    have hs : wrap64 (((pre.length + w.length : Nat) : Int) + 1) = (((pre ++ w ++ [46]).length : Nat) : Int) := by rw [wrapi_id (by omega) (by omega)]; simp only [List.length_append, List.length_cons, List.length_nil]; omega
    rw [run_eq false hl h hw (stops_46 _) hk, Option.bind_some]
    dsimp only
    rw [at_eq, hg, Option.bind_some, if_pos (by decide), hs, run_eq (pre := pre ++ w ++ [46]) (a := q) (r := r) false hl (by rw [h]; simp) hq hr hk, Option.bind_some, mk_toList, if_neg hw0]
    simp only [List.length_append, List.length_cons, List.length_nil]
    congr 4
    omega

/-! The exponent -/
def val : Int → List UInt8 → Int
  | x, [] => x
  | x, c :: l => val (x * 10 + ((c.toNat : Int) - 48)) l
theorem val_append : ∀ (a b : List UInt8) (x : Int), val x (a ++ b) = val (val x a) b
  | [], b, x => rfl
  | c :: a, b, x => by rw [List.cons_append, val, val, val_append a b]
theorem val_ge : ∀ (a : List UInt8) (x : Int), 0 ≤ x → digs a = true → x ≤ val x a
  | [], x, _, _ => Int.le_refl _
  | c :: a, x, hx, h => by
    rw [digs_cons, Bool.and_eq_true, Bool.and_eq_true] at h
    have h1 := of_decide_eq_true h.1.1
    have := val_ge a (x * 10 + ((c.toNat : Int) - 48)) (by omega) h.2
    rw [val]; omega
theorem val_dec (n : Nat) : val 0 (Lib.decDigits n) = n := by
  induction n using Nat.strongRecOn with
  | _ n ih =>
    have hm : ∀ m : Nat, m < 10 → ((UInt8.ofNat (48 + m)).toNat : Int) = 48 + m := fun m hm => by
      rw [UInt8.toNat_ofNat']; omega
    rw [Lib.decDigits]
    by_cases h : n < 10
    · rw [dif_pos h, val, val, hm n h]; omega
    · rw [dif_neg h, val_append, ih (n / 10) (by omega), val, val, hm (n % 10) (by omega)]; omega
theorem digs_dec (n : Nat) : digs (Lib.decDigits n) = true := by
  induction n using Nat.strongRecOn with
  | _ n ih =>
    have hm : ∀ m : Nat, m < 10 → digs [UInt8.ofNat (48 + m)] = true := fun m hm => by
      have : (UInt8.ofNat (48 + m)).toNat = 48 + m := by rw [UInt8.toNat_ofNat']; omega
      rw [digs_cons, this, decide_eq_true (by omega), decide_eq_true (by omega)]; rfl
    rw [Lib.decDigits]
    by_cases h : n < 10
    · rw [dif_pos h]; exact hm n h
    · rw [dif_neg h]
      unfold digs at *
      rw [List.all_append, ih (n / 10) (by omega), hm (n % 10) (by omega)]; rfl
theorem val_pad (n : Nat) : val 0 (pad2 (Lib.decDigits n)) = n := by
  unfold pad2
  split
  · rw [val]; exact val_dec n
  · exact val_dec n
theorem digs_pad (n : Nat) : digs (pad2 (Lib.decDigits n)) = true := by
  unfold pad2
  split
  · rw [digs_cons, digs_dec]; rfl
  · exact digs_dec n
theorem number_l0 (d : List UInt8) (hd : d.length ≤ 1000) (hdg : digs d = true) : ∀ (n i k : Nat) (x : Int), i + n = d.length → n < k → 0 ≤ x → val x (d.drop i) ≤ 1099511627776 → numeralref10_number.l0 k (mk d) x (i : Int) = some (val x (d.drop i))
  | 0, i, k + 1, x, hi, _, _, _ => by
    rw [numeralref10_number.l0, mk_size, if_neg (by omega), List.drop_eq_nil_of_le (by omega)]; rfl
  | n + 1, i, k + 1, x, hi, hk, hx, hv => by
    have hil : i < d.length := by omega
    have hs : (wrap64 ((i : Int) + 1)) = ((i + 1 : Nat) : Int) := by rw [wrapi_id (by omega) (by omega)]; omega
    have hb : bt (mk d) (i : Int) = (d[i].toNat : Int) := by
      rw [bt_nat, List.getD_eq_getElem?_getD, List.getElem?_eq_getElem hil]; rfl
    have hdr := List.drop_eq_getElem_cons hil
    have hdd : digs (d.drop i) = true := by
      unfold digs at *
      rw [List.all_eq_true] at *
      exact fun z hz => hdg z (List.mem_of_mem_drop hz)
    rw [hdr, digs_cons, Bool.and_eq_true, Bool.and_eq_true] at hdd
    obtain ⟨⟨h1, h2⟩, h3⟩ := hdd
    have h1 := of_decide_eq_true h1
    have h2 := of_decide_eq_true h2
    rw [hdr, val] at hv ⊢
    have hge := val_ge (d.drop (i + 1)) (x * 10 + ((d[i].toNat : Int) - 48)) (by omega) h3
    rw [numeralref10_number.l0, mk_size, if_pos (by omega), if_pos (by omega), hb, hs, wrapi_id (n := x * 10) (by omega) (by omega), show ((d[i].toNat : Int) - 48) % 256 = (d[i].toNat : Int) - 48 by omega, wrapi_id (by omega) (by omega), mn_def, show min (x * 10 + ((d[i].toNat : Int) - 48)) 1099511627776 = x * 10 + ((d[i].toNat : Int) - 48) by omega]
    exact number_l0 d hd hdg n (i + 1) k _ (by omega) (by omega) (by omega) hv
theorem number_pad (n : Nat) (hn : n ≤ 100000) {k : Nat} (hk : 100 ≤ k) : numeralref10_number.f k (mk (pad2 (Lib.decDigits n))) = some (n : Int) := by
  unfold numeralref10_number.f
  have hl := pad2_len (d20 (u := n) (by omega))
  have := number_l0 (pad2 (Lib.decDigits n)) (by omega) (digs_pad n) (pad2 (Lib.decDigits n)).length 0 k 0 (by omega) (by omega) (by omega) (by rw [List.drop_zero, val_pad]; omega)
  rw [List.drop_zero, val_pad] at this
  exact this
theorem pad2_ne (n : Nat) : pad2 (Lib.decDigits n) ≠ [] := by
  have := d1 n
  unfold pad2
  split
  · simp
  · intro h; rw [h] at this; simp at this
theorem exponent_eq {l pre : List UInt8} {e : Int} {k : Nat} (hl : l.length ≤ 100000) (he0 : -100000 ≤ e) (he1 : e ≤ 100000) (h : l = pre ++ ((if e < 0 then 45 else 43) :: pad2 (Lib.decDigits e.natAbs))) (hk : 100002 < k) :
    numeralref10_exponent.f k (mk l) (pre.length : Int) = some (e, (l.length : Int), true) := by
  obtain ⟨k, rfl⟩ : ∃ j, k = j + 2 := ⟨k - 2, by omega⟩
  have hlen : l.length = pre.length + ((pad2 (Lib.decDigits e.natAbs)).length + 1) := by rw [h, List.length_append, List.length_cons]
  have hj1 : ∀ b : Bool, b = decide (e < 0) → numeralref10_exponent.j1 (k + 1) (mk l) (((pre ++ [(if e < 0 then (45 : UInt8) else 43)]).length : Nat) : Int) b = some (e, (l.length : Int), true) := fun b hb => by
    rw [numeralref10_exponent.j1, run_eq (a := pad2 (Lib.decDigits e.natAbs)) (r := []) false hl (by rw [h]; simp) (digs_pad _) stops_nil (by omega), Option.bind_some, mk_toList, if_neg (pad2_ne _), number_pad _ (by omega) (by omega), Option.bind_some]
    have hle : (((pre ++ [(if e < 0 then (45 : UInt8) else 43)]).length + (pad2 (Lib.decDigits e.natAbs)).length : Nat) : Int) = (l.length : Int) := by
      rw [hlen, List.length_append]; simp only [List.length_cons, List.length_nil]; omega
    dsimp only
    rw [hle]
    by_cases hn : e < 0
    · rw [decide_eq_true hn] at hb
      rw [if_pos hb, wrapi_id (by omega) (by omega), show -((e.natAbs : Nat) : Int) = e by omega]
    · rw [decide_eq_false hn] at hb
      rw [if_neg (by rw [hb]; decide), show ((e.natAbs : Nat) : Int) = e by omega]
  have hs : wrap64 ((pre.length : Int) + 1) = (((pre ++ [(if e < 0 then (45 : UInt8) else 43)]).length : Nat) : Int) := by
    rw [wrapi_id (by omega) (by omega), List.length_append]; rfl
  have hg : l.getD pre.length 0 = if e < 0 then 45 else 43 := by rw [h]; exact getD_pre pre _ 0
  unfold numeralref10_exponent.f
  rw [at_eq, hg, Option.bind_some, Option.bind_some]
  by_cases hn : e < 0
  · have e45 : (((if e < 0 then (45 : UInt8) else 43)).toNat : Int) = 45 := by rw [if_pos hn]; rfl
    rw [e45, if_pos rfl, numeralref10_exponent.j0, if_pos rfl, hs, hj1 _ (by rw [decide_eq_true hn]; rfl)]
  · have e43 : (((if e < 0 then (45 : UInt8) else 43)).toNat : Int) = 43 := by rw [if_neg hn]; rfl
    rw [e43, if_neg (by decide), numeralref10_exponent.j0, if_pos (by decide), hs, hj1 _ (by rw [decide_eq_false hn]; rfl)]

/-! The digits, made a number -/
def clean (D : List UInt8) : Prop := D = [] ∨ (D.getD 0 0 ≠ 48 ∧ D.getD (D.length - 1) 0 ≠ 48)
theorem zs_get (n j : Nat) (h : j < n) : (zs n).getD j 0 = 48 := by
  unfold zs
  rw [List.getD_eq_getElem?_getD, List.getElem?_replicate, if_pos h]; rfl
theorem getD_lt {a b : List UInt8} {j : Nat} (h : j < a.length) : (a ++ b).getD j 0 = a.getD j 0 := by
  rw [List.getD_eq_getElem?_getD, List.getD_eq_getElem?_getD, List.getElem?_append_left h]
theorem make_l2 (D : List UInt8) (hD : clean D) (pt lead : Int) (hD8 : D.length ≤ 800) : ∀ (b k : Nat), b < k → b ≤ 100000 → numeralref03_Make.l2 k (mk (D ++ zs b)) pt false lead = numeralref03_Make.j5 (k - b - 1) (mk D) pt false lead
  | 0, k + 1, _, _ => by
    rw [numeralref03_Make.l2, if_neg (by decide), zs_zero, List.append_nil, mk_size]
    by_cases h : D = []
    · rw [if_neg (by rw [h]; simp)]; rfl
    · have hl : 0 < D.length := List.length_pos_iff.2 h
      rcases hD with hD | hD
      · exact absurd hD h
      · rw [if_pos (by omega), wrapi_id (by omega) (by omega), if_pos (by omega), if_pos (by omega), show ((D.length : Int) - 1) = ((D.length - 1 : Nat) : Int) by omega, bt_nat, if_neg (by rw [b48]; exact hD.2)]; rfl
  | b + 1, k + 1, hk, hb => by
    have hl : (D ++ zs (b + 1)).length = D.length + b + 1 := by rw [List.length_append, zs_len]; rfl
    have hz : (D ++ zs (b + 1)).getD (D.length + b) 0 = 48 := by rw [getD_pre]; exact zs_get _ _ (by omega)
    have hx : (mk (D ++ zs (b + 1))).extract 0 (D.length + b) = mk (D ++ zs b) := by
      rw [mk_extract, List.drop_zero, zs_add b 1, ← List.append_assoc, List.take_left' (by rw [List.length_append, zs_len])]
    rw [numeralref03_Make.l2, if_neg (by decide), mk_size, hl, wrapi_id (by omega) (by omega), show (((D.length + b + 1 : Nat) : Int) - 1) = ((D.length + b : Nat) : Int) by omega, if_pos (by omega), if_pos (by omega), if_pos (by omega), bt_nat, hz, if_pos (by decide), if_pos (by omega), Int.toNat_natCast, hx, make_l2 D hD pt lead hD8 b k (by omega) (by omega), show k + 1 - (b + 1) - 1 = k - b - 1 by omega]
theorem make_l1 (s : List UInt8) (pt lead : Int) (hs : s.length ≤ 100000) (h0 : ∀ j, 800 ≤ j → j < s.length → s.getD j 0 = 48) (h8 : 800 ≤ s.length) : ∀ (n i k : Nat), i + n = s.length → 800 ≤ i → n < k → numeralref03_Make.l1 k (mk s) pt false lead (i : Int) = numeralref03_Make.j3 (k - n - 1) (mk (s.take 800)) pt false lead
  | 0, i, k + 1, hi, _, _ => by
    rw [numeralref03_Make.l1, mk_size, if_neg (by omega), if_pos (by decide), if_pos (by omega), mk_extract, List.drop_zero]; rfl
  | n + 1, i, k + 1, hi, h8i, hk => by
    have hst : (wrap64 ((i : Int) + 1)) = ((i + 1 : Nat) : Int) := by rw [wrapi_id (by omega) (by omega)]; omega
    have hz := h0 i h8i (by omega)
    rw [numeralref03_Make.l1, mk_size, if_pos (by omega), if_neg (by decide), if_pos (by omega), bt_nat, hz, hst, show ((((48 : UInt8).toNat : Int)) != 48) = false from rfl, make_l1 s pt lead hs h0 h8 n (i + 1) k (by omega) (by omega) (by omega), show k + 1 - (n + 1) - 1 = k - n - 1 by omega]
/-- What stands behind the noughts ahead. -/
def bigR (D : List UInt8) (b : Nat) : List UInt8 := D ++ zs b
theorem make_j1 (s D : List UInt8) (a b : Nat) (hs : s = zs a ++ (D ++ zs b)) (hl : s.length ≤ 20000) (hD : clean D) (hD8 : D.length ≤ 800) {k : Nat} (hk : 50000 ≤ k) :
    numeralref03_Make.j1 k (mk s) 0 false (a : Int) = some (if D = [] then (mk [], 0, false, 0) else (mk D, -(a : Int), false, 0)) := by
  obtain ⟨k, rfl⟩ : ∃ j, k = j + 1 := ⟨k - 1, by omega⟩
  have hlen : s.length = a + (D.length + b) := by rw [hs, List.length_append, List.length_append, zs_len, zs_len]
  have hx : (mk s).extract (a : Int).toNat s.length = mk (D ++ zs b) := by
    rw [mk_extract, List.take_length, Int.toNat_natCast, hs, List.drop_left' (zs_len a)]
  have hj5 : ∀ j, numeralref03_Make.j5 (j + 1) (mk D) 0 false (a : Int) = some (if D = [] then (mk [], 0, false, 0) else (mk D, -(a : Int), false, 0)) := fun j => by
    rw [numeralref03_Make.j5, mk_size]
    by_cases h : D = []
    · rw [if_pos (by rw [h]; rfl), if_neg (by decide), if_pos h]; rfl
    · have : 0 < D.length := List.length_pos_iff.2 h
      rw [if_neg (by omega), if_neg (by decide), wrapi_id (by omega) (by omega), if_neg (by omega), wrapi_id (by omega) (by omega), if_neg (by omega), if_neg h, Int.zero_sub]
  have hl2 : ∀ (k b : Nat), 30000 ≤ k → b ≤ 20000 → numeralref03_Make.l2 k (mk (D ++ zs b)) 0 false (a : Int) = some (if D = [] then (mk [], 0, false, 0) else (mk D, -(a : Int), false, 0)) := fun k b h1 h2 => by
    rw [make_l2 D hD 0 a hD8 b k (by omega) (by omega), show k - b - 1 = (k - b - 2) + 1 by omega]
    exact hj5 _
  rw [numeralref03_Make.j1, mk_size, if_pos (by omega), if_pos (by omega), hx]
  have hsz : (mk (D ++ zs b)).size = D.length + b := by rw [mk_size, List.length_append, zs_len]
  have hcond : ∀ (P Q : Option (ByteArray × Int × Bool × Int)) (R : Option (ByteArray × Int × Bool × Int)), (D.length + b > 800 → P = R) → (¬ D.length + b > 800 → Q = R) → ∀ z : Int, z = ((D.length + b : Nat) : Int) → (if z > 800 then P else Q) = R := fun P Q R h1 h2 z hz => by
    subst hz
    by_cases h : D.length + b > 800
    · rw [if_pos (by omega)]; exact h1 h
    · rw [if_neg (by omega)]; exact h2 h
  refine hcond _ _ _ (fun h => ?_) (fun h => ?_) _ (by first | rw [hsz] | (rw [mk_size, hlen]; omega) | omega)
  · have ht : (D ++ zs b).take 800 = D ++ zs (800 - D.length) := by
      rw [List.take_append, List.take_of_length_le hD8]
      unfold zs
      rw [List.take_replicate]
      congr 2; omega
    have := make_l1 (D ++ zs b) 0 a (by rw [List.length_append, zs_len]; omega) (fun j h1 h2 => by
      rw [show j = D.length + (j - D.length) by omega, getD_pre]
      rw [List.length_append, zs_len] at h2
      exact zs_get _ _ (by omega)) (by rw [List.length_append, zs_len]; omega) (D.length + b - 800) 800 k (by rw [List.length_append, zs_len]; omega) (by omega) (by omega)
    rw [show ((800 : Nat) : Int) = 800 from rfl] at this
    rw [this, ht, show k - (D.length + b - 800) - 1 = (k - (D.length + b - 800) - 2) + 1 by omega, numeralref03_Make.j3]
    exact hl2 _ _ (by omega) (by omega)
  · obtain ⟨k, rfl⟩ : ∃ j, k = j + 1 := ⟨k - 1, by omega⟩
    rw [numeralref03_Make.j3]
    exact hl2 _ _ (by omega) (by omega)
theorem get_lead {s D : List UInt8} {a b : Nat} (hs : s = zs a ++ (D ++ zs b)) (h : D ≠ []) : s.getD a 0 = D.getD 0 0 := by
  have h1 := getD_pre (zs a) (D ++ zs b) 0
  rw [zs_len, Nat.add_zero] at h1
  rw [hs, h1, getD_lt (List.length_pos_iff.2 h)]
theorem make_l0 (s D : List UInt8) (a b : Nat) (hs : s = zs a ++ (D ++ zs b)) (hl : s.length ≤ 20000) (hD : clean D) (hDb : D = [] → b = 0) (hD8 : D.length ≤ 800) : ∀ (n i k : Nat), i + n = a → 50000 + n < k →
    numeralref03_Make.l0 k (mk s) 0 false (i : Int) = some (if D = [] then (mk [], 0, false, 0) else (mk D, -(a : Int), false, 0))
  | 0, i, k, hi, hk => by
    obtain ⟨k, rfl⟩ : ∃ j, k = j + 1 := ⟨k - 1, by omega⟩
    have hia : i = a := by omega
    have hlen : s.length = a + (D.length + b) := by rw [hs, List.length_append, List.length_append, zs_len, zs_len]
    have hj := make_j1 s D a b hs hl hD hD8 (k := k) (by omega)
    rw [numeralref03_Make.l0, mk_size, hia]
    by_cases h : D = []
    · have hb := hDb h
      have : D.length = 0 := by rw [h]; rfl
      rw [if_neg (by omega), hj]
    · have : 0 < D.length := List.length_pos_iff.2 h
      rcases hD with hD | hD
      · exact absurd hD h
      · rw [if_pos (by omega), if_pos (by omega), bt_nat, get_lead hs h, if_neg (by rw [b48]; exact hD.1), hj]
  | n + 1, i, k, hi, hk => by
    obtain ⟨k, rfl⟩ : ∃ j, k = j + 1 := ⟨k - 1, by omega⟩
    have hlen : s.length = a + (D.length + b) := by rw [hs, List.length_append, List.length_append, zs_len, zs_len]
    have hst : (wrap64 ((i : Int) + 1)) = ((i + 1 : Nat) : Int) := by rw [wrapi_id (by omega) (by omega)]; omega
    have hg : s.getD i 0 = 48 := by rw [hs, getD_lt (by rw [zs_len]; omega), zs_get _ _ (by omega)]
    rw [numeralref03_Make.l0, mk_size, if_pos (by omega), if_pos (by omega), bt_nat, hg, if_pos (by decide), hst]
    exact make_l0 s D a b hs hl hD hDb hD8 n (i + 1) k (by omega) (by omega)
theorem zeros_l0 (s D : List UInt8) (a b : Nat) (hs : s = zs a ++ (D ++ zs b)) (hl : s.length ≤ 20000) (hD : D ≠ []) (hD0 : D.getD 0 0 ≠ 48) : ∀ (n i k : Nat), i + n = a → n < k → numeralref10_zeros.l0 k (mk s) (i : Int) = some (a : Int)
  | 0, i, k, hi, hk => by
    obtain ⟨k, rfl⟩ : ∃ j, k = j + 1 := ⟨k - 1, by omega⟩
    have hia : i = a := by omega
    have : 0 < D.length := List.length_pos_iff.2 hD
    have hlen : s.length = a + (D.length + b) := by rw [hs, List.length_append, List.length_append, zs_len, zs_len]
    rw [numeralref10_zeros.l0, mk_size, hia, if_pos (by omega), if_pos (by omega), bt_nat, get_lead hs hD, if_neg (by rw [b48]; exact hD0)]
  | n + 1, i, k, hi, hk => by
    obtain ⟨k, rfl⟩ : ∃ j, k = j + 1 := ⟨k - 1, by omega⟩
    have hlen : s.length = a + (D.length + b) := by rw [hs, List.length_append, List.length_append, zs_len, zs_len]
    have hst : (wrap64 ((i : Int) + 1)) = ((i + 1 : Nat) : Int) := by rw [wrapi_id (by omega) (by omega)]; omega
    have hg : s.getD i 0 = 48 := by rw [hs, getD_lt (by rw [zs_len]; omega), zs_get _ _ (by omega)]
    rw [numeralref10_zeros.l0, mk_size, if_pos (by omega), if_pos (by omega), bt_nat, hg, if_pos (by decide), hst]
    exact zeros_l0 s D a b hs hl hD hD0 n (i + 1) k (by omega) (by omega)
theorem digits_l0' (s : List UInt8) (hl : s.length ≤ 20000) (hd : digs s = true) : ∀ (n i k : Nat), i + n = s.length → n < k → numeralref03_digits.l0 k (mk s) (i : Int) = some true
  | 0, i, k, hi, hk => by
    obtain ⟨k, rfl⟩ : ∃ j, k = j + 1 := ⟨k - 1, by omega⟩
    rw [numeralref03_digits.l0, mk_size, if_neg (by omega)]
  | n + 1, i, k, hi, hk => by
    obtain ⟨k, rfl⟩ : ∃ j, k = j + 1 := ⟨k - 1, by omega⟩
    have hil : i < s.length := by omega
    have hst : (wrap64 ((i : Int) + 1)) = ((i + 1 : Nat) : Int) := by rw [wrapi_id (by omega) (by omega)]; omega
    have hb : bt (mk s) (i : Int) = (s[i].toNat : Int) := by
      rw [bt_nat, List.getD_eq_getElem?_getD, List.getElem?_eq_getElem hil]; rfl
    have hdi : 48 ≤ s[i].toNat ∧ s[i].toNat ≤ 57 := by
      unfold digs at hd
      have := List.all_eq_true.1 hd s[i] (List.getElem_mem hil)
      rw [Bool.and_eq_true] at this
      exact ⟨of_decide_eq_true this.1, of_decide_eq_true this.2⟩
    rw [numeralref03_digits.l0, mk_size, if_pos (by omega), if_pos (by omega), hb, if_neg (by omega), if_neg (by omega), hst]
    exact digits_l0' s hl hd n (i + 1) k (by omega) (by omega)
theorem make_eq {s D : List UInt8} {a b k : Nat} (hs : s = zs a ++ (D ++ zs b)) (hl : s.length ≤ 20000) (hd : digs s = true) (hD : clean D) (hDb : D = [] → b = 0) (hD8 : D.length ≤ 800) (hk : 80000 ≤ k) :
    numeralref03_Make.f k (mk s) 0 false = some (if D = [] then (mk [], 0, false, 0) else (mk D, -(a : Int), false, 0)) := by
  have hlen : s.length = a + (D.length + b) := by rw [hs, List.length_append, List.length_append, zs_len, zs_len]
  unfold numeralref03_Make.f numeralref03_digits.f
  have h1 := digits_l0' s hl hd s.length 0 k (by omega) (by omega)
  have h2 := make_l0 s D a b hs hl hD hDb hD8 a 0 k (by omega) (by omega)
  rw [show ((0 : Nat) : Int) = 0 from rfl] at h1 h2
  rw [h1, Option.bind_some, if_pos rfl, h2]
theorem cut_eq {n : Int} (h0 : -1099511627776 ≤ n) (h1 : n ≤ 1099511627776) : numeralref10_cut.f n = some n := by
  unfold numeralref10_cut.f
  rw [mn_def, mx_def]
  congr 1; omega
theorem dec_l0 (w q : List UInt8) (hw : digs w = true) (hq : digs q = true) (hl : (w ++ q).length ≤ 20000) (e : Int) (he0 : -100000 ≤ e) (he1 : e ≤ 100000) (D : List UInt8) (a b : Nat) (hs : w ++ q = zs a ++ (D ++ zs b)) (hD : clean D) (hDb : D = [] → b = 0) (hD8 : D.length ≤ 800) :
    ∀ (n i k : Nat), i + n = (w ++ q).length → 80000 + n < k → numeralref10_Dec.l0 k (mk w) (mk q) e (((w ++ q).take i).map fun z => (z.toNat : Int)) (i : Int) = some (if D = [] then (mk [], 0, false) else (mk D, e + w.length - a, false))
  | 0, i, k, hi, hk => by
    obtain ⟨k, rfl⟩ : ∃ j, k = j + 1 := ⟨k - 1, by omega⟩
    have hwl : (w ++ q).length = w.length + q.length := List.length_append
    have hlen : (w ++ q).length = a + (D.length + b) := by rw [hs, List.length_append, List.length_append, zs_len, zs_len]
    have hd : digs (w ++ q) = true := by unfold digs at *; rw [List.all_append, hw, hq]; rfl
    rw [numeralref10_Dec.l0, mk_size, mk_size, wrapi_id (by omega) (by omega), if_neg (by omega), List.take_of_length_le (by omega), strOf, make_eq hs hl hd hD hDb hD8 (by omega), Option.bind_some]
    by_cases h : D = []
    · rw [if_pos h, if_pos h]
      dsimp only
      rw [mk_toList, if_pos rfl]; rfl
    · rw [if_neg h, if_neg h]
      dsimp only
      have hz : numeralref10_zeros.f k (mk (w ++ q)) = some (a : Int) := by
        unfold numeralref10_zeros.f
        rcases hD with hD | hD
        · exact absurd hD h
        · exact zeros_l0 (w ++ q) D a b hs hl h hD.1 a 0 k (by omega) (by omega)
      rw [mk_toList, if_neg h, cut_eq (by omega) (by omega), Option.bind_some, hz, Option.bind_some, wrapi_id (n := e + (w.length : Int)) (by omega) (by omega), wrapi_id (by omega) (by omega), cut_eq (by omega) (by omega), Option.bind_some]
  | n + 1, i, k, hi, hk => by
    obtain ⟨k, rfl⟩ : ∃ j, k = j + 1 := ⟨k - 1, by omega⟩
    have hwl : (w ++ q).length = w.length + q.length := List.length_append
    have hil : i < (w ++ q).length := by omega
    have hst : (wrap64 ((i : Int) + 1)) = ((i + 1 : Nat) : Int) := by rw [wrapi_id (by omega) (by omega)]; omega
    have hd : digs (w ++ q) = true := by unfold digs at *; rw [List.all_append, hw, hq]; rfl
    have hdi : 48 ≤ ((w ++ q)[i]).toNat ∧ ((w ++ q)[i]).toNat ≤ 57 := by
      unfold digs at hd
      have := List.all_eq_true.1 hd (w ++ q)[i] (List.getElem_mem hil)
      rw [Bool.and_eq_true] at this
      exact ⟨of_decide_eq_true this.1, of_decide_eq_true this.2⟩
    have htk : (((w ++ q).take i).map fun z => (z.toNat : Int)) ++ [((w ++ q)[i].toNat : Int)] = ((w ++ q).take (i + 1)).map fun z => (z.toNat : Int) := by
      rw [List.take_succ_eq_append_getElem hil, List.map_append]; rfl
    have hyl : (((w ++ q).take i).map fun z => (z.toNat : Int)).length < 140737488355328 := by rw [List.length_map, List.length_take]; omega
    have ih := dec_l0 w q hw hq hl e he0 he1 D a b hs hD hDb hD8 n (i + 1) k (by omega) (by omega)
    have hge : (w ++ q).getD i 0 = (w ++ q)[i] := by rw [List.getD_eq_getElem?_getD, List.getElem?_eq_getElem hil]; rfl
    rw [numeralref10_Dec.l0, mk_size, mk_size, wrapi_id (n := (w.length : Int) + (q.length : Int)) (by omega) (by omega), if_pos (by omega)]
    by_cases hiw : i < w.length
    · have hb : bt (mk w) (i : Int) = ((w ++ q)[i].toNat : Int) := by rw [bt_nat, ← hge, getD_lt hiw]
      rw [if_pos (by omega), if_pos (by omega), hb, digit_eq, Option.bind_some, if_pos (decide_eq_true (by omega)), if_pos hyl, htk, hst, ih]
    · have hb : bt (mk q) ((i : Int) - (w.length : Int)) = ((w ++ q)[i].toNat : Int) := by
        rw [show (i : Int) - (w.length : Int) = ((i - w.length : Nat) : Int) by omega, bt_nat, ← hge]
        have := getD_pre w q (i - w.length)
        rw [show w.length + (i - w.length) = i by omega] at this
        rw [this]
      rw [if_neg (by omega), wrapi_id (n := (i : Int) - (w.length : Int)) (by omega) (by omega), if_pos (by omega), if_pos (by omega), hb, digit_eq, Option.bind_some, if_pos (decide_eq_true (by omega)), if_pos hyl, htk, hst, ih]
theorem dec_eq {w q D : List UInt8} {e : Int} {a b k : Nat} (hw : digs w = true) (hq : digs q = true) (hl : (w ++ q).length ≤ 20000) (he0 : -100000 ≤ e) (he1 : e ≤ 100000) (hs : w ++ q = zs a ++ (D ++ zs b)) (hD : clean D) (hDb : D = [] → b = 0) (hD8 : D.length ≤ 800) (hk : 110000 ≤ k) :
    numeralref10_Dec.f k (mk w) (mk q) e = some (if D = [] then (mk [], 0, false) else (mk D, e + w.length - a, false)) := by
  unfold numeralref10_Dec.f
  have := dec_l0 w q hw hq hl e he0 he1 D a b hs hD hDb hD8 (w ++ q).length 0 k (by omega) (by omega)
  rw [List.take_zero, List.map_nil] at this
  exact this

/-! The whole text -/
theorem word_no {l W : List UInt8} {i k : Nat} (hl : l.length ≤ 100000) (hW : 0 < W.length) (hW8 : W.length ≤ 8) (hW0 : 57 < (W.getD 0 0).toNat) (hv0 : 48 ≤ (l.getD i 0).toNat) (hv1 : (l.getD i 0).toNat ≤ 57) (hk : 0 < k) (hi : i ≤ 10) : numeralref10_word.f k (mk l) (i : Int) (mk W) = some false := by
  obtain ⟨k, rfl⟩ : ∃ j, k = j + 1 := ⟨k - 1, by omega⟩
  have hil : i < l.length := by
    apply Nat.lt_of_not_le
    intro h
    rw [List.getD_eq_getElem?_getD, List.getElem?_eq_none h] at hv0
    exact absurd hv0 (by decide)
  unfold numeralref10_word.f
  rw [mk_size, mk_size, wrapi_id (by omega) (by omega)]
  by_cases h : (i : Int) + (W.length : Int) > (l.length : Int)
  · rw [if_pos h]
  · have hb0 : bt (mk W) 0 = ((W.getD 0 0).toNat : Int) := bt_nat W 0
    rw [if_neg h, numeralref10_word.l0, mk_size, mk_size, if_pos (by omega), wrapi_id (by omega) (by omega), Int.add_zero, if_pos (by omega), if_pos (by omega), bt_nat, small_id (by omega), Option.bind_some, if_pos (by decide), hb0, if_neg (by omega)]
/-- What stands behind the digits: nothing, or an exponent. -/
def tailS (r : List UInt8) (e : Int) : Prop := (r = [] ∧ e = 0) ∨ ∃ c, r = expo e c
theorem tailS_head {r : List UInt8} {e : Int} (h : tailS r e) : (r.getD 0 0).toNat = 0 ∨ (r.getD 0 0).toNat = 69 ∨ (r.getD 0 0).toNat = 101 := by
  rcases h with ⟨h, _⟩ | ⟨c, h⟩
  · left; rw [h]; rfl
  · right
    rw [h]
    unfold expo
    cases c
    · right; rfl
    · left; rfl
theorem second {w q r : List UInt8} {e : Int} (hw : digs w = true) (hw0 : w ≠ []) (hr : tailS r e) : ∃ z, numeralref10_small.f (((w ++ (pointS q ++ r)).getD 1 0).toNat : Int) = some z ∧ (z == 120) = false := by
  have key : ∀ v : Nat, (48 ≤ v ∧ v ≤ 57) ∨ v = 46 ∨ v = 0 ∨ v = 69 ∨ v = 101 → ∃ z, numeralref10_small.f (v : Int) = some z ∧ (z == 120) = false := fun v hv => by
    rcases hv with hv | hv | hv | hv | hv
    · exact ⟨v, small_id (by omega), beq_eq_false_iff_ne.2 (by omega)⟩
    · subst hv; exact ⟨46, rfl, rfl⟩
    · subst hv; exact ⟨0, rfl, rfl⟩
    · subst hv; exact ⟨101, rfl, rfl⟩
    · subst hv; exact ⟨101, rfl, rfl⟩
  apply key
  match w, hw0, hw with
  | [x], _, _ =>
    have hx : ([x] ++ (pointS q ++ r)).getD 1 0 = (pointS q ++ r).getD 0 0 := rfl
    rw [hx]
    by_cases hq : q = []
    · have e1 : pointS q = [] := by unfold pointS; rw [if_pos hq]
      rw [e1, List.nil_append]
      rcases tailS_head hr with h | h | h <;> omega
    · have e1 : pointS q = 46 :: q := by unfold pointS; rw [if_neg hq]
      rw [e1]; right; left; rfl
  | x :: y :: t, _, hw =>
    left
    simp only [digs_cons, Bool.and_eq_true, decide_eq_true_eq] at hw
    exact ⟨hw.2.1.1, hw.2.1.2⟩
theorem prefix_j5 {neg : Bool} {l w q r D : List UInt8} {e : Int} {a b k : Nat} (h : l = headS neg ++ (w ++ (pointS q ++ r))) (hl : l.length ≤ 20000) (hw : digs w = true) (hw0 : w ≠ []) (hq : digs q = true) (hr : tailS r e) (he0 : -100000 ≤ e) (he1 : e ≤ 100000) (hs : w ++ q = zs a ++ (D ++ zs b)) (hD : clean D) (hDb : D = [] → b = 0) (hD8 : D.length ≤ 800) (hk : 200000 ≤ k) (n : Bool) :
    numeralref10_Prefix.j5 (k + 1) (mk l) ((headS neg).length : Int) n 0 (⟨#[]⟩ : ByteArray) 0 false 0 0 false = some (n, 1, (if D = [] then (mk [], 0, false) else (mk D, e + w.length - a, false)).1, (if D = [] then (mk [], 0, false) else (mk D, e + w.length - a, false)).2.1, (if D = [] then (mk [], (0 : Int), false) else (mk D, e + w.length - a, false)).2.2, 0, 0, false, (l.length : Int), 0) := by
  have hst : stops r := by
    unfold stops
    rcases tailS_head hr with h | h | h <;> omega
  have h46 : (r.getD 0 0).toNat ≠ 46 := by rcases tailS_head hr with h | h | h <;> omega
  have hwq : (w ++ q).length ≤ 20000 := by
    have : l.length = (headS neg).length + (w.length + ((pointS q).length + r.length)) := by rw [h]; simp only [List.length_append]
    have hp : q.length ≤ (pointS q).length := by unfold pointS; split <;> simp_all
    rw [List.length_append]; omega
  have hll : l.length = (headS neg).length + (w ++ pointS q).length + r.length := by rw [h]; simp only [List.length_append]; omega
  have hge : l.getD ((headS neg).length + (w ++ pointS q).length) 0 = r.getD 0 0 := by
    rw [h, ← List.append_assoc w, ← List.append_assoc (headS neg), ← List.length_append]
    exact getD_pre (headS neg ++ (w ++ pointS q)) r 0
  rw [numeralref10_Prefix.j5, mantissa_eq (by omega) h hw hw0 hq hst h46 (by omega), Option.bind_some]
  dsimp only
  rw [if_pos rfl, at_eq, hge, Option.bind_some]
  rcases hr with ⟨hr, he⟩ | ⟨c, hr⟩
  · subst hr; subst he
    have e0 : ((([] : List UInt8).getD 0 0).toNat : Int) = 0 := rfl
    rw [e0, small_id (by omega), Option.bind_some, if_neg (by decide), dec_eq hw hq hwq (by omega) (by omega) hs hD hDb hD8 (by omega), Option.bind_some]
    rw [show (((headS neg).length + (w ++ pointS q).length : Nat) : Int) = (l.length : Int) by rw [hll]; rfl]
  · have hsm : numeralref10_small.f ((r.getD 0 0).toNat : Int) = some 101 := by
      rw [hr]; unfold expo; cases c <;> rfl
    have hx := exponent_eq (l := l) (pre := headS neg ++ (w ++ pointS q) ++ [if c = true then 69 else 101]) (e := e) (k := k) (by omega) he0 he1 (by rw [h, hr]; unfold expo; simp) (by omega)
    have hpos : wrap64 ((((headS neg).length + (w ++ pointS q).length : Nat) : Int) + 1) = (((headS neg ++ (w ++ pointS q) ++ [(if c = true then (69 : UInt8) else 101)]).length : Nat) : Int) := by
      rw [wrapi_id (by omega) (by omega)]
      simp only [List.length_append, List.length_cons, List.length_nil]
      omega
    rw [hsm, Option.bind_some, if_pos rfl, hpos, hx, Option.bind_some]
    dsimp only
    rw [if_pos rfl, dec_eq hw hq hwq he0 he1 hs hD hDb hD8 (by omega), Option.bind_some]
theorem scan_eq {neg : Bool} {l w q r D : List UInt8} {e : Int} {a b k : Nat} (h : l = headS neg ++ (w ++ (pointS q ++ r))) (hl : l.length ≤ 20000) (hw : digs w = true) (hw0 : w ≠ []) (hq : digs q = true) (hr : tailS r e) (he0 : -100000 ≤ e) (he1 : e ≤ 100000) (hs : w ++ q = zs a ++ (D ++ zs b)) (hD : clean D) (hDb : D = [] → b = 0) (hD8 : D.length ≤ 800) (hk : 300000 ≤ k) :
    numeralref10_Scan.f k (mk l) = some (neg, 1, (if D = [] then (mk [], 0, false) else (mk D, e + w.length - a, false)).1, (if D = [] then (mk [], 0, false) else (mk D, e + w.length - a, false)).2.1, (if D = [] then (mk [], (0 : Int), false) else (mk D, e + w.length - a, false)).2.2, 0, 0, false, 0) := by
  obtain ⟨k, rfl⟩ : ∃ j, k = j + 5 := ⟨k - 5, by omega⟩
  have hw1 : 48 ≤ (w.getD 0 0).toNat ∧ (w.getD 0 0).toNat ≤ 57 := by
    match w, hw0, hw with
    | x :: t, _, hw =>
      rw [digs_cons, Bool.and_eq_true, Bool.and_eq_true] at hw
      exact ⟨of_decide_eq_true hw.1.1, of_decide_eq_true hw.1.2⟩
  have hwl : 0 < w.length := List.length_pos_iff.2 hw0
  have hhl : (headS neg).length ≤ 1 := by unfold headS; split <;> simp
  have hg0 : l.getD (headS neg).length 0 = w.getD 0 0 := by
    rw [h]
    have := getD_pre (headS neg) (w ++ (pointS q ++ r)) 0
    rw [Nat.add_zero] at this
    rw [this, getD_lt hwl]
  have hg1 : l.getD ((headS neg).length + 1) 0 = (w ++ (pointS q ++ r)).getD 1 0 := by rw [h]; exact getD_pre _ _ 1
  have h5 := prefix_j5 h hl hw hw0 hq hr he0 he1 hs hD hDb hD8 (k := k) (by omega) neg
  have h3 : numeralref10_Prefix.j3 (k + 2) (mk l) ((headS neg).length : Int) false neg 0 (⟨#[]⟩ : ByteArray) 0 false 0 0 false = numeralref10_Prefix.j5 (k + 1) (mk l) ((headS neg).length : Int) neg 0 (⟨#[]⟩ : ByteArray) 0 false 0 0 false := by
    rw [numeralref10_Prefix.j3, if_neg (by decide)]
  have wn : ∀ (W : List UInt8) (k' : Nat), 0 < k' → 0 < W.length → W.length ≤ 8 → 57 < (W.getD 0 0).toNat → numeralref10_word.f k' (mk l) ((headS neg).length : Int) (mk W) = some false := fun W k' hk' h1 h2 h3 =>
    word_no (by omega) h1 h2 h3 (by rw [hg0]; exact hw1.1) (by rw [hg0]; exact hw1.2) hk' (by omega)
  have e1 : (⟨#[105, 110, 102, 105, 110, 105, 116, 121]⟩ : ByteArray) = mk [105, 110, 102, 105, 110, 105, 116, 121] := rfl
  have e2 : (⟨#[105, 110, 102]⟩ : ByteArray) = mk [105, 110, 102] := rfl
  have e3 : (⟨#[110, 97, 110]⟩ : ByteArray) = mk [110, 97, 110] := rfl
  have h2 : numeralref10_Prefix.j2 (k + 3) (mk l) ((headS neg).length : Int) false neg 0 (⟨#[]⟩ : ByteArray) 0 false 0 0 false = numeralref10_Prefix.j5 (k + 1) (mk l) ((headS neg).length : Int) neg 0 (⟨#[]⟩ : ByteArray) 0 false 0 0 false := by
    rw [numeralref10_Prefix.j2, if_neg (by decide), e1, wn _ _ (by omega) (by decide) (by decide) (by decide), Option.bind_some, if_neg (by decide), e2, wn _ _ (by omega) (by decide) (by decide) (by decide), Option.bind_some, if_neg (by decide), at_eq, hg0, Option.bind_some]
    by_cases h48 : ((w.getD 0 0).toNat : Int) = 48
    · obtain ⟨z, hz, hz2⟩ := second (q := q) hw hw0 hr
      rw [if_pos h48, wrapi_id (by omega) (by omega), show ((headS neg).length : Int) + 1 = (((headS neg).length + 1 : Nat) : Int) by omega, at_eq, hg1, Option.bind_some, hz, Option.bind_some, hz2, h3]
    · rw [if_neg h48, h3]
  have h1 : numeralref10_Prefix.j1 (k + 4) (mk l) ((headS neg).length : Int) neg 0 (⟨#[]⟩ : ByteArray) 0 false 0 0 false = numeralref10_Prefix.j5 (k + 1) (mk l) ((headS neg).length : Int) neg 0 (⟨#[]⟩ : ByteArray) 0 false 0 0 false := by
    rw [numeralref10_Prefix.j1]
    by_cases hz : ((headS neg).length : Int) = 0
    · have := wn [110, 97, 110] (k + 3) (by omega) (by decide) (by decide) (by decide)
      rw [hz] at this
      rw [if_pos hz, e3, this, Option.bind_some, h2]
    · rw [if_neg hz, h2]
  have hp : numeralref10_Prefix.f (k + 5) (mk l) = numeralref10_Prefix.j5 (k + 1) (mk l) ((headS neg).length : Int) neg 0 (⟨#[]⟩ : ByteArray) 0 false 0 0 false := by
    unfold numeralref10_Prefix.f
    rw [show (0 : Int) = ((0 : Nat) : Int) from rfl, at_eq, Option.bind_some]
    cases hn : neg with
    | true =>
      subst hn
      have hl0 : l.getD 0 0 = 45 := by rw [h]; rfl
      rw [hl0, if_pos (by decide), numeralref10_Prefix.j0, if_pos rfl]
      exact h1
    | false =>
      subst hn
      have hl0 : l.getD 0 0 = w.getD 0 0 := hg0
      rw [hl0, if_neg (by omega), Option.bind_some, show (((w.getD 0 0).toNat : Int) == 43) = false from beq_eq_false_iff_ne.2 (by omega), show (((w.getD 0 0).toNat : Int) == 45) = false from beq_eq_false_iff_ne.2 (by omega), numeralref10_Prefix.j0, if_neg (by decide)]
      exact h1
  unfold numeralref10_Scan.f
  rw [hp, h5, Option.bind_some]
  dsimp only
  rw [if_pos rfl, mk_size, if_pos rfl]
end Go.Proofs.YtmncgmgcngokoaaDoor.XbLs
