
/- A layout has the shape that its precision asks for; great letters are small ones but for the letter. -/
import Derived.Test.YtmncgmgcngokoaaDoorXsLr
import Derived.Test.YtmncgmgcngokoaaDoorXsx7
import Derived.Test.YtmncgmgcngokoaaDoorXsx8
namespace Go.Proofs.YtmncgmgcngokoaaDoor.Pure
open Go.RowKit Go.Proofs.YtmncgmgcngokoaaDoor.Xs Go.Proofs.YtmncgmgcngokoaaDoorW.PrintWords Go.Proofs.YtmncgmgcngokoaaDoorW.PrintLast Go.Proofs.YtmncgmgcngokoaaDoorW.PrintMore Go.Proofs.YtmncgmgcngokoaaDoor.XsLy Go.Proofs.YtmncgmgcngokoaaDoor.XsLr
set_option linter.unusedVariables false

/-! Counting -/
def cnt : List UInt8 → Int → Int → Bool → Int × Int × Int
  | [], w, q, _ => (w, q, 0)
  | c :: l, w, q, pt => if c.toNat = 46 then cnt l w q true else if 48 ≤ c.toNat ∧ c.toNat ≤ 57 then (if pt = true then cnt l w (q + 1) pt else cnt l (w + 1) q pt) else if c.toNat = 45 then cnt l w q pt else (w, q, (c.toNat : Int))
theorem count_l0 (l : List UInt8) (hl : l.length ≤ 100000) : ∀ (n i k : Nat) (w q : Int) (pt : Bool), i + n = l.length → 3 * n < k → 0 ≤ w → w + n ≤ 1000000 → 0 ≤ q → q + n ≤ 1000000 →
    numerallaw24_count.l0 k (mk l) w q pt (i : Int) = some (cnt (l.drop i) w q pt)
  | 0, i, k, w, q, pt, hi, hk, _, _, _, _ => by
    obtain ⟨k, rfl⟩ : ∃ j, k = j + 1 := ⟨k - 1, by omega⟩
    rw [numerallaw24_count.l0, mk_size, if_neg (by omega), List.drop_eq_nil_of_le (by omega)]; rfl
  | n + 1, i, k, w, q, pt, hi, hk, hw0, hw, hq0, hq => by
    obtain ⟨k, rfl⟩ : ∃ j, k = j + 3 := ⟨k - 3, by omega⟩
    have hil : i < l.length := by omega
    have hb : bt (mk l) (i : Int) = (l[i].toNat : Int) := by
      rw [bt_mk, Int.toNat_natCast, List.getD_eq_getElem?_getD, List.getElem?_eq_getElem hil]; rfl
    have hs : (wrap64 ((i : Int) + 1)) = ((i + 1 : Nat) : Int) := by rw [wrapi_id (by omega) (by omega)]; omega
    have ih := fun (k' : Nat) (w q : Int) (pt : Bool) (h1 : 3 * n < k') h2 h3 h4 h5 => count_l0 l hl n (i + 1) k' w q pt (by omega) h1 h2 h3 h4 h5
    rw [numerallaw24_count.l0, mk_size, if_pos (by omega), if_pos (by omega), hb, hs, List.drop_eq_getElem_cons hil, cnt]
    generalize l[i].toNat = v at *
    by_cases h46 : v = 46
    · rw [if_pos (by omega), if_pos h46, ih _ _ _ _ (by omega) (by omega) (by omega) (by omega) (by omega)]
    · rw [if_neg (by omega), if_neg h46]
      have hj2 : ∀ b : Bool, b = decide (48 ≤ v ∧ v ≤ 57) → numerallaw24_count.j2 (k + 1) (mk l) w q pt (i : Int) b = some (if 48 ≤ v ∧ v ≤ 57 then cnt (l.drop (i + 1)) (w + 1) q pt else if v = 45 then cnt (l.drop (i + 1)) w q pt else (w, q, (v : Int))) := fun b hbb => by
        rw [numerallaw24_count.j2, mk_size, hb, hs]
        by_cases hd : 48 ≤ v ∧ v ≤ 57
        · rw [decide_eq_true hd] at hbb
          rw [if_pos hbb, if_pos hd, wrapi_id (by omega) (by omega), ih _ _ _ _ (by omega) (by omega) (by omega) (by omega) (by omega)]
        · rw [decide_eq_false hd] at hbb
          rw [if_neg (by rw [hbb]; decide), if_neg hd, if_pos (by omega), if_pos (by omega)]
          by_cases h45 : v = 45
          · rw [if_pos (by omega), if_pos h45, ih _ _ _ _ (by omega) (by omega) (by omega) (by omega) (by omega)]
          · rw [if_neg (by omega), if_neg h45]
      have hj1 : ∀ b : Bool, b = (decide (48 ≤ v ∧ v ≤ 57) && pt) → numerallaw24_count.j1 (k + 2) (mk l) w q pt (i : Int) b = some (if 48 ≤ v ∧ v ≤ 57 then (if pt = true then cnt (l.drop (i + 1)) w (q + 1) pt else cnt (l.drop (i + 1)) (w + 1) q pt) else if v = 45 then cnt (l.drop (i + 1)) w q pt else (w, q, (v : Int))) := fun b hbb => by
        rw [numerallaw24_count.j1, mk_size, hb, hs]
        by_cases hd : 48 ≤ v ∧ v ≤ 57
        · rw [decide_eq_true hd, Bool.true_and] at hbb
          subst hbb
          rw [if_pos hd]
          cases b with
          | true => rw [if_pos rfl, if_pos rfl, wrapi_id (by omega) (by omega), ih _ _ _ _ (by omega) (by omega) (by omega) (by omega) (by omega)]
          | false =>
            rw [if_neg (show ¬ false = true by decide), if_neg (show ¬ false = true by decide), if_pos (by omega), if_pos (by omega), if_pos (by omega), hj2 _ (by rw [decide_eq_true hd]; exact decide_eq_true (by omega)), if_pos hd]
        · rw [decide_eq_false hd, Bool.false_and] at hbb
          subst hbb
          rw [if_neg (show ¬ false = true by decide), if_neg hd, if_pos (by omega), if_pos (by omega)]
          by_cases h48 : (v : Int) ≥ 48
          · rw [if_pos h48, hj2 _ (by rw [decide_eq_false hd]; exact decide_eq_false (by omega)), if_neg hd]
          · rw [if_neg h48, hj2 _ (by rw [decide_eq_false hd]), if_neg hd]
      by_cases h48 : (v : Int) ≥ 48
      · rw [if_pos h48]
        by_cases h57 : (v : Int) ≤ 57
        · rw [if_pos h57, hj1 _ (by rw [decide_eq_true (by omega), Bool.true_and])]
        · rw [if_neg h57, hj1 _ (by rw [decide_eq_false (by omega), Bool.false_and])]
      · rw [if_neg h48, hj1 _ (by rw [decide_eq_false (by omega), Bool.false_and])]
theorem count_eq {k : Nat} (hk : 300000 < k) (l : List UInt8) (hl : l.length ≤ 100000) : numerallaw24_count.f k (mk l) = some (cnt l 0 0 false) := by
  unfold numerallaw24_count.f
  have := count_l0 l hl l.length 0 k 0 0 false (by omega) (by omega) (by omega) (by omega) (by omega) (by omega)
  rw [List.drop_zero] at this
  exact this
theorem cnt_digs : ∀ (a r : List UInt8) (w q : Int) (pt : Bool), digs a = true → cnt (a ++ r) w q pt = if pt = true then cnt r w (q + a.length) pt else cnt r (w + a.length) q pt
  | [], r, w, q, pt, _ => by cases pt <;> simp
  | c :: a, r, w, q, pt, h => by
    unfold digs at h
    rw [List.all_cons, Bool.and_eq_true, Bool.and_eq_true] at h
    obtain ⟨⟨h1, h2⟩, h3⟩ := h
    have h1 := of_decide_eq_true h1
    have h2 := of_decide_eq_true h2
    have ih := fun w q => cnt_digs a r w q pt h3
    rw [List.cons_append, cnt, if_neg (by omega), if_pos ⟨h1, h2⟩, ih, ih, List.length_cons]
    cases pt with
    | true => rw [if_pos rfl, if_pos rfl, if_pos rfl]; congr 1; omega
    | false => rw [if_neg (show ¬ false = true by decide), if_neg (show ¬ false = true by decide), if_neg (show ¬ false = true by decide)]; congr 1; omega
theorem cnt_head (neg : Bool) (r : List UInt8) (w q : Int) (pt : Bool) : cnt (headS neg ++ r) w q pt = cnt r w q pt := by
  unfold headS
  cases neg with
  | true => rfl
  | false => rfl
theorem cnt_point (a r : List UInt8) (w : Int) (h : digs a = true) : ∃ pt, cnt (pointS a ++ r) w 0 false = cnt r w a.length pt := by
  unfold pointS
  by_cases ha : a = []
  · subst ha
    rw [if_pos rfl]
    exact ⟨false, rfl⟩
  · rw [if_neg ha]
    refine ⟨true, ?_⟩
    have : cnt (46 :: (a ++ r)) w 0 false = cnt (a ++ r) w 0 true := rfl
    rw [List.cons_append, this, cnt_digs a r w 0 true h, if_pos rfl, Int.zero_add]
theorem cnt_expo (e : Int) (c : Bool) (w q : Int) (pt : Bool) : cnt (expo e c) w q pt = (w, q, if c = true then 69 else 101) := by
  unfold expo
  cases c <;> rfl
theorem digs_append (a b : List UInt8) : digs (a ++ b) = (digs a && digs b) := by unfold digs; exact List.all_append
theorem digs_zs (n : Nat) : digs (zs n) = true := by
  unfold digs zs
  rw [List.all_eq_true]
  intro x hx
  rw [List.eq_of_mem_replicate hx]; rfl
theorem digs_drop' {D : List UInt8} (h : digs D = true) (n : Nat) : digs (D.drop n) = true := by
  unfold digs at *
  rw [List.all_eq_true] at *
  exact fun x hx => h x (List.mem_of_mem_drop hx)
theorem digs_take {D : List UInt8} (h : digs D = true) (n : Nat) : digs (D.take n) = true := by
  unfold digs at *
  rw [List.all_eq_true] at *
  exact fun x hx => h x (List.mem_of_mem_take hx)
theorem digs_part {D : List UInt8} (h : digs D = true) (p : Int) (n : Nat) : digs (part0 D p ++ zs n) = true := by
  rw [digs_append, digs_zs, Bool.and_true]
  unfold part0
  split
  · split
    · rfl
    · rw [digs_append, digs_zs, h]; rfl
  · exact digs_drop' h _
theorem digs_whole {D : List UInt8} (h : digs D = true) (p : Int) : digs (wholeS D p) = true := by
  unfold wholeS
  split
  · rfl
  · rw [digs_append, digs_zs, digs_take h]; rfl
theorem wholeS_size (D : List UInt8) (p : Int) : ((wholeS D p).length : Int) = max 1 p := by
  unfold wholeS
  by_cases h : p ≤ 0
  · rw [if_pos h]; simp; omega
  · rw [if_neg h, List.length_append, zs_len, List.length_take]; omega
theorem cnt_plain (neg : Bool) {D : List UInt8} (h : digs D = true) (p prec : Int) : cnt (headS neg ++ plainS D p prec) 0 0 false = (max 1 p, max ((part0 D p).length : Int) prec, 0) := by
  obtain ⟨pt, hp⟩ := cnt_point (part0 D p ++ zs (prec - (part0 D p).length).toNat) [] (max 1 p) (digs_part h p _)
  rw [List.append_nil] at hp
  unfold plainS
  rw [cnt_head, cnt_digs _ _ _ _ _ (digs_whole h p), if_neg (by decide), wholeS_size, Int.zero_add, hp, cnt, List.length_append, zs_len]
  congr 2
  omega
theorem digs_head {D : List UInt8} (h : digs D = true) : digs [D.headD 48] = true := by
  cases D with
  | nil => rfl
  | cons x t =>
    unfold digs at *
    rw [List.all_cons, Bool.and_eq_true] at h
    rw [List.all_cons, Bool.and_eq_true]
    exact ⟨h.1, rfl⟩
theorem digs_tail {D : List UInt8} (h : digs D = true) : digs D.tail = true := by
  rw [← List.drop_one]; exact digs_drop' h 1
theorem cnt_sci (neg : Bool) {D : List UInt8} (h : digs D = true) (p prec : Int) (c : Bool) : cnt (headS neg ++ sciS D p prec c) 0 0 false = (1, max (D.tail.length : Int) prec, if c = true then 69 else 101) := by
  obtain ⟨pt, hp⟩ := cnt_point (D.tail ++ zs (prec - D.tail.length).toNat) (expo (if D = [] then 0 else p - 1) c) 1 (by rw [digs_append, digs_zs, digs_tail h]; rfl)
  unfold sciS
  have e : ∀ r, D.headD 48 :: r = [D.headD 48] ++ r := fun r => rfl
  rw [cnt_head, e, cnt_digs _ _ _ _ _ (digs_head h), if_neg (by decide), show (0 : Int) + ([D.headD 48].length : Int) = 1 from rfl, hp, cnt_expo, List.length_append, zs_len]
  congr 2
  omega

/-! Great letters and small ones -/
def simS (s t : List UInt8) : Prop := s = t ∨ ∃ A B, s = A ++ 69 :: B ∧ t = A ++ 101 :: B
theorem simS_len {s t : List UInt8} (h : simS s t) : s.length = t.length := by
  rcases h with h | ⟨A, B, rfl, rfl⟩
  · rw [h]
  · rw [List.length_append, List.length_append]; rfl
theorem simS_at {s t : List UInt8} (h : simS s t) (j : Nat) : s.getD j 0 = t.getD j 0 ∨ (s.getD j 0 = 69 ∧ t.getD j 0 = 101) := by
  rcases h with h | ⟨A, B, rfl, rfl⟩
  · left; rw [h]
  · simp only [List.getD_eq_getElem?_getD, List.getElem?_append]
    by_cases hj : j < A.length
    · left; rw [if_pos hj, if_pos hj]
    · rw [if_neg hj, if_neg hj]
      cases hq : j - A.length with
      | zero => right; exact ⟨rfl, rfl⟩
      | succ q => left; rfl
theorem simS_head (a : List UInt8) {s t : List UInt8} (h : simS s t) : simS (a ++ s) (a ++ t) := by
  rcases h with h | ⟨A, B, rfl, rfl⟩
  · left; rw [h]
  · right; exact ⟨a ++ A, B, by rw [List.append_assoc], by rw [List.append_assoc]⟩
theorem sim_sci (D : List UInt8) (p prec : Int) : simS (sciS D p prec true) (sciS D p prec false) := by
  right
  refine ⟨D.headD 48 :: pointS (D.tail ++ zs (prec - D.tail.length).toNat), (if (if D = [] then (0 : Int) else p - 1) < 0 then 45 else 43) :: pad2 (Lib.decDigits (if D = [] then (0 : Int) else p - 1).natAbs), ?_, ?_⟩ <;> rfl
def sm (L : Int) : Int := if L = 69 ∨ L = 71 then (L + 32) % 256 else L
theorem sim_body (D : List UInt8) (p prec : Int) {L : Int} (hL : isL L = true) : simS (bodyS D p L prec) (bodyS D p (sm L) prec) := by
  rcases isL_or hL with h | h | h | h | h
  · subst h; left; rfl
  · subst h; exact sim_sci D p prec
  · subst h; left; rfl
  · subst h; left; rfl
  · subst h
    show simS (generalS D p prec true) (generalS D p prec false)
    unfold generalS
    split
    · exact sim_sci D p (-1)
    · left; rfl
theorem shapes_l0 (s t : List UInt8) (h : simS s t) (hs : s.length ≤ 100000) : ∀ (n i k : Nat), i + n = s.length → n + 50 < k → numerallaw24_LayoutShapes.l0 k (mk s) (mk t) (i : Int) = some true
  | 0, i, k, hi, hk => by
    obtain ⟨k, rfl⟩ : ∃ j, k = j + 1 := ⟨k - 1, by omega⟩
    rw [numerallaw24_LayoutShapes.l0, mk_size, if_neg (by omega), works (by omega), Option.bind_some]
  | n + 1, i, k, hi, hk => by
    obtain ⟨k, rfl⟩ : ∃ j, k = j + 1 := ⟨k - 1, by omega⟩
    have hl := simS_len h
    have hst : (wrap64 ((i : Int) + 1)) = ((i + 1 : Nat) : Int) := by rw [wrapi_id (by omega) (by omega)]; omega
    rw [numerallaw24_LayoutShapes.l0, mk_size, mk_size, if_pos (by omega), if_pos (by omega), if_pos (by omega), bt_mk, bt_mk, Int.toNat_natCast, hst, shapes_l0 s t h hs n (i + 1) k (by omega) (by omega)]
    rcases simS_at h i with he | ⟨h1, h2⟩
    · rw [he, if_pos rfl]
    · rw [h1, h2, if_neg (by decide), if_pos (by decide), if_pos (by decide)]
theorem asksS_sm {L : Int} (prec : Int) (hL : isL L = true) : asksS (sm L) prec = asksS L prec := by
  rcases isL_or hL with h | h | h | h | h <;> subst h <;> rfl
theorem isL_sm {L : Int} (hL : isL L = true) : 0 ≤ sm L ∧ sm L < 256 := by
  rcases isL_or hL with h | h | h | h | h <;> subst h <;> decide
/-- What is laid: a body, if no error is told. -/
theorem layS_none {neg : Bool} {D : List UInt8} {p : Int} {cu : Bool} {L prec : Int} (h : (layS neg D p cu L prec).2 = none) :
    validS D p cu = true ∧ cu = false ∧ -1200 ≤ p ∧ p ≤ 400 ∧ (asksS L prec).2.2 = none ∧ manyS D p (asksS L prec).1 (asksS L prec).2.1 = false ∧ (layS neg D p cu L prec).1 = headS neg ++ bodyS D p L prec := by
  unfold layS at *
  by_cases hv : validS D p cu = true ∧ cu = false ∧ -1200 ≤ p ∧ p ≤ 400
  · rw [if_pos hv] at h ⊢
    cases hA : (asksS L prec).2.2 with
    | some e => rw [hA] at h; cases h
    | none =>
      rw [hA] at h
      dsimp only at h ⊢
      cases hm : manyS D p (asksS L prec).1 (asksS L prec).2.1 with
      | true => rw [hm, if_pos rfl] at h; cases h
      | false => exact ⟨hv.1, hv.2.1, hv.2.2.1, hv.2.2.2, rfl, rfl, by rw [if_neg (by decide)]⟩
  · rw [if_neg hv] at h; cases h
theorem layS_ok {neg : Bool} {D : List UInt8} {p : Int} {L prec : Int} (h1 : validS D p false = true) (h2 : -1200 ≤ p) (h3 : p ≤ 400) (hA : (asksS L prec).2.2 = none) (hm : manyS D p (asksS L prec).1 (asksS L prec).2.1 = false) : layS neg D p false L prec = (headS neg ++ bodyS D p L prec, none) := by
  unfold layS
  rw [if_pos ⟨h1, rfl, h2, h3⟩, hA]
  dsimp only
  rw [hm, if_neg (by decide)]
theorem headS_len (neg : Bool) : (headS neg).length ≤ 1 := by unfold headS; split <;> simp
theorem bodyS_len (D : List UInt8) {p prec : Int} (L : Int) (hD : D.length ≤ 800) (hp0 : -1200 ≤ p) (hp1 : p ≤ 400) (h0 : -1 ≤ prec) (h1 : prec ≤ 1100) : (bodyS D p L prec).length ≤ 5000 := by
  unfold bodyS
  split
  · exact sciS_len D hD hp0 hp1 h0 h1 true
  · split
    · exact sciS_len D hD hp0 hp1 h0 h1 false
    · split
      · exact generalS_len D hD hp0 hp1 true
      · split
        · exact generalS_len D hD hp0 hp1 false
        · exact plainS_len D hD hp0 hp1 h0 h1
theorem validS_digs {D : List UInt8} {p : Int} {c : Bool} (h : validS D p c = true) : digs D = true ∧ (D = [] → p = 0) := by
  unfold validS at h
  by_cases hD : D = []
  · rw [if_pos hD] at h
    simp only [Bool.and_eq_true, decide_eq_true_eq] at h
    exact ⟨by rw [hD]; rfl, fun _ => h.1⟩
  · rw [if_neg hD] at h
    simp only [Bool.and_eq_true] at h
    exact ⟨h.2, fun h => absurd h hD⟩
theorem LayoutShapes : numerallaw24_LayoutShapes.Pure := by
  intro neg b p cu L prec hs wp wL wq
  have hL := wf_u8 wL
  have hDs : b.data.toList.length ≤ 140737488351232 := by rw [Array.length_toList]; exact hs
  rw [mk_of b]
  generalize b.data.toList = D at hDs
  refine ⟨400000, ?_⟩
  unfold numerallaw24_LayoutShapes.f
  rw [Lay_eq (by omega) neg D hDs p cu hL.1 hL.2, Option.bind_some]
  dsimp only
  cases hn : (layS neg D p cu L prec).2 with
  | some e => rw [if_neg (by simp), works (by omega), Option.bind_some]
  | none =>
    obtain ⟨hv, hcu, hp0, hp1, hA, hm, hb⟩ := layS_none hn
    subst hcu
    have hD := validS_len hv
    obtain ⟨hdg, hv0⟩ := validS_digs hv
    obtain ⟨hl, hq0, hq1⟩ := asksS_none hA
    have hbl := bodyS_len D L hD hp0 hp1 hq0 hq1
    have hhl := headS_len neg
    have htl : (headS neg ++ bodyS D p L prec).length ≤ 5001 := by rw [List.length_append]; omega
    rw [hb, if_pos (show (none : Option Int).isNone = true from rfl), count_eq (by omega) _ (by omega), Option.bind_some, mk_size]
    have hj3 : numerallaw24_LayoutShapes.j3 399997 (mk (headS neg ++ bodyS D p L prec)) (sm L) neg (mk D) p false L prec = some true := by
      have hsim := simS_head (headS neg) (sim_body D p prec hl)
      rw [show (399997 : Nat) = 399996 + 1 from rfl, numerallaw24_LayoutShapes.j3, Lay_eq (by omega) neg D hDs p false (isL_sm hl).1 (isL_sm hl).2, layS_ok hv hp0 hp1 (by rw [asksS_sm prec hl]; exact hA) (by rw [asksS_sm prec hl]; exact hm), Option.bind_some]
      dsimp only
      rw [if_pos (show (none : Option Int).isNone = true from rfl), mk_size, mk_size, ← simS_len hsim, show (399996 : Nat) = 399995 + 1 from rfl, numerallaw24_LayoutShapes.j4, bne_self_eq_false, if_neg (by decide)]
      exact shapes_l0 _ _ hsim (by omega) _ 0 399995 (Nat.zero_add _) (by omega)
    have hj1 : numerallaw24_LayoutShapes.j1 399999 (mk (headS neg ++ bodyS D p L prec)) neg (mk D) p false L prec = some true := by
      have hj2 : ∀ q, q = decide (L = 69 ∨ L = 71) → numerallaw24_LayoutShapes.j2 399998 (mk (headS neg ++ bodyS D p L prec)) L q neg (mk D) p false L prec = some true := fun q hq => by
        rw [show (399998 : Nat) = 399997 + 1 from rfl, numerallaw24_LayoutShapes.j2]
        by_cases hg : L = 69 ∨ L = 71
        · rw [decide_eq_true hg] at hq
          rw [if_pos hq]
          have e : sm L = (L + 32) % 256 := by unfold sm; rw [if_pos hg]
          rw [← e]; exact hj3
        · rw [decide_eq_false hg] at hq
          rw [if_neg (by rw [hq]; decide)]
          have e : sm L = L := by unfold sm; rw [if_neg hg]
          have := hj3
          rw [e] at this; exact this
      rw [show (399999 : Nat) = 399998 + 1 from rfl, numerallaw24_LayoutShapes.j1]
      by_cases h69 : L = 69
      · rw [if_pos h69, hj2 true (decide_eq_true (Or.inl h69)).symm]
      · rw [if_neg h69]
        by_cases h71 : L = 71
        · exact hj2 _ (by rw [decide_eq_true (Or.inr h71), h71]; rfl)
        · exact hj2 _ (by rw [decide_eq_false (by omega)]; exact beq_eq_false_iff_ne.2 h71)
    have hp0e := part0_eq hv0
    have hte : (D.tail.length : Int) = max 0 ((D.length : Int) - 1) := by rw [List.length_tail]; omega
    have hfit : 0 ≤ prec → fits D p L prec := fun h => fits_of h hl hA hm
    have w1 : wrap64 ((D.length : Int) - 1) = (D.length : Int) - 1 := wrapi_id (by omega) (by omega)
    have w2 : wrap64 ((D.length : Int) - p) = (D.length : Int) - p := wrapi_id (by omega) (by omega)
    have hgen : ∀ c : Bool, (cnt (headS neg ++ generalS D p prec c) 0 0 false = (1, (D.length : Int) - 1, if c = true then 69 else 101)) ∨ ∃ w, cnt (headS neg ++ generalS D p prec c) 0 0 false = (w, max 0 ((D.length : Int) - p), 0) := fun c => by
      unfold generalS
      by_cases hg : D ≠ [] ∧ (p - 1 < -4 ∨ p - 1 ≥ limS D p prec)
      · left
        have : 0 < D.length := List.length_pos_iff.2 hg.1
        rw [if_pos hg, cnt_sci neg hdg, hte, show max (max 0 ((D.length : Int) - 1)) (-1) = (D.length : Int) - 1 by omega]
      · right
        rw [if_neg hg, cnt_plain neg hdg, hp0e, show max (max 0 ((D.length : Int) - p)) (-1) = max 0 ((D.length : Int) - p) by omega]
        exact ⟨_, rfl⟩
    rcases isL_or hl with h | h | h | h | h
    · subst h
      rw [if_pos rfl]
      have hc : cnt (headS neg ++ bodyS D p 101 prec) 0 0 false = (1, max (D.tail.length : Int) prec, 101) := cnt_sci neg hdg p prec false
      rw [hc]
      dsimp only
      rw [show (400000 : Nat) = 399999 + 1 from rfl, numerallaw24_LayoutShapes.j0, if_pos (by decide), if_pos rfl, if_pos rfl, w1, mx_def]
      by_cases hp : prec ≥ 0
      · have := (hfit hp hp).1 (Or.inl rfl)
        rw [if_pos hp, if_pos (by omega), if_neg (by omega)]; exact hj1
      · rw [if_neg hp, if_pos (by omega), if_pos (by omega)]; exact hj1
    · subst h
      rw [if_neg (by decide)]
      have hc : cnt (headS neg ++ bodyS D p 69 prec) 0 0 false = (1, max (D.tail.length : Int) prec, 69) := cnt_sci neg hdg p prec true
      rw [hc]
      dsimp only
      rw [show (400000 : Nat) = 399999 + 1 from rfl, numerallaw24_LayoutShapes.j0, if_pos (by decide), if_pos rfl, if_pos rfl, w1, mx_def]
      by_cases hp : prec ≥ 0
      · have := (hfit hp hp).1 (Or.inr rfl)
        rw [if_pos hp, if_pos (by omega), if_neg (by omega)]; exact hj1
      · rw [if_neg hp, if_pos (by omega), if_pos (by omega)]; exact hj1
    · subst h
      rw [if_neg (by decide)]
      have hc : cnt (headS neg ++ bodyS D p 102 prec) 0 0 false = (max 1 p, max ((part0 D p).length : Int) prec, 0) := cnt_plain neg hdg p prec
      rw [hc]
      dsimp only
      rw [show (400000 : Nat) = 399999 + 1 from rfl, numerallaw24_LayoutShapes.j0, if_neg (by decide), if_pos rfl, if_pos rfl, mx_def, if_pos rfl, w2, mx_def]
      by_cases hp : prec ≥ 0
      · have := (hfit hp hp).2 rfl
        rw [if_pos hp, if_pos (by omega), if_neg (by omega)]; exact hj1
      · rw [if_neg hp, if_pos (by omega), if_pos (by omega)]; exact hj1
    · subst h
      rw [if_neg (by decide)]
      have hbd : bodyS D p 103 prec = generalS D p prec false := rfl
      have hx : ∀ y, y = cnt (headS neg ++ bodyS D p 103 prec) 0 0 false → numerallaw24_LayoutShapes.j0 400000 (mk (headS neg ++ bodyS D p 103 prec)) y.1 y.2.1 y.2.2 (D.length : Int) 103 ((103 : Int) == 69) neg (mk D) p false 103 prec = some true := fun y hy => by
        rw [show (400000 : Nat) = 399999 + 1 from rfl, numerallaw24_LayoutShapes.j0, if_neg (by decide), if_neg (by decide), w1, w2, mx_def]
        rw [hbd] at hy
        have hg : cnt (headS neg ++ generalS D p prec false) 0 0 false = (1, (D.length : Int) - 1, 101) ∨ ∃ w, cnt (headS neg ++ generalS D p prec false) 0 0 false = (w, max 0 ((D.length : Int) - p), 0) := hgen false
        rcases hg with hc | ⟨w, hc⟩
        · rw [hc] at hy
          subst hy
          dsimp only
          rw [if_neg (by decide), if_pos (by decide), if_pos rfl, if_pos rfl]; exact hj1
        · rw [hc] at hy
          subst hy
          dsimp only
          rw [if_pos rfl, if_pos rfl]; exact hj1
      exact hx _ rfl
    · subst h
      rw [if_neg (by decide)]
      have hbd : bodyS D p 71 prec = generalS D p prec true := rfl
      have hx : ∀ y, y = cnt (headS neg ++ bodyS D p 71 prec) 0 0 false → numerallaw24_LayoutShapes.j0 400000 (mk (headS neg ++ bodyS D p 71 prec)) y.1 y.2.1 y.2.2 (D.length : Int) 71 ((71 : Int) == 69) neg (mk D) p false 71 prec = some true := fun y hy => by
        rw [show (400000 : Nat) = 399999 + 1 from rfl, numerallaw24_LayoutShapes.j0, if_neg (by decide), if_neg (by decide), w1, w2, mx_def]
        rw [hbd] at hy
        have hg : cnt (headS neg ++ generalS D p prec true) 0 0 false = (1, (D.length : Int) - 1, 69) ∨ ∃ w, cnt (headS neg ++ generalS D p prec true) 0 0 false = (w, max 0 ((D.length : Int) - p), 0) := hgen true
        rcases hg with hc | ⟨w, hc⟩
        · rw [hc] at hy
          subst hy
          dsimp only
          rw [if_neg (by decide), if_pos (by decide), if_pos rfl, if_pos rfl]; exact hj1
        · rw [hc] at hy
          subst hy
          dsimp only
          rw [if_pos rfl, if_pos rfl]; exact hj1
      exact hx _ rfl
end Go.Proofs.YtmncgmgcngokoaaDoor.Pure
