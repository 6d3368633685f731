
/- What is laid is read by the reference as the sign and the number that it is of. -/
import Derived.Test.YtmncgmgcngokoaaDoorXbLr
import Derived.Test.YtmncgmgcngokoaaDoorXbLs
import Derived.Test.YtmncgmgcngokoaaDoorXbx12
namespace Go.Proofs.YtmncgmgcngokoaaDoor.Pure
open Go.RowKit Go.Proofs.YtmncgmgcngokoaaDoor.Xb Go.Proofs.YtmncgmgcngokoaaDoorW.PrintWords Go.Proofs.YtmncgmgcngokoaaDoorW.PrintLast Go.Proofs.YtmncgmgcngokoaaDoorW.PrintMore Go.Proofs.YtmncgmgcngokoaaDoor.XbLy Go.Proofs.YtmncgmgcngokoaaDoor.XbLs
set_option linter.unusedVariables false

theorem digs_append (a b : List UInt8) : digs (a ++ b) = (digs a && digs b) := by unfold digs; exact List.all_append
theorem digs_zs (n : Nat) : digs (zs n) = true := by
  unfold digs zs
  rw [List.all_eq_true]
  intro x hx
  rw [List.eq_of_mem_replicate hx]; rfl
theorem digs_drop' {D : List UInt8} (h : digs D = true) (n : Nat) : digs (D.drop n) = true := by
  unfold digs at *
  rw [List.all_eq_true] at *
  exact fun x hx => h x (List.mem_of_mem_drop hx)
theorem digs_take {D : List UInt8} (h : digs D = true) (n : Nat) : digs (D.take n) = true := by
  unfold digs at *
  rw [List.all_eq_true] at *
  exact fun x hx => h x (List.mem_of_mem_take hx)
theorem digs_part {D : List UInt8} (h : digs D = true) (p : Int) (n : Nat) : digs (part0 D p ++ zs n) = true := by
  rw [digs_append, digs_zs, Bool.and_true]
  unfold part0
  split
  · split
    · rfl
    · rw [digs_append, digs_zs, h]; rfl
  · exact digs_drop' h _
theorem digs_whole {D : List UInt8} (h : digs D = true) (p : Int) : digs (wholeS D p) = true := by
  unfold wholeS
  split
  · rfl
  · rw [digs_append, digs_zs, digs_take h]; rfl
theorem wholeS_size (D : List UInt8) (p : Int) : ((wholeS D p).length : Int) = max 1 p := by
  unfold wholeS
  by_cases h : p ≤ 0
  · rw [if_pos h]; simp; omega
  · rw [if_neg h, List.length_append, zs_len, List.length_take]; omega
/-- A body that is read as the number. -/
def readable (t D : List UInt8) (p : Int) : Prop :=
  ∃ (w q r : List UInt8) (e : Int) (a b : Nat), t = w ++ (pointS q ++ r) ∧ digs w = true ∧ w ≠ [] ∧ digs q = true ∧ tailS r e ∧ -100000 ≤ e ∧ e ≤ 100000 ∧ w ++ q = zs a ++ (D ++ zs b) ∧ (D = [] → b = 0) ∧ (D ≠ [] → e + w.length - a = p)
theorem zs_succ (n : Nat) : [48] ++ zs n = zs (n + 1) := rfl
theorem read_sci {D : List UInt8} (hd : digs D = true) {p : Int} (hp0 : -1200 ≤ p) (hp1 : p ≤ 400) (prec : Int) (c : Bool) : readable (sciS D p prec c) D p := by
  unfold readable sciS
  by_cases h : D = []
  · subst h
    refine ⟨[48], [] ++ zs (prec - (([] : List UInt8).length : Int)).toNat, expo 0 c, 0, (prec - (([] : List UInt8).length : Int)).toNat + 1, 0, rfl, rfl, by simp, ?_, Or.inr ⟨c, rfl⟩, by omega, by omega, ?_, fun _ => rfl, fun h => absurd rfl h⟩
    · rw [List.nil_append]; exact digs_zs _
    · rw [List.nil_append, zs_succ]; simp [zs]
  · obtain ⟨x, t, rfl⟩ := List.exists_cons_of_ne_nil h
    have hd2 := hd
    rw [digs_cons, Bool.and_eq_true] at hd2
    refine ⟨[x], t ++ zs (prec - (t.length : Int)).toNat, expo (p - 1) c, p - 1, 0, (prec - (t.length : Int)).toNat, ?_, ?_, by simp, ?_, Or.inr ⟨c, rfl⟩, by omega, by omega, ?_, fun h => (by cases h), fun _ => ?_⟩
    · rw [if_neg (by simp)]; rfl
    · rw [digs_cons, hd2.1]; rfl
    · rw [digs_append, digs_zs, hd2.2]; rfl
    · rfl
    · simp only [List.length_cons, List.length_nil]; omega
theorem read_plain {D : List UInt8} (hd : digs D = true) {p : Int} (hv : D = [] → p = 0) (prec : Int) : readable (plainS D p prec) D p := by
  unfold readable plainS
  generalize hm : (prec - ((part0 D p).length : Int)).toNat = m
  by_cases h : D = []
  · have hp := hv h
    subst h
    subst hp
    refine ⟨[48], [] ++ zs m, [], 0, m + 1, 0, ?_, rfl, by simp, ?_, Or.inl ⟨rfl, rfl⟩, by omega, by omega, ?_, fun _ => rfl, fun h => absurd rfl h⟩
    · rw [List.append_nil]; rfl
    · rw [List.nil_append]; exact digs_zs _
    · rw [List.nil_append, zs_succ]; simp [zs]
  · have hw0 : wholeS D p ≠ [] := by
      intro hh
      have := wholeS_size D p
      rw [hh] at this
      simp only [List.length_nil] at this
      omega
    by_cases hp : p ≤ 0
    · refine ⟨wholeS D p, part0 D p ++ zs m, [], 0, (-p).toNat + 1, m, ?_, digs_whole hd p, hw0, digs_part hd p m, Or.inl ⟨rfl, rfl⟩, by omega, by omega, ?_, fun hh => absurd hh h, fun _ => ?_⟩
      · rw [List.append_nil]
      · unfold wholeS part0
        rw [if_pos hp, if_pos hp, if_neg h, ← zs_succ]
        simp
      · rw [wholeS_size]; omega
    · refine ⟨wholeS D p, part0 D p ++ zs m, [], 0, 0, p.toNat - D.length + m, ?_, digs_whole hd p, hw0, digs_part hd p m, Or.inl ⟨rfl, rfl⟩, by omega, by omega, ?_, fun hh => absurd hh h, fun _ => ?_⟩
      · rw [List.append_nil]
      · unfold wholeS part0
        rw [if_neg hp, if_neg hp, zs_zero, List.nil_append]
        by_cases h2 : p.toNat ≤ D.length
        · rw [show p.toNat - D.length = 0 by omega, zs_zero, List.append_nil, ← List.append_assoc, List.take_append_drop, Nat.zero_add]
        · rw [List.take_of_length_le (by omega), List.drop_eq_nil_of_le (by omega), List.nil_append, zs_add, List.append_assoc]
      · rw [wholeS_size]; omega
theorem read_general {D : List UInt8} (hd : digs D = true) {p : Int} (hv : D = [] → p = 0) (hp0 : -1200 ≤ p) (hp1 : p ≤ 400) (prec : Int) (c : Bool) : readable (generalS D p prec c) D p := by
  unfold generalS
  split
  · exact read_sci hd hp0 hp1 (-1) c
  · exact read_plain hd hv (-1)
theorem read_body {D : List UInt8} (hd : digs D = true) {p : Int} (hv : D = [] → p = 0) (hp0 : -1200 ≤ p) (hp1 : p ≤ 400) (L prec : Int) : readable (bodyS D p L prec) D p := by
  unfold bodyS
  split
  · exact read_sci hd hp0 hp1 prec true
  · split
    · exact read_sci hd hp0 hp1 prec false
    · split
      · exact read_general hd hv hp0 hp1 prec true
      · split
        · exact read_general hd hv hp0 hp1 prec false
        · exact read_plain hd hv prec
theorem layS_none {neg : Bool} {D : List UInt8} {p : Int} {cu : Bool} {L prec : Int} (h : (layS neg D p cu L prec).2 = none) :
    validS D p cu = true ∧ cu = false ∧ -1200 ≤ p ∧ p ≤ 400 ∧ (asksS L prec).2.2 = none ∧ (layS neg D p cu L prec).1 = headS neg ++ bodyS D p L prec := by
  unfold layS at *
  by_cases hv : validS D p cu = true ∧ cu = false ∧ -1200 ≤ p ∧ p ≤ 400
  · rw [if_pos hv] at h ⊢
    cases hA : (asksS L prec).2.2 with
    | some e => rw [hA] at h; cases h
    | none =>
      rw [hA] at h
      dsimp only at h ⊢
      cases hm : manyS D p (asksS L prec).1 (asksS L prec).2.1 with
      | true => rw [hm, if_pos rfl] at h; cases h
      | false => exact ⟨hv.1, hv.2.1, hv.2.2.1, hv.2.2.2, rfl, by rw [if_neg (by decide)]⟩
  · rw [if_neg hv] at h; cases h
theorem layS_some {neg : Bool} {D : List UInt8} {p : Int} {cu : Bool} {L prec e : Int} (h : (layS neg D p cu L prec).2 = some e) : (layS neg D p cu L prec).1 = [] := by
  unfold layS at *
  by_cases hv : validS D p cu = true ∧ cu = false ∧ -1200 ≤ p ∧ p ≤ 400
  · rw [if_pos hv] at h ⊢
    cases hA : (asksS L prec).2.2 with
    | some e => rfl
    | none =>
      rw [hA] at h
      dsimp only at h ⊢
      cases hm : manyS D p (asksS L prec).1 (asksS L prec).2.1 with
      | true => rw [if_pos rfl]
      | false => rw [hm, if_neg (by decide)] at h; cases h
  · rw [if_neg hv]
theorem headS_len (neg : Bool) : (headS neg).length ≤ 1 := by unfold headS; split <;> simp
theorem bodyS_len (D : List UInt8) {p prec : Int} (L : Int) (hD : D.length ≤ 800) (hp0 : -1200 ≤ p) (hp1 : p ≤ 400) (h0 : -1 ≤ prec) (h1 : prec ≤ 1100) : (bodyS D p L prec).length ≤ 5000 := by
  unfold bodyS
  split
  · exact sciS_len D hD hp0 hp1 h0 h1 true
  · split
    · exact sciS_len D hD hp0 hp1 h0 h1 false
    · split
      · exact generalS_len D hD hp0 hp1 true
      · split
        · exact generalS_len D hD hp0 hp1 false
        · exact plainS_len D hD hp0 hp1 h0 h1
theorem validS_facts {D : List UInt8} {p : Int} (h : validS D p false = true) : digs D = true ∧ (D = [] → p = 0) ∧ clean D := by
  unfold validS at h
  by_cases hD : D = []
  · rw [if_pos hD] at h
    simp only [Bool.and_eq_true, decide_eq_true_eq] at h
    exact ⟨by rw [hD]; rfl, fun _ => h.1, Or.inl hD⟩
  · rw [if_neg hD] at h
    simp only [Bool.and_eq_true, Bool.or_eq_true, Bool.not_eq_true', decide_eq_false_iff_not, Bool.false_eq_true, or_false] at h
    exact ⟨h.2, fun h => absurd h hD, Or.inr ⟨h.1.1.1.1.2, h.1.1.1.2⟩⟩
theorem LayoutBack : numerallaw24_LayoutBack.Pure := by
  intro neg b p cu L prec hs wp wL wq
  have hL := wf_u8 wL
  have hDs : b.data.toList.length ≤ 140737488351232 := by rw [Array.length_toList]; exact hs
  rw [mk_of b]
  generalize b.data.toList = D at hDs
  refine ⟨400000, ?_⟩
  unfold numerallaw24_LayoutBack.f
  rw [Lay_eq (by omega) neg D hDs p cu hL.1 hL.2, Option.bind_some]
  dsimp only
  cases hn : (layS neg D p cu L prec).2 with
  | some e => rw [if_neg (by simp), mk_toList, if_pos (layS_some hn), works (by omega), Option.bind_some]
  | none =>
    obtain ⟨hv, hcu, hp0, hp1, hA, hb⟩ := layS_none hn
    subst hcu
    have hD := validS_len hv
    obtain ⟨hdg, hv0, hcl⟩ := validS_facts hv
    obtain ⟨hl, hq0, hq1⟩ := asksS_none hA
    have hbl := bodyS_len D L hD hp0 hp1 hq0 hq1
    have hhl := headS_len neg
    obtain ⟨w, q, r, e, za, zb, hbody, hw, hw0, hq, hr, he0, he1, hwq, hDb, hpt⟩ := read_body hdg hv0 hp0 hp1 L prec
    have hsc := scan_eq (neg := neg) (l := headS neg ++ bodyS D p L prec) (k := 400000) (by rw [hbody]) (by rw [List.length_append]; omega) hw hw0 hq hr he0 he1 hwq hcl hDb hD (by omega)
    rw [hb, if_pos (show (none : Option Int).isNone = true from rfl), hsc, Option.bind_some]
    dsimp only
    have hfin : (if D = [] then (mk [], (0 : Int), false) else (mk D, e + w.length - za, false)) = (mk D, p, false) := by
      by_cases h : D = []
      · rw [if_pos h, h, hv0 h]
      · rw [if_neg h, hpt h]
    rw [hfin]
    dsimp only
    rw [if_pos rfl, if_pos rfl, if_pos (beq_self_eq_true _), if_pos (by simp), Go.Proofs.YtmncgmgcngokoaaDoor.XbLr.rValid_eq D hDs p false (by omega), if_pos hv, Option.bind_some, if_pos rfl, works (by omega), Option.bind_some]
end Go.Proofs.YtmncgmgcngokoaaDoor.Pure
