
/- NatSums, the pure statement: sums, differences, the order of every two numbers are right, or the error; the numbers stay. -/
import Derived.Test.YtemjpmgfbnlkjaaXaY
import Derived.Test.YtemjpmgfbnlkjaaXax9
import Derived.Test.YtemjpmgfbnlkjaaXax9
import Derived.Test.YtemjpmgfbnlkjaaXax9
import Derived.Test.YtemjpmgfbnlkjaaXax9
import Derived.Test.YtemjpmgfbnlkjaaXax9
import Derived.Test.YtemjpmgfbnlkjaaXax9
namespace Go.Proofs.Ytemjpmgfbnlkjaa.XaB
open Go.RowKit Go.Proofs.Ytemjpmgfbnlkjaa.Xa Go.Proofs.Ytemjpmgfbnlkjaa.A Go.Proofs.Ytemjpmgfbnlkjaa.L Go.Proofs.YtemjpmgfbnlkjaaW.PrintWords Go.Proofs.YtemjpmgfbnlkjaaW.PrintLast Go.Proofs.YtemjpmgfbnlkjaaW.PrintMore
set_option linter.unusedSimpArgs false
set_option linter.unusedVariables false
/-! differences -/
theorem borrow_eq {B x y c : Nat} (hx : x < B) (hy : y < B) (hc : c ≤ 1) : (x + B - y - c) % B + y + c = x + B * (if x < y + c then 1 else 0) := by
  by_cases h : x < y + c
  · rw [if_pos h]
    rcases Nat.lt_or_ge (x + B) (y + c) with h2 | h2
    · omega
    · rw [Nat.mod_eq_of_lt (by omega)]; omega
  · rw [if_neg h, show x + B - y - c = (x - y - c) + B by omega, Nat.add_mod_right, Nat.mod_eq_of_lt (by omega)]; omega
theorem sub_l0 {a b : List Int} (ha : okl B64 a) (hb : okl B64 b) (hl : a.length ≤ 128) (hba : b.length ≤ a.length) (hge : nv B64 b ≤ nv B64 a) : ∀ (n k i c : Nat) (out : List Int), i + n = a.length → n + 200 ≤ k → okl B64 out → out.length = a.length → c ≤ 1 →
    nv B64 (out.take i) + nv B64 (b.take i) = nv B64 (a.take i) + B64 ^ i * c →
    ∃ t, okl B64 t ∧ top t ∧ nv B64 t + nv B64 b = nv B64 a ∧ nat_Sub.l0 k a b out (c : Int) (a.length : Int) (i : Int) = if 128 < t.length then some ([], some 20) else some (t, none) := by
  intro n
  induction n with
  | zero =>
    intro k i c out hi hk ho hlen hc hv
    obtain ⟨k, rfl⟩ : ∃ q, k = q + 1 := ⟨k - 1, by omega⟩
    obtain ⟨t, t1, t2, t3, t4⟩ := kept_ok ho (by omega) (k := k) (by omega)
    refine ⟨t, t1, t2, ?_, ?_⟩
    · have hlt := nv_lt b64_pos ho
      rw [List.take_of_length_le (by omega), List.take_of_length_le (by omega), List.take_of_length_le (by omega), show i = a.length by omega] at hv
      rw [hlen] at hlt
      rw [t3]
      rcases (by omega : c = 0 ∨ c = 1) with rfl | rfl
      · omega
      · rw [Nat.mul_one] at hv; omega
    · rw [nat_Sub.l0, if_neg (by omega)]
      by_cases h : 128 < t.length
      · rw [if_pos h] at t4 ⊢; rw [bind_eq t4]
      · rw [if_neg h] at t4 ⊢; rw [bind_eq t4]
  | succ n ih =>
    intro k i c out hi hk ho hlen hc hv
    obtain ⟨k, rfl⟩ : ∃ q, k = q + 1 := ⟨k - 1, by omega⟩
    obtain ⟨x, hx, hxB, hxn⟩ := dig_at ha b64_pos i
    obtain ⟨y, hy, hyB, hyn⟩ := dig_at hb b64_pos i
    have hmod := Nat.mod_lt (x + B64 - y - c) b64_pos
    have hc' : (if x < y + c then 1 else 0) ≤ 1 := by split <;> omega
    have hset : okl B64 (out.set i (((x + B64 - y - c) % B64 : Nat) : Int)) := okl_set ho i ⟨by omega, by omega⟩
    have hstep := sub_step (P := B64 ^ i) (B := B64) (x := x) (y := y) (d := (x + B64 - y - c) % B64) (w' := (if x < y + c then 1 else 0)) hv (borrow_eq hxB hyB hc)
    have hv2 : nv B64 ((out.set i (((x + B64 - y - c) % B64 : Nat) : Int)).take (i + 1)) + nv B64 (b.take (i + 1)) = nv B64 (a.take (i + 1)) + B64 ^ (i + 1) * (if x < y + c then 1 else 0) := by
      rw [take_set_succ _ (by omega), nv_snoc, List.length_take, Nat.min_eq_left (by omega), nv_take_step, nv_take_step, hxn, hyn, Int.toNat_natCast, Nat.pow_succ]
      omega
    obtain ⟨t, t1, t2, t3, t4⟩ := ih k (i + 1) (if x < y + c then 1 else 0) _ (by omega) (by omega) hset (by rw [List.length_set]; exact hlen) hc' hv2
    refine ⟨t, t1, t2, t3, ?_⟩
    rw [← t4, nat_Sub.l0, if_pos (by omega)]
    have hgo : ∀ w : Int, w = (y : Int) → ((bits_Sub64.f (rd a (i : Int)) w (c : Int)).bind fun bt => (if (i : Int) < (out.length : Int) then (nat_Sub.l0 k a b (out.set ((i : Int) : Int).toNat bt.1) bt.2 (a.length : Int) (wrap64 ((i : Int) + 1))) else (none))) = nat_Sub.l0 k a b (out.set i (((x + B64 - y - c) % B64 : Nat) : Int)) ((if x < y + c then 1 else 0 : Nat) : Int) (a.length : Int) ((i + 1 : Nat) : Int) := by
      rintro w rfl
      rw [hx, bind_eq (sub64_ok hxB hyB hc), if_pos (by omega), Int.toNat_natCast, wrapi_id (n := (i : Int) + 1) (by omega) (by omega)]
      rfl
    by_cases hib : i < b.length
    · rw [if_pos (by omega), if_pos (by omega), if_pos (by omega)]
      exact hgo _ hy
    · rw [if_neg (by omega), if_pos (by omega), if_pos (by omega)]
      refine hgo 0 ?_
      have : b.getD i 0 = 0 := by simp [List.getD, hib]
      rw [this] at hyn
      rw [← hyn]; rfl
theorem minus_l0 {a b : List Int} (ha : okl B32 a) (hb : okl B32 b) (hl : a.length ≤ 300) (hba : b.length ≤ a.length) (hge : nv B32 b ≤ nv B32 a) : ∀ (n k i c : Nat) (acc : List Int), i + n = a.length → n + 400 ≤ k → okl B32 acc → acc.length = i → c ≤ 1 →
    nv B32 acc + nv B32 (b.take i) = nv B32 (a.take i) + B32 ^ i * c →
    ∃ p, numeralref02_Minus.l0 k a b acc (c : Int) (i : Int) = some p ∧ okl B32 p ∧ top p ∧ nv B32 p + nv B32 b = nv B32 a ∧ p.length ≤ 300 := by
  intro n
  induction n with
  | zero =>
    intro k i c acc hi hk ho hlen hc hv
    obtain ⟨k, rfl⟩ : ∃ q, k = q + 1 := ⟨k - 1, by omega⟩
    obtain ⟨m, m1, m2, m3, m4⟩ := rtrim_ok (l := acc) (by omega) (k := k) (by omega)
    refine ⟨_, ?_, okl_take ho m, m3, ?_, by rw [List.length_take]; omega⟩
    · rw [numeralref02_Minus.l0, if_neg (by omega), bind_eq m2]
    · have hlt := nv_lt b32_pos ho
      rw [List.take_of_length_le (by omega), List.take_of_length_le (by omega)] at hv
      rw [hlen] at hlt
      rw [m4]
      rcases (by omega : c = 0 ∨ c = 1) with rfl | rfl
      · omega
      · rw [Nat.mul_one] at hv; omega
  | succ n ih =>
    intro k i c acc hi hk ho hlen hc hv
    obtain ⟨k, rfl⟩ : ∃ q, k = q + 1 := ⟨k - 1, by omega⟩
    obtain ⟨x, hx, hxB, hxn⟩ := dig_at ha b32_pos i
    obtain ⟨y, hy, hyB, hyn⟩ := dig_at hb b32_pos i
    have hxB' : x < 4294967296 := hxB
    have hyB' : y < 4294967296 := hyB
    have hc' : (if x < y + c then 1 else 0) ≤ 1 := by split <;> omega
    have hoc : okl B32 (acc ++ [(((x + B32 - y - c) % B32 : Nat) : Int)]) := by
      rw [okl_append]
      have := Nat.mod_lt (x + B32 - y - c) b32_pos
      exact ⟨ho, okl_cons.2 ⟨⟨by omega, by omega⟩, okl_nil _⟩⟩
    have hstep := sub_step (P := B32 ^ i) (B := B32) (x := x) (y := y) (d := (x + B32 - y - c) % B32) (w' := (if x < y + c then 1 else 0)) hv (borrow_eq hxB hyB hc)
    have hv2 : nv B32 (acc ++ [(((x + B32 - y - c) % B32 : Nat) : Int)]) + nv B32 (b.take (i + 1)) = nv B32 (a.take (i + 1)) + B32 ^ (i + 1) * (if x < y + c then 1 else 0) := by
      rw [nv_snoc, nv_take_step, nv_take_step, hxn, hyn, Int.toNat_natCast, Nat.pow_succ, hlen]
      omega
    obtain ⟨p, p1, p2⟩ := ih k (i + 1) (if x < y + c then 1 else 0) _ (by omega) (by omega) hoc (by simp [hlen]) hc' hv2
    refine ⟨p, ?_, p2⟩
    have hy0 : ¬ i < b.length → y = 0 := by
      intro h
      have : b.getD i 0 = 0 := by simp [List.getD, h]
      rw [this] at hyn; exact hyn.symm
    have e1 : ¬ x < y + c → ((x : Int) - (c : Int) - (y : Int)) % 4294967296 = (((x + B32 - y - c) % B32 : Nat) : Int) := by intro h; unfold B32; omega
    have e2 : x < y + c → ((x : Int) - (c : Int) - (y : Int) + 4294967296) % 4294967296 = (((x + B32 - y - c) % B32 : Nat) : Int) := by intro h; unfold B32; omega
    rw [numeralref02_Minus.l0, if_pos (by omega), if_pos (by omega), hx, hy, wrapi_id (n := (x : Int)) (by omega) (by omega), wrapi_id (n := (y : Int)) (by omega) (by omega), wrapi_id (n := (x : Int) - (c : Int)) (by omega) (by omega), wrapi_id (n := (x : Int) - (c : Int) - (y : Int)) (by omega) (by omega), wrapi_id (n := (x : Int) - (c : Int) - (y : Int) + 4294967296) (by omega) (by omega), wrapi_id (n := (x : Int) - (c : Int) + 4294967296) (by omega) (by omega), wrapi_id (n := (i : Int) + 1) (by omega) (by omega), show (i : Int) + 1 = ((i + 1 : Nat) : Int) by omega]
    by_cases hb2 : i < b.length
    · rw [if_pos (by omega)]
      by_cases h : x < y + c
      · rw [if_pos (by omega), if_pos (by omega), e2 h]
        rw [if_pos h] at p1; exact p1
      · rw [if_neg (by omega), if_pos (by omega), e1 h]
        rw [if_neg h] at p1; exact p1
    · have hy1 := hy0 hb2
      subst hy1
      rw [if_neg (by omega)]
      by_cases h : x < 0 + c
      · have h2 := e2 h
        rw [if_pos (by omega), if_pos (by omega), show (x : Int) - (c : Int) + 4294967296 = (x : Int) - (c : Int) - ((0 : Nat) : Int) + 4294967296 by omega, h2]
        rw [if_pos h] at p1; exact p1
      · have h2 := e1 h
        rw [if_neg (by omega), if_pos (by omega), show (x : Int) - (c : Int) = (x : Int) - (c : Int) - ((0 : Nat) : Int) by omega, h2]
        rw [if_neg h] at p1; exact p1
theorem cmpn_neg (a b : Nat) : cmpn a b < 0 ↔ a < b := by
  unfold cmpn
  by_cases h : a < b
  · rw [if_pos h]; simp [h]
  · rw [if_neg h]
    by_cases h2 : a > b
    · rw [if_pos h2]; simp [h]
    · rw [if_neg h2]; simp [h]
theorem len_le_of_nv {B : Nat} (hB : 1 < B) {a b : List Int} (ha : okl B a) (hb : okl B b) (tb : top b) (h : nv B b ≤ nv B a) : b.length ≤ a.length := by
  rcases Nat.lt_or_ge a.length b.length with hlt | hge
  · have := len_lt hB ha hb tb hlt; omega
  · exact hge
theorem Sub_both {a b : List Int} (ha : okl B64 a) (hb : okl B64 b) (hla : a.length < 1000000000000000) (hlb : b.length < 1000000000000000) {k : Nat} (hk : 1000 ≤ k) :
    ∃ (s : List Int) (c : Int), nat_Sub.f k a b = some (s, errn c) ∧ numeralref02_Sub.f k a b = some (s, c) ∧ s.length ≤ 128 := by
  by_cases hv : vtwo a b = 0
  · obtain ⟨⟨la, ta⟩, lb, tb⟩ := vtwo_zero hv
    obtain ⟨p, p1, p2, p3, p4, p5⟩ := of_ok ha la (k := k) (by omega)
    obtain ⟨q, q1, q2, q3, q4, q5⟩ := of_ok hb lb (k := k) (by omega)
    have hval : nat_valid.f a b = some none := by rw [valid_ok (by omega) (by omega), hv]; rfl
    have htwo : numeralref02_two.f a b = some 0 := by rw [two_ok (by omega) (by omega), hv]
    have hc1 := cmp_ok b64_one ha hb ta tb (by omega) (by omega) (k := k) (by omega)
    have hc2 := rcmp_ok b32_one p2 q2 p3 q3 (by omega) (by omega) (k := k) (by omega)
    rw [p4, q4] at hc2
    by_cases hlt : nv B64 a < nv B64 b
    · refine ⟨[], 21, ?_, ?_, by simp⟩
      · unfold nat_Sub.f
        rw [bind_eq hval, if_pos (by rfl), bind_eq hc1, if_pos ((cmpn_neg _ _).2 hlt)]; rfl
      · unfold numeralref02_Sub.f
        rw [bind_eq htwo, if_pos rfl, bind_eq p1, bind_eq q1, bind_eq hc2, if_pos ((cmpn_neg _ _).2 hlt)]
    · have hnn : ¬ cmpn (nv B64 a) (nv B64 b) < 0 := fun h => hlt ((cmpn_neg _ _).1 h)
      have hba := len_le_of_nv b64_one ha hb tb (by omega)
      have hqp := len_le_of_nv b32_one p2 q2 q3 (by omega)
      obtain ⟨t, t1, t2, t3, t4⟩ := sub_l0 ha hb la hba (by omega) a.length k 0 0 (List.replicate a.length 0) (by omega) (by omega) (okl_zeros _ _ b64_pos) (by simp) (by omega) (by simp [nv])
      obtain ⟨m, m1, m2, m3, m4, m5⟩ := minus_l0 p2 q2 (by omega) hqp (by omega) p.length k 0 0 [] (by omega) (by omega) (okl_nil _) rfl (by omega) (by simp [nv])
      obtain ⟨u, u1, u2, u3, u4⟩ := words_ok m2 m3 (by omega) (k := k) (by omega)
      obtain rfl := top_inj b64_one t1 u1 t2 u2 (by omega)
      have hS : nat_Sub.f k a b = if 128 < t.length then some ([], some 20) else some (t, none) := by
        rw [← t4]
        unfold nat_Sub.f
        rw [bind_eq hval, if_pos (by rfl), bind_eq hc1, if_neg hnn, if_pos (by omega), if_pos (by omega), Int.toNat_natCast]
        rfl
      have hM : numeralref02_Minus.f k p q = some m := m1
      have hR : numeralref02_Sub.f k a b = if 128 < t.length then some ([], 20) else some (t, 0) := by
        unfold numeralref02_Sub.f
        rw [bind_eq htwo, if_pos rfl, bind_eq p1, bind_eq q1, bind_eq hc2, if_neg hnn, bind_eq p1, bind_eq q1, bind_eq hM]
        by_cases h : 128 < t.length
        · rw [if_pos h] at u4 ⊢; rw [bind_eq u4]
        · rw [if_neg h] at u4 ⊢; rw [bind_eq u4]
      by_cases h : 128 < t.length
      · rw [if_pos h] at hS hR; exact ⟨[], 20, hS, hR, by simp⟩
      · rw [if_neg h] at hS hR; exact ⟨t, 0, hS, hR, by omega⟩
  · refine ⟨[], vtwo a b, ?_, ?_, by simp⟩
    · unfold nat_Sub.f
      rw [bind_eq (valid_ok hla hlb), if_neg (by rw [errn_isNone]; exact hv), errn_getD hv]
    · unfold numeralref02_Sub.f
      rw [bind_eq (two_ok hla hlb), if_neg hv]
/-! the law's own -/
theorem twin_ok {l : List Int} (h : l.length < 17592186044416) : numerallaw02_twin.f l = some l := by
  unfold numerallaw02_twin.f
  rw [if_pos (by simpa using h), List.nil_append]
theorem same_l0 (l : List Int) (hl : l.length < 1000000000000000) : ∀ (n k i : Nat), i + n = l.length → n + 1 ≤ k → numerallaw02_same.l0 k l l (i : Int) = some true
  | 0, k + 1, i, hi, hk => by rw [numerallaw02_same.l0, if_neg (by omega)]
  | n + 1, k + 1, i, hi, hk => by
    rw [numerallaw02_same.l0, if_pos (by omega), if_pos (by omega), if_pos (by omega), if_pos rfl, wrapi_id (n := (i : Int) + 1) (by omega) (by omega), show (i : Int) + 1 = ((i + 1 : Nat) : Int) by omega]
    exact same_l0 l hl n k (i + 1) (by omega) (by omega)
theorem same_ok {l : List Int} (hl : l.length < 1000000000000000) {k : Nat} (hk : l.length + 1 ≤ k) : numerallaw02_same.f k l l = some true := by
  unfold numerallaw02_same.f
  rw [if_pos rfl]
  exact same_l0 l hl l.length k 0 (by omega) hk
theorem works_at : numerallaw02_works.f 400 = some true := by decide +kernel
theorem works_ok {k : Nat} (hk : 400 ≤ k) : numerallaw02_works.f k = some true := by
  obtain ⟨d, rfl⟩ : ∃ d, k = 400 + d := ⟨k - 400, by omega⟩
  clear hk
  induction d with
  | zero => exact works_at
  | succ d ih => exact numerallaw02_works.mono (400 + d) _ ih
end Go.Proofs.Ytemjpmgfbnlkjaa.XaB
namespace Go.Proofs.Ytemjpmgfbnlkjaa.Pure
open Go.RowKit Go.Proofs.Ytemjpmgfbnlkjaa.Xa Go.Proofs.Ytemjpmgfbnlkjaa.A Go.Proofs.Ytemjpmgfbnlkjaa.L Go.Proofs.Ytemjpmgfbnlkjaa.XaB Go.Proofs.YtemjpmgfbnlkjaaW.PrintWords Go.Proofs.YtemjpmgfbnlkjaaW.PrintLast
theorem sums_end {a b s d : List Int} {c1 c2 c3 : Int} {cmp w : Int} {ok : Bool} (hla : a.length < 17592186044416) (hlb : b.length < 17592186044416) (hs : s.length ≤ 128) (hd : d.length ≤ 128) {k : Nat} (hk : a.length + b.length + 1000 ≤ k) :
    numerallaw02_NatSums.j2 (k + 1) a b a b s (errn c1) s c1 d (errn c2) d c2 cmp (errn c3) cmp c3 w ok w ok = some true := by
  rw [numerallaw02_NatSums.j2, bind_eq (same_ok (by omega) (by omega)), if_pos rfl, bind_eq (num_errn c1), if_pos rfl, bind_eq (same_ok (by omega) (by omega)), if_pos rfl, bind_eq (num_errn c2), if_pos rfl, if_pos rfl, bind_eq (num_errn c3), if_pos rfl, bind_eq (Valid_ok (by omega)), bind_eq (num_errn _), bind_eq (rValid_ok (by omega)), if_pos rfl, if_pos rfl, if_pos (by cases ok <;> rfl), bind_eq (same_ok (by omega) (by omega)), if_pos rfl, bind_eq (same_ok (by omega) (by omega)), if_pos rfl, bind_eq (works_ok (by omega))]
theorem NatSums : numerallaw02_NatSums.Pure := by
  intro a b h1 h2 h3 h4 h5 h6
  have ha := okl_of_wf h3
  have hb := okl_of_wf h6
  have hla : a.length < 17592186044416 := by omega
  have hlb : b.length < 17592186044416 := by omega
  refine ⟨a.length + b.length + 1003, ?_⟩
  obtain ⟨s, c1, a1, a2, a3⟩ := Add_both ha hb (by omega) (by omega) (k := a.length + b.length + 1003) (by omega)
  obtain ⟨d, c2, b1, b2, b3⟩ := Sub_both ha hb (by omega) (by omega) (k := a.length + b.length + 1003) (by omega)
  obtain ⟨cmp, c3, d1, d2⟩ := Cmp_both ha hb (by omega) (by omega) (k := a.length + b.length + 1003) (by omega)
  have hfin := fun (w : Int) (ok : Bool) => sums_end (a := a) (b := b) (s := s) (d := d) (c1 := c1) (c2 := c2) (c3 := c3) (cmp := cmp) (w := w) (ok := ok) hla hlb a3 b3 (k := a.length + b.length + 1000) (by omega)
  have hV := Valid_ok (l := a) (by omega)
  -- the word
  have hW : ∃ (w : Int) (ok : Bool), nat_Word.f (a.length + b.length + 1003) a = some (w, ok) ∧ ok = (decide (vnum a = 0) && decide ((a.length : Int) ≤ 1)) ∧ w = (if ok = true then (if a.length = 1 then rd a 0 else 0) else 0) := by
    unfold nat_Word.f
    rw [bind_eq hV]
    by_cases h0 : vnum a = 0
    · rw [if_pos (by rw [errn_isNone]; exact h0), decide_eq_true h0, Bool.true_and]
      by_cases hl : (a.length : Int) ≤ 1
      · rw [decide_eq_false (by omega), decide_eq_true hl, nat_Word.j0, if_neg (by decide)]
        by_cases hz : a.length = 0
        · rw [if_pos (by omega)]; exact ⟨0, true, rfl, rfl, by rw [if_pos rfl, if_neg (by omega)]⟩
        · rw [if_neg (by omega), if_pos (by omega)]; exact ⟨_, true, rfl, rfl, by rw [if_pos rfl, if_pos (by omega)]⟩
      · rw [decide_eq_true (by omega), decide_eq_false hl, nat_Word.j0, if_pos rfl]
        exact ⟨0, false, rfl, rfl, rfl⟩
    · rw [if_neg (by rw [errn_isNone]; exact h0), decide_eq_false h0, nat_Word.j0, if_pos rfl]
      exact ⟨0, false, rfl, rfl, rfl⟩
  obtain ⟨w, ok, w1, w2, w3⟩ := hW
  unfold numerallaw02_NatSums.f
  rw [bind_eq (twin_ok hla), bind_eq (twin_ok hlb), bind_eq a1, bind_eq a2, bind_eq b1, bind_eq b2, bind_eq d1, bind_eq d2, bind_eq w1, bind_eq (rValid_ok (by omega))]
  have hfin := hfin w ok
  by_cases h0 : vnum a = 0
  · rw [decide_eq_true h0, Bool.true_and] at w2
    rw [if_pos h0, ← w2, numerallaw02_NatSums.j0]
    cases ok
    · rw [if_neg (by decide), numerallaw02_NatSums.j1, if_neg (by decide)]
      rw [if_neg (by decide)] at w3
      subst w3
      exact hfin
    · rw [if_pos rfl] at w3
      rw [if_pos rfl, numerallaw02_NatSums.j1]
      by_cases h1 : a.length = 1
      · rw [if_pos h1] at w3
        have hb1 : ((a.length : Int) == 1) = true := by rw [beq_iff_eq]; omega
        rw [hb1, if_pos rfl, if_pos (by omega), ← w3]
        exact hfin
      · rw [if_neg h1] at w3
        have hb1 : ((a.length : Int) == 1) = false := by rw [beq_eq_false_iff_ne]; omega
        rw [hb1, if_neg (by decide)]
        subst w3
        exact hfin
  · rw [decide_eq_false h0, Bool.false_and] at w2
    subst w2
    rw [if_neg (by decide)] at w3
    subst w3
    rw [if_neg h0, numerallaw02_NatSums.j0, if_neg (by decide), numerallaw02_NatSums.j1, if_neg (by decide)]
    exact hfin
end Go.Proofs.Ytemjpmgfbnlkjaa.Pure
