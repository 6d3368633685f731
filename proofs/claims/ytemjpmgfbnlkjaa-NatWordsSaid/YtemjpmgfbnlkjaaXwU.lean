
/- Differences by the program and by the reference; the law's own small functions. -/
import Derived.Test.YtemjpmgfbnlkjaaXwY
import Derived.Test.YtemjpmgfbnlkjaaXwx1
import Derived.Test.YtemjpmgfbnlkjaaXwx4
import Derived.Test.YtemjpmgfbnlkjaaXwx5
import Derived.Test.YtemjpmgfbnlkjaaXwx7
namespace Go.Proofs.Ytemjpmgfbnlkjaa.XwB
open Go.RowKit Go.Proofs.Ytemjpmgfbnlkjaa.Xw Go.Proofs.Ytemjpmgfbnlkjaa.A Go.Proofs.Ytemjpmgfbnlkjaa.L Go.Proofs.YtemjpmgfbnlkjaaW.PrintWords Go.Proofs.YtemjpmgfbnlkjaaW.PrintLast Go.Proofs.YtemjpmgfbnlkjaaW.PrintMore
set_option linter.unusedSimpArgs false
set_option linter.unusedVariables false
/-! differences -/
theorem borrow_eq {B x y c : Nat} (hx : x < B) (hy : y < B) (hc : c ≤ 1) : (x + B - y - c) % B + y + c = x + B * (if x < y + c then 1 else 0) := by
  by_cases h : x < y + c
  · rw [if_pos h]
    rcases Nat.lt_or_ge (x + B) (y + c) with h2 | h2
    · omega
    · rw [Nat.mod_eq_of_lt (by omega)]; omega
  · rw [if_neg h, show x + B - y - c = (x - y - c) + B by omega, Nat.add_mod_right, Nat.mod_eq_of_lt (by omega)]; omega
theorem sub_l0 {a b : List Int} (ha : okl B64 a) (hb : okl B64 b) (hl : a.length ≤ 128) (hba : b.length ≤ a.length) (hge : nv B64 b ≤ nv B64 a) : ∀ (n k i c : Nat) (out : List Int), i + n = a.length → n + 200 ≤ k → okl B64 out → out.length = a.length → c ≤ 1 →
    nv B64 (out.take i) + nv B64 (b.take i) = nv B64 (a.take i) + B64 ^ i * c →
    ∃ t, okl B64 t ∧ top t ∧ nv B64 t + nv B64 b = nv B64 a ∧ nat_Sub.l0 k a b out (c : Int) (a.length : Int) (i : Int) = if 128 < t.length then some ([], some 20) else some (t, none) := by
  intro n
  induction n with
  | zero =>
    intro k i c out hi hk ho hlen hc hv
    obtain ⟨k, rfl⟩ : ∃ q, k = q + 1 := ⟨k - 1, by omega⟩
    obtain ⟨t, t1, t2, t3, t4⟩ := kept_ok ho (by omega) (k := k) (by omega)
    refine ⟨t, t1, t2, ?_, ?_⟩
    · have hlt := nv_lt b64_pos ho
      rw [List.take_of_length_le (by omega), List.take_of_length_le (by omega), List.take_of_length_le (by omega), show i = a.length by omega] at hv
      rw [hlen] at hlt
      rw [t3]
      rcases (by omega : c = 0 ∨ c = 1) with rfl | rfl
      · omega
      · rw [Nat.mul_one] at hv; omega
    · rw [nat_Sub.l0, if_neg (by omega)]
      by_cases h : 128 < t.length
      · rw [if_pos h] at t4 ⊢; rw [bind_eq t4]
      · rw [if_neg h] at t4 ⊢; rw [bind_eq t4]
  | succ n ih =>
    intro k i c out hi hk ho hlen hc hv
    obtain ⟨k, rfl⟩ : ∃ q, k = q + 1 := ⟨k - 1, by omega⟩
    obtain ⟨x, hx, hxB, hxn⟩ := dig_at ha b64_pos i
    obtain ⟨y, hy, hyB, hyn⟩ := dig_at hb b64_pos i
    have hmod := Nat.mod_lt (x + B64 - y - c) b64_pos
    have hc' : (if x < y + c then 1 else 0) ≤ 1 := by split <;> omega
    have hset : okl B64 (out.set i (((x + B64 - y - c) % B64 : Nat) : Int)) := okl_set ho i ⟨by omega, by omega⟩
    have hstep := sub_step (P := B64 ^ i) (B := B64) (x := x) (y := y) (d := (x + B64 - y - c) % B64) (w' := (if x < y + c then 1 else 0)) hv (borrow_eq hxB hyB hc)
    have hv2 : nv B64 ((out.set i (((x + B64 - y - c) % B64 : Nat) : Int)).take (i + 1)) + nv B64 (b.take (i + 1)) = nv B64 (a.take (i + 1)) + B64 ^ (i + 1) * (if x < y + c then 1 else 0) := by
      rw [take_set_succ _ (by omega), nv_snoc, List.length_take, Nat.min_eq_left (by omega), nv_take_step, nv_take_step, hxn, hyn, Int.toNat_natCast, Nat.pow_succ]
      omega
    obtain ⟨t, t1, t2, t3, t4⟩ := ih k (i + 1) (if x < y + c then 1 else 0) _ (by omega) (by omega) hset (by rw [List.length_set]; exact hlen) hc' hv2
    refine ⟨t, t1, t2, t3, ?_⟩
    rw [← t4, nat_Sub.l0, if_pos (by omega)]
    have hgo : ∀ w : Int, w = (y : Int) → ((bits_Sub64.f (rd a (i : Int)) w (c : Int)).bind fun bt => (if (i : Int) < (out.length : Int) then (nat_Sub.l0 k a b (out.set ((i : Int) : Int).toNat bt.1) bt.2 (a.length : Int) (wrap64 ((i : Int) + 1))) else (none))) = nat_Sub.l0 k a b (out.set i (((x + B64 - y - c) % B64 : Nat) : Int)) ((if x < y + c then 1 else 0 : Nat) : Int) (a.length : Int) ((i + 1 : Nat) : Int) := by
      rintro w rfl
      rw [hx, bind_eq (sub64_ok hxB hyB hc), if_pos (by omega), Int.toNat_natCast, wrapi_id (n := (i : Int) + 1) (by omega) (by omega)]
      rfl
    by_cases hib : i < b.length
    · rw [if_pos (by omega), if_pos (by omega), if_pos (by omega)]
      exact hgo _ hy
    · rw [if_neg (by omega), if_pos (by omega), if_pos (by omega)]
      refine hgo 0 ?_
      have : b.getD i 0 = 0 := by simp [List.getD, hib]
      rw [this] at hyn
      rw [← hyn]; rfl
theorem minus_l0 {a b : List Int} (ha : okl B32 a) (hb : okl B32 b) (hl : a.length ≤ 300) (hba : b.length ≤ a.length) (hge : nv B32 b ≤ nv B32 a) : ∀ (n k i c : Nat) (acc : List Int), i + n = a.length → n + 400 ≤ k → okl B32 acc → acc.length = i → c ≤ 1 →
    nv B32 acc + nv B32 (b.take i) = nv B32 (a.take i) + B32 ^ i * c →
    ∃ p, numeralref02_Minus.l0 k a b acc (c : Int) (i : Int) = some p ∧ okl B32 p ∧ top p ∧ nv B32 p + nv B32 b = nv B32 a ∧ p.length ≤ 300 := by
  intro n
  induction n with
  | zero =>
    intro k i c acc hi hk ho hlen hc hv
    obtain ⟨k, rfl⟩ : ∃ q, k = q + 1 := ⟨k - 1, by omega⟩
    obtain ⟨m, m1, m2, m3, m4⟩ := rtrim_ok (l := acc) (by omega) (k := k) (by omega)
    refine ⟨_, ?_, okl_take ho m, m3, ?_, by rw [List.length_take]; omega⟩
    · rw [numeralref02_Minus.l0, if_neg (by omega), bind_eq m2]
    · have hlt := nv_lt b32_pos ho
      rw [List.take_of_length_le (by omega), List.take_of_length_le (by omega)] at hv
      rw [hlen] at hlt
      rw [m4]
      rcases (by omega : c = 0 ∨ c = 1) with rfl | rfl
      · omega
      · rw [Nat.mul_one] at hv; omega
  | succ n ih =>
    intro k i c acc hi hk ho hlen hc hv
    obtain ⟨k, rfl⟩ : ∃ q, k = q + 1 := ⟨k - 1, by omega⟩
    obtain ⟨x, hx, hxB, hxn⟩ := dig_at ha b32_pos i
    obtain ⟨y, hy, hyB, hyn⟩ := dig_at hb b32_pos i
    have hxB' : x < 4294967296 := hxB
    have hyB' : y < 4294967296 := hyB
    have hc' : (if x < y + c then 1 else 0) ≤ 1 := by split <;> omega
    have hoc : okl B32 (acc ++ [(((x + B32 - y - c) % B32 : Nat) : Int)]) := by
      rw [okl_append]
      have := Nat.mod_lt (x + B32 - y - c) b32_pos
      exact ⟨ho, okl_cons.2 ⟨⟨by omega, by omega⟩, okl_nil _⟩⟩
    have hstep := sub_step (P := B32 ^ i) (B := B32) (x := x) (y := y) (d := (x + B32 - y - c) % B32) (w' := (if x < y + c then 1 else 0)) hv (borrow_eq hxB hyB hc)
    have hv2 : nv B32 (acc ++ [(((x + B32 - y - c) % B32 : Nat) : Int)]) + nv B32 (b.take (i + 1)) = nv B32 (a.take (i + 1)) + B32 ^ (i + 1) * (if x < y + c then 1 else 0) := by
      rw [nv_snoc, nv_take_step, nv_take_step, hxn, hyn, Int.toNat_natCast, Nat.pow_succ, hlen]
      omega
    obtain ⟨p, p1, p2⟩ := ih k (i + 1) (if x < y + c then 1 else 0) _ (by omega) (by omega) hoc (by simp [hlen]) hc' hv2
    refine ⟨p, ?_, p2⟩
    have hy0 : ¬ i < b.length → y = 0 := by
      intro h
      have : b.getD i 0 = 0 := by simp [List.getD, h]
      rw [this] at hyn; exact hyn.symm
    have e1 : ¬ x < y + c → ((x : Int) - (c : Int) - (y : Int)) % 4294967296 = (((x + B32 - y - c) % B32 : Nat) : Int) := by intro h; unfold B32; omega
    have e2 : x < y + c → ((x : Int) - (c : Int) - (y : Int) + 4294967296) % 4294967296 = (((x + B32 - y - c) % B32 : Nat) : Int) := by intro h; unfold B32; omega
    rw [numeralref02_Minus.l0, if_pos (by omega), if_pos (by omega), hx, hy, wrapi_id (n := (x : Int)) (by omega) (by omega), wrapi_id (n := (y : Int)) (by omega) (by omega), wrapi_id (n := (x : Int) - (c : Int)) (by omega) (by omega), wrapi_id (n := (x : Int) - (c : Int) - (y : Int)) (by omega) (by omega), wrapi_id (n := (x : Int) - (c : Int) - (y : Int) + 4294967296) (by omega) (by omega), wrapi_id (n := (x : Int) - (c : Int) + 4294967296) (by omega) (by omega), wrapi_id (n := (i : Int) + 1) (by omega) (by omega), show (i : Int) + 1 = ((i + 1 : Nat) : Int) by omega]
    by_cases hb2 : i < b.length
    · rw [if_pos (by omega)]
      by_cases h : x < y + c
      · rw [if_pos (by omega), if_pos (by omega), e2 h]
        rw [if_pos h] at p1; exact p1
      · rw [if_neg (by omega), if_pos (by omega), e1 h]
        rw [if_neg h] at p1; exact p1
    · have hy1 := hy0 hb2
      subst hy1
      rw [if_neg (by omega)]
      by_cases h : x < 0 + c
      · have h2 := e2 h
        rw [if_pos (by omega), if_pos (by omega), show (x : Int) - (c : Int) + 4294967296 = (x : Int) - (c : Int) - ((0 : Nat) : Int) + 4294967296 by omega, h2]
        rw [if_pos h] at p1; exact p1
      · have h2 := e1 h
        rw [if_neg (by omega), if_pos (by omega), show (x : Int) - (c : Int) = (x : Int) - (c : Int) - ((0 : Nat) : Int) by omega, h2]
        rw [if_neg h] at p1; exact p1
theorem cmpn_neg (a b : Nat) : cmpn a b < 0 ↔ a < b := by
  unfold cmpn
  by_cases h : a < b
  · rw [if_pos h]; simp [h]
  · rw [if_neg h]
    by_cases h2 : a > b
    · rw [if_pos h2]; simp [h]
    · rw [if_neg h2]; simp [h]
theorem len_le_of_nv {B : Nat} (hB : 1 < B) {a b : List Int} (ha : okl B a) (hb : okl B b) (tb : top b) (h : nv B b ≤ nv B a) : b.length ≤ a.length := by
  rcases Nat.lt_or_ge a.length b.length with hlt | hge
  · have := len_lt hB ha hb tb hlt; omega
  · exact hge
theorem Sub_ok {a b : List Int} (ha : okl B64 a) (hb : okl B64 b) (hv : vtwo a b = 0) (hge : nv B64 b ≤ nv B64 a) {k : Nat} (hk : 1000 ≤ k) :
    ∃ t, okl B64 t ∧ top t ∧ nv B64 t + nv B64 b = nv B64 a ∧ nat_Sub.f k a b = if 128 < t.length then some ([], some 20) else some (t, none) := by
  obtain ⟨⟨la, ta⟩, lb, tb⟩ := vtwo_zero hv
  have hval : nat_valid.f a b = some none := by rw [valid_ok (by omega) (by omega), hv]; rfl
  have hc1 := cmp_ok b64_one ha hb ta tb (by omega) (by omega) (k := k) (by omega)
  have hnn : ¬ cmpn (nv B64 a) (nv B64 b) < 0 := fun h => by have := (cmpn_neg _ _).1 h; omega
  have hba := len_le_of_nv b64_one ha hb tb (by omega)
  obtain ⟨t, t1, t2, t3, t4⟩ := sub_l0 ha hb la hba (by omega) a.length k 0 0 (List.replicate a.length 0) (by omega) (by omega) (okl_zeros _ _ b64_pos) (by simp) (by omega) (by simp [nv])
  refine ⟨t, t1, t2, t3, ?_⟩
  rw [← t4]
  unfold nat_Sub.f
  rw [bind_eq hval, if_pos (by rfl), bind_eq hc1, if_neg hnn, if_pos (by omega), if_pos (by omega), Int.toNat_natCast]
  rfl
/-! the law's own -/
theorem twin_ok {l : List Int} (h : l.length < 17592186044416) : numerallaw02_twin.f l = some l := by
  unfold numerallaw02_twin.f
  rw [if_pos (by simpa using h), List.nil_append]
theorem same_l0 (l : List Int) (hl : l.length < 1000000000000000) : ∀ (n k i : Nat), i + n = l.length → n + 1 ≤ k → numerallaw02_same.l0 k l l (i : Int) = some true
  | 0, k + 1, i, hi, hk => by rw [numerallaw02_same.l0, if_neg (by omega)]
  | n + 1, k + 1, i, hi, hk => by
    rw [numerallaw02_same.l0, if_pos (by omega), if_pos (by omega), if_pos (by omega), if_pos rfl, wrapi_id (n := (i : Int) + 1) (by omega) (by omega), show (i : Int) + 1 = ((i + 1 : Nat) : Int) by omega]
    exact same_l0 l hl n k (i + 1) (by omega) (by omega)
theorem same_ok {l : List Int} (hl : l.length < 1000000000000000) {k : Nat} (hk : l.length + 1 ≤ k) : numerallaw02_same.f k l l = some true := by
  unfold numerallaw02_same.f
  rw [if_pos rfl]
  exact same_l0 l hl l.length k 0 (by omega) hk
theorem works_at : numerallaw02_works.f 400 = some true := by decide +kernel
theorem works_ok {k : Nat} (hk : 400 ≤ k) : numerallaw02_works.f k = some true := by
  obtain ⟨d, rfl⟩ : ∃ d, k = 400 + d := ⟨k - 400, by omega⟩
  clear hk
  induction d with
  | zero => exact works_at
  | succ d ih => exact numerallaw02_works.mono (400 + d) _ ih
end Go.Proofs.Ytemjpmgfbnlkjaa.XwB
