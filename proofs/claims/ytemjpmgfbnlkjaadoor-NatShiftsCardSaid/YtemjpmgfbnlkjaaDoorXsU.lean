
/- Differences by the program and by the reference; the law's own small functions. -/
import Derived.Test.YtemjpmgfbnlkjaaDoorXsY
import Derived.Test.YtemjpmgfbnlkjaaDoorXsx10
import Derived.Test.YtemjpmgfbnlkjaaDoorXsx2
import Derived.Test.YtemjpmgfbnlkjaaDoorXsx6
import Derived.Test.YtemjpmgfbnlkjaaDoorXsx8
namespace Go.Proofs.YtemjpmgfbnlkjaaDoor.XsB
open Go.RowKit Go.Proofs.YtemjpmgfbnlkjaaDoor.Xs Go.Proofs.YtemjpmgfbnlkjaaDoor.A Go.Proofs.YtemjpmgfbnlkjaaDoor.L Go.Proofs.YtemjpmgfbnlkjaaDoorW.PrintWords Go.Proofs.YtemjpmgfbnlkjaaDoorW.PrintLast Go.Proofs.YtemjpmgfbnlkjaaDoorW.PrintMore
set_option linter.unusedSimpArgs false
set_option linter.unusedVariables false
/-! differences -/
theorem borrow_eq {B x y c : Nat} (hx : x < B) (hy : y < B) (hc : c ≤ 1) : (x + B - y - c) % B + y + c = x + B * (if x < y + c then 1 else 0) := by
  by_cases h : x < y + c
  · rw [if_pos h]
    rcases Nat.lt_or_ge (x + B) (y + c) with h2 | h2
    · omega
    · rw [Nat.mod_eq_of_lt (by omega)]; omega
  · rw [if_neg h, show x + B - y - c = (x - y - c) + B by omega, Nat.add_mod_right, Nat.mod_eq_of_lt (by omega)]; omega
theorem sub_l0 {a b : List Int} (ha : okl B64 a) (hb : okl B64 b) (hl : a.length ≤ 128) (hba : b.length ≤ a.length) (hge : nv B64 b ≤ nv B64 a) : ∀ (n k i c : Nat) (out : List Int), i + n = a.length → n + 200 ≤ k → okl B64 out → out.length = a.length → c ≤ 1 →
    nv B64 (out.take i) + nv B64 (b.take i) = nv B64 (a.take i) + B64 ^ i * c →
    ∃ t, okl B64 t ∧ top t ∧ nv B64 t + nv B64 b = nv B64 a ∧ nat_Sub.l0 k a b out (c : Int) (a.length : Int) (i : Int) = if 128 < t.length then some ([], some 20) else some (t, none) := by
  intro n
  induction n with
  | zero =>
    intro k i c out hi hk ho hlen hc hv
    obtain ⟨k, rfl⟩ : ∃ q, k = q + 1 := ⟨k - 1, by omega⟩
    obtain ⟨t, t1, t2, t3, t4⟩ := kept_ok ho (by omega) (k := k) (by omega)
    refine ⟨t, t1, t2, ?_, ?_⟩
    · have hlt := nv_lt b64_pos ho
      rw [List.take_of_length_le (by omega), List.take_of_length_le (by omega), List.take_of_length_le (by omega), show i = a.length by omega] at hv
      rw [hlen] at hlt
      rw [t3]
      rcases (by omega : c = 0 ∨ c = 1) with rfl | rfl
      · omega
      · rw [Nat.mul_one] at hv; omega
    · rw [nat_Sub.l0, if_neg (by omega)]
      by_cases h : 128 < t.length
      · rw [if_pos h] at t4 ⊢; rw [bind_eq t4]
      · rw [if_neg h] at t4 ⊢; rw [bind_eq t4]
  | succ n ih =>
    intro k i c out hi hk ho hlen hc hv
    obtain ⟨k, rfl⟩ : ∃ q, k = q + 1 := ⟨k - 1, by omega⟩
    obtain ⟨x, hx, hxB, hxn⟩ := dig_at ha b64_pos i
    obtain ⟨y, hy, hyB, hyn⟩ := dig_at hb b64_pos i
    have hmod := Nat.mod_lt (x + B64 - y - c) b64_pos
    have hc' : (if x < y + c then 1 else 0) ≤ 1 := by split <;> omega
    have hset : okl B64 (out.set i (((x + B64 - y - c) % B64 : Nat) : Int)) := okl_set ho i ⟨by omega, by omega⟩
    have hstep := sub_step (P := B64 ^ i) (B := B64) (x := x) (y := y) (d := (x + B64 - y - c) % B64) (w' := (if x < y + c then 1 else 0)) hv (borrow_eq hxB hyB hc)
    have hv2 : nv B64 ((out.set i (((x + B64 - y - c) % B64 : Nat) : Int)).take (i + 1)) + nv B64 (b.take (i + 1)) = nv B64 (a.take (i + 1)) + B64 ^ (i + 1) * (if x < y + c then 1 else 0) := by
      rw [take_set_succ _ (by omega), nv_snoc, List.length_take, Nat.min_eq_left (by omega), nv_take_step, nv_take_step, hxn, hyn, Int.toNat_natCast, Nat.pow_succ]
      omega
    obtain ⟨t, t1, t2, t3, t4⟩ := ih k (i + 1) (if x < y + c then 1 else 0) _ (by omega) (by omega) hset (by rw [List.length_set]; exact hlen) hc' hv2
    refine ⟨t, t1, t2, t3, ?_⟩
    rw [← t4, nat_Sub.l0, if_pos (by omega)]
    have hgo : ∀ w : Int, w = (y : Int) → ((bits_Sub64.f (rd a (i : Int)) w (c : Int)).bind fun bt => (if (i : Int) < (out.length : Int) then (nat_Sub.l0 k a b (out.set ((i : Int) : Int).toNat bt.1) bt.2 (a.length : Int) (wrap64 ((i : Int) + 1))) else (none))) = nat_Sub.l0 k a b (out.set i (((x + B64 - y - c) % B64 : Nat) : Int)) ((if x < y + c then 1 else 0 : Nat) : Int) (a.length : Int) ((i + 1 : Nat) : Int) := by
      rintro w rfl
      rw [hx, bind_eq (sub64_ok hxB hyB hc), if_pos (by omega), Int.toNat_natCast, wrapi_id (n := (i : Int) + 1) (by omega) (by omega)]
      rfl
    by_cases hib : i < b.length
    · rw [if_pos (by omega), if_pos (by omega), if_pos (by omega)]
      exact hgo _ hy
    · rw [if_neg (by omega), if_pos (by omega), if_pos (by omega)]
      refine hgo 0 ?_
      have : b.getD i 0 = 0 := by simp [List.getD, hib]
      rw [this] at hyn
      rw [← hyn]; rfl
theorem cmpn_neg (a b : Nat) : cmpn a b < 0 ↔ a < b := by
  unfold cmpn
  by_cases h : a < b
  · rw [if_pos h]; simp [h]
  · rw [if_neg h]
    by_cases h2 : a > b
    · rw [if_pos h2]; simp [h]
    · rw [if_neg h2]; simp [h]
theorem len_le_of_nv {B : Nat} (hB : 1 < B) {a b : List Int} (ha : okl B a) (hb : okl B b) (tb : top b) (h : nv B b ≤ nv B a) : b.length ≤ a.length := by
  rcases Nat.lt_or_ge a.length b.length with hlt | hge
  · have := len_lt hB ha hb tb hlt; omega
  · exact hge
theorem Sub_ok {a b : List Int} (ha : okl B64 a) (hb : okl B64 b) (hv : vtwo a b = 0) (hge : nv B64 b ≤ nv B64 a) {k : Nat} (hk : 1000 ≤ k) :
    ∃ t, okl B64 t ∧ top t ∧ nv B64 t + nv B64 b = nv B64 a ∧ nat_Sub.f k a b = if 128 < t.length then some ([], some 20) else some (t, none) := by
  obtain ⟨⟨la, ta⟩, lb, tb⟩ := vtwo_zero hv
  have hval : nat_valid.f a b = some none := by rw [valid_ok (by omega) (by omega), hv]; rfl
  have hc1 := cmp_ok b64_one ha hb ta tb (by omega) (by omega) (k := k) (by omega)
  have hnn : ¬ cmpn (nv B64 a) (nv B64 b) < 0 := fun h => by have := (cmpn_neg _ _).1 h; omega
  have hba := len_le_of_nv b64_one ha hb tb (by omega)
  obtain ⟨t, t1, t2, t3, t4⟩ := sub_l0 ha hb la hba (by omega) a.length k 0 0 (List.replicate a.length 0) (by omega) (by omega) (okl_zeros _ _ b64_pos) (by simp) (by omega) (by simp [nv])
  refine ⟨t, t1, t2, t3, ?_⟩
  rw [← t4]
  unfold nat_Sub.f
  rw [bind_eq hval, if_pos (by rfl), bind_eq hc1, if_neg hnn, if_pos (by omega), if_pos (by omega), Int.toNat_natCast]
  rfl
/-! the law's own -/
theorem twin_ok {l : List Int} (h : l.length < 17592186044416) : numerallaw02_twin.f l = some l := by
  unfold numerallaw02_twin.f
  rw [if_pos (by simpa using h), List.nil_append]
theorem same_l0 (l : List Int) (hl : l.length < 1000000000000000) : ∀ (n k i : Nat), i + n = l.length → n + 1 ≤ k → numerallaw02_same.l0 k l l (i : Int) = some true
  | 0, k + 1, i, hi, hk => by rw [numerallaw02_same.l0, if_neg (by omega)]
  | n + 1, k + 1, i, hi, hk => by
    rw [numerallaw02_same.l0, if_pos (by omega), if_pos (by omega), if_pos (by omega), if_pos rfl, wrapi_id (n := (i : Int) + 1) (by omega) (by omega), show (i : Int) + 1 = ((i + 1 : Nat) : Int) by omega]
    exact same_l0 l hl n k (i + 1) (by omega) (by omega)
theorem same_ok {l : List Int} (hl : l.length < 1000000000000000) {k : Nat} (hk : l.length + 1 ≤ k) : numerallaw02_same.f k l l = some true := by
  unfold numerallaw02_same.f
  rw [if_pos rfl]
  exact same_l0 l hl l.length k 0 (by omega) hk
theorem works_at : numerallaw02_works.f 400 = some true := by decide +kernel
theorem works_ok {k : Nat} (hk : 400 ≤ k) : numerallaw02_works.f k = some true := by
  obtain ⟨d, rfl⟩ : ∃ d, k = 400 + d := ⟨k - 400, by omega⟩
  clear hk
  induction d with
  | zero => exact works_at
  | succ d ih => exact numerallaw02_works.mono (400 + d) _ ih
end Go.Proofs.YtemjpmgfbnlkjaaDoor.XsB
