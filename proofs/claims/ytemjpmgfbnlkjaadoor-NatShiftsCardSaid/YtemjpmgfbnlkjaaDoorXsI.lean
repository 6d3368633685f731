
/- Shifts, lengths, noughts at the end: both sides. -/
import Derived.Test.YtemjpmgfbnlkjaaDoorXsH
import Derived.Test.YtemjpmgfbnlkjaaDoorXsx1
import Derived.Test.YtemjpmgfbnlkjaaDoorXsx2
import Derived.Test.YtemjpmgfbnlkjaaDoorXsx3
import Derived.Test.YtemjpmgfbnlkjaaDoorXsx4
import Derived.Test.YtemjpmgfbnlkjaaDoorXsx5
import Derived.Test.YtemjpmgfbnlkjaaDoorXsx6
namespace Go.Proofs.YtemjpmgfbnlkjaaDoor.XsB
open Go.RowKit Go.Proofs.YtemjpmgfbnlkjaaDoor.Xs Go.Proofs.YtemjpmgfbnlkjaaDoor.A Go.Proofs.YtemjpmgfbnlkjaaDoor.L Go.Proofs.YtemjpmgfbnlkjaaDoorW.PrintWords Go.Proofs.YtemjpmgfbnlkjaaDoorW.PrintLast Go.Proofs.YtemjpmgfbnlkjaaDoorW.PrintMore
set_option linter.unusedSimpArgs false
set_option linter.unusedVariables false
theorem tmod64 (n : Nat) : Int.tmod (n : Int) 64 = ((n % 64 : Nat) : Int) := (Int.ofNat_tmod n 64).symm
theorem tdiv64 (n : Nat) : Int.tdiv (n : Int) 64 = ((n / 64 : Nat) : Int) := (Int.ofNat_tdiv n 64).symm
theorem big_64 : B64 ^ 128 = 2 ^ 8192 := by
  have e1 : B64 = 2 ^ 64 := rfl
  have h : ∀ b m n N : Nat, m * n = N → (b ^ m) ^ n = b ^ N := fun b m n N h => by rw [← Nat.pow_mul, h]
  rw [e1]
  exact h 2 64 128 8192 rfl
theorem pow_split64 (n : Nat) : 2 ^ n = B64 ^ (n / 64) * 2 ^ (n % 64) := by
  have e : B64 = 2 ^ 64 := rfl
  rw [e, ← Nat.pow_mul, ← Nat.pow_add]; congr 1; have := Nat.div_add_mod n 64; omega
theorem pow_split32 (n : Nat) : 2 ^ n = B32 ^ (n / 32) * 2 ^ (n % 32) := by
  have e : B32 = 2 ^ 32 := rfl
  rw [e, ← Nat.pow_mul, ← Nat.pow_add]; congr 1; have := Nat.div_add_mod n 32; omega
theorem getD_set_ne {l : List Int} {i j : Nat} (x : Int) (h : i ≠ j) : (l.set i x).getD j 0 = l.getD j 0 := by
  simp only [List.getD_eq_getElem?_getD]; rw [List.getElem?_set_ne h]
theorem getD_set_eq {l : List Int} {i : Nat} (x : Int) (h : i < l.length) : (l.set i x).getD i 0 = x := by
  simp only [List.getD_eq_getElem?_getD]; rw [List.getElem?_set_self h]; rfl
/-! ### the program's shift up -/
theorem shift_l0 {a : List Int} (ha : okl B64 a) (la : a.length ≤ 128) {s : Nat} (hs : s < 64) : ∀ (m k i c : Nat) (out : List Int), i + m = a.length → m + 1 ≤ k → okl B64 out → out.length = a.length + 1 → (out.getD i 0).toNat = c → c < 2 ^ s → (∀ q, i < q → out.getD q 0 = 0) → nv B64 out = 2 ^ s * nv B64 (a.take i) →
    ∃ q, nat_shift.l0 k (s : Int) out a (a.length : Int) (i : Int) = some q ∧ okl B64 q ∧ q.length = a.length + 1 ∧ nv B64 q = 2 ^ s * nv B64 a := by
  have hB : B64 = 18446744073709551616 := rfl
  have hP := Nat.two_pow_pos s
  intro m
  induction m with
  | zero =>
    intro k i c out hi hk ho hlen hc hcs hz hv
    obtain ⟨k, rfl⟩ : ∃ q, k = q + 1 := ⟨k - 1, by omega⟩
    refine ⟨out, ?_, ho, hlen, by rw [hv, List.take_of_length_le (by omega)]⟩
    rw [nat_shift.l0, if_neg (by omega)]
  | succ m ih =>
    intro k i c out hi hk ho hlen hc hcs hz hv
    obtain ⟨k, rfl⟩ : ∃ q, k = q + 1 := ⟨k - 1, by omega⟩
    obtain ⟨x, hx, hxB, hxn⟩ := dig_at ha b64_pos i
    obtain ⟨o, hoo, hoB, hon⟩ := dig_at ho b64_pos i
    have hoc : o = c := by omega
    subst hoc
    have hxB' : x < 18446744073709551616 := hxB
    have e64 : 2 ^ (64 - s) * 2 ^ s = 18446744073709551616 := by rw [← Nat.pow_add, show 64 - s + s = 64 by omega]
    -- the low word: the rest of x's low bits, shifted
    have hlow : x * 2 ^ s % 18446744073709551616 = x % 2 ^ (64 - s) * 2 ^ s := by rw [← e64, Nat.mul_mod_mul_right]
    have hfit : x % 2 ^ (64 - s) * 2 ^ s + o < 18446744073709551616 := by
      have h1 := Nat.mul_le_mul_right (2 ^ s) (show x % 2 ^ (64 - s) + 1 ≤ 2 ^ (64 - s) from Nat.mod_lt _ (Nat.two_pow_pos _))
      rw [Nat.add_mul, Nat.one_mul, e64] at h1
      omega
    have hor : Go.bits .or .u64 (o : Int) (shl .u64 (x : Int) (s : Int)) = ((x % 2 ^ (64 - s) * 2 ^ s + o : Nat) : Int) := by
      rw [shl_u x s (by omega), hlow, or_disj' _ o s hcs hfit]
    obtain ⟨v, hvv⟩ : ∃ v, v = x % 2 ^ (64 - s) * 2 ^ s + o := ⟨_, rfl⟩
    rw [← hvv] at hor hfit
    have hdm := Nat.div_add_mod x (2 ^ (64 - s))
    obtain ⟨h, hh⟩ : ∃ h, h = x / 2 ^ (64 - s) := ⟨_, rfl⟩
    have hhs : h < 2 ^ s := by rw [hh, Nat.div_lt_iff_lt_mul (Nat.two_pow_pos _), Nat.mul_comm, e64]; exact hxB'
    have hhB : h < B64 := by
      have : 2 ^ s ≤ 2 ^ 64 := Nat.pow_le_pow_right (by decide) (by omega)
      rw [hB]; omega
    have htot : v + B64 * h = x * 2 ^ s + o := by
      have h1 := congrArg (· * 2 ^ s) hdm
      simp only [Nat.add_mul] at h1
      rw [Nat.mul_right_comm, e64, ← hh] at h1
      rw [hB, hvv]
      omega
    have hs1 : okl B64 (out.set i (v : Int)) := okl_set ho _ ⟨by omega, by omega⟩
    have n1 := nv_set B64 (l := out) (i := i) (v : Int) (by omega)
    rw [hon, Int.toNat_natCast] at n1
    have hz1 : (out.set i (v : Int)).getD (i + 1) 0 = 0 := by rw [getD_set_ne _ (by omega)]; exact hz _ (by omega)
    have n2 := nv_set B64 (l := out.set i (v : Int)) (i := i + 1) (h : Int) (by rw [List.length_set]; omega)
    rw [hz1, Int.toNat_natCast] at n2
    have z0 : (0 : Int).toNat = 0 := rfl
    rw [z0, Nat.mul_zero, Nat.add_zero, Nat.pow_succ, Nat.mul_assoc] at n2
    have hnv : nv B64 ((out.set i (v : Int)).set (i + 1) (h : Int)) = 2 ^ s * nv B64 (a.take (i + 1)) := by
      rw [nv_take_step, hxn, Nat.mul_add, ← hv, n2]
      have h3 : B64 ^ i * v + B64 ^ i * (B64 * h) = B64 ^ i * (x * 2 ^ s) + B64 ^ i * o := by rw [← Nat.mul_add, htot, Nat.mul_add]
      have h4 : 2 ^ s * (B64 ^ i * x) = B64 ^ i * (x * 2 ^ s) := by rw [Nat.mul_left_comm, Nat.mul_comm (2 ^ s)]
      omega
    have hz2 : ∀ q, i + 1 < q → ((out.set i (v : Int)).set (i + 1) (h : Int)).getD q 0 = 0 := by
      intro q hq
      rw [getD_set_ne _ (by omega), getD_set_ne _ (by omega)]; exact hz _ (by omega)
    have hgc : (((out.set i (v : Int)).set (i + 1) (h : Int)).getD (i + 1) 0).toNat = h := by
      rw [getD_set_eq _ (by rw [List.length_set]; omega), Int.toNat_natCast]
    obtain ⟨q, q1, q2⟩ := ih k (i + 1) h _ (by omega) (by omega) (okl_set hs1 (i + 1) (x := (h : Int)) ⟨by omega, by omega⟩) (by rw [List.length_set, List.length_set]; exact hlen) hgc hhs hz2 hnv
    refine ⟨q, ?_, q2⟩
    have hbind : ∀ (z : List Int) (F : List Int → Option (List Int)), (some z).bind F = F z := fun _ _ => rfl
    rw [nat_shift.l0, if_pos (by omega), if_pos (by omega), if_pos (by omega), if_pos (by omega), if_pos (by omega), hx, hoo, hor, hbind, Int.toNat_natCast, wrapi_id (n := (i : Int) + 1) (by omega) (by omega), show (i : Int) + 1 = ((i + 1 : Nat) : Int) by omega]
    by_cases hs0 : 0 < s
    · rw [if_pos (by omega), wrapu_id (n := 64 - (s : Int)) (by omega) (by omega), if_pos (by omega), if_pos (by omega), if_pos (by omega), Int.toNat_natCast, show 64 - (s : Int) = ((64 - s : Nat) : Int) by omega, shr_u x (64 - s) (by omega), ← hh]
      exact q1
    · have hs0' : s = 0 := by omega
      subst hs0'
      have hh0 : h = 0 := by
        have : (2 : Nat) ^ 0 = 1 := rfl
        omega
      subst hh0
      have hsame : (out.set i (v : Int)).set (i + 1) ((0 : Nat) : Int) = out.set i (v : Int) := by
        apply List.ext_getElem?
        intro j
        by_cases hj : j = i + 1
        · subst hj
          rw [List.getElem?_set_self (by rw [List.length_set]; omega)]
          simp only [List.getD_eq_getElem?_getD] at hz1
          have hl : i + 1 < (out.set i (v : Int)).length := by rw [List.length_set]; omega
          rw [List.getElem?_eq_getElem hl] at hz1 ⊢
          simp at hz1
          simp [hz1]
        · rw [List.getElem?_set_ne (by omega)]
      rw [hsame] at q1
      rw [if_neg (by omega)]
      exact q1
theorem shift_ok {a : List Int} (ha : okl B64 a) (la : a.length ≤ 128) {s : Nat} (hs : s < 64) {k : Nat} (hk : 200 ≤ k) :
    ∃ q, nat_shift.f k a (s : Int) = some q ∧ okl B64 q ∧ q.length = a.length + 1 ∧ nv B64 q = 2 ^ s * nv B64 a := by
  obtain ⟨q, q1, q2⟩ := shift_l0 ha la hs a.length k 0 0 (List.replicate (a.length + 1) 0) (by omega) (by omega) (okl_zeros _ _ b64_pos) (by simp) (by simp [List.getD]) (Nat.two_pow_pos s) (by
    intro q hq
    simp only [List.getD_eq_getElem?_getD, List.getElem?_replicate]
    split <;> rfl) (by rw [nv_zeros]; simp [nv])
  refine ⟨q, ?_, q2⟩
  unfold nat_shift.f
  rw [wrapi_id (n := (a.length : Int) + 1) (by omega) (by omega), if_pos (by omega), if_pos (by omega), show ((a.length : Int) + 1).toNat = a.length + 1 by omega]
  exact q1
theorem Shl_both {a : List Int} {n : Int} (ha : okl B64 a) (hla : a.length < 1000000000000000) (hn0 : -9223372036854775808 ≤ n) (hn : n < 9223372036854775808) {k : Nat} (hk : 60000 ≤ k) :
    ∃ p c, nat_Shl.f k a n = some (p, errn c) ∧ numeralref02_Shl.f k a n = some (p, c) ∧ p.length ≤ 128 := by
  have hV := Valid_ok (l := a) hla
  have hR := rValid_ok (l := a) hla
  unfold nat_Shl.f numeralref02_Shl.f
  rw [bind_eq hV, bind_eq hR]
  by_cases hv : vnum a = 0
  · obtain ⟨la, ta⟩ := (vnum_zero a).1 hv
    rw [if_pos (by rw [errn_isNone]; exact hv), if_pos hv]
    by_cases hneg : n < 0
    · rw [if_pos hneg, if_pos hneg]; exact ⟨[], 1, rfl, rfl, by simp⟩
    rw [if_neg hneg, if_neg hneg]
    by_cases h0 : a.length = 0
    · rw [if_pos (by omega), if_pos (by omega)]; exact ⟨[], 0, rfl, rfl, by simp⟩
    rw [if_neg (show ¬ (a.length : Int) = 0 by omega), if_neg (show ¬ (a.length : Int) = 0 by omega)]
    obtain ⟨m, rfl⟩ : ∃ m : Nat, n = (m : Int) := ⟨n.toNat, by omega⟩
    have hpos : 1 ≤ nv B64 a := by
      rcases Nat.eq_zero_or_pos (nv B64 a) with h | h
      · have := (nv_eq_zero b64_one ha ta).1 h
        subst this; simp at h0
      · exact h
    rw [tdiv64, wrapi_id (n := ((m / 64 : Nat) : Int)) (by omega) (by omega)]
    -- the reference's answer, where it shifts
    have href : m ≤ 8192 → ∃ w, okl B64 w ∧ top w ∧ nv B64 w = 2 ^ m * nv B64 a ∧ ((numeralref02_Of.f k a).bind fun t178 => ((numeralref02_Up.f k t178 (m : Int)).bind fun t181 => ((numeralref02_Words.f k t181).bind fun bt184 => (some (bt184.1, bt184.2))))) = if 128 < w.length then some ([], 20) else some (w, 0) := by
      intro hm
      obtain ⟨p, p1, p2, p3, p4, p5⟩ := of_ok ha la (k := k) (by omega)
      obtain ⟨q, q1, q2, q3, q4, q5⟩ := up_ok p2 (by omega) (n := m) (by omega) (k := k) (by omega)
      obtain ⟨w, w1, w2, w3, w4⟩ := words_ok q2 q3 (by omega) (k := k) (by omega)
      refine ⟨w, w1, w2, by rw [w3, q4, p4], ?_⟩
      rw [bind_eq p1, bind_eq q1]
      by_cases h : 128 < w.length
      · rw [if_pos h] at w4 ⊢; rw [bind_eq w4]
      · rw [if_neg h] at w4 ⊢; rw [bind_eq w4]
    by_cases hbig : 128 ≤ m / 64
    · rw [if_pos (by omega)]
      refine ⟨[], 20, rfl, ?_, by simp⟩
      by_cases h8 : 8192 < m
      · rw [if_pos (by omega)]
      · rw [if_neg (by omega)]
        obtain ⟨w, w1, w2, w3, w4⟩ := href (by omega)
        rw [w4, if_pos]
        have hm : m = 8192 := by omega
        rcases Nat.lt_or_ge 128 w.length with h | h
        · exact h
        · exfalso
          have h1 := (top_length b64_one w1 w2 128).1 h
          rw [w3, hm, big_64] at h1
          have := Nat.le_mul_of_pos_right (2 ^ 8192) hpos
          exact absurd h1 (Nat.not_lt.2 this)
    · rw [if_neg (show ¬ ((m / 64 : Nat) : Int) ≥ 128 by omega), if_pos (by omega), if_pos (by omega), if_neg (show ¬ (m : Int) > 8192 by omega), Int.toNat_natCast, tmod64, wrapu_id (n := ((m % 64 : Nat) : Int)) (by omega) (by omega)]
      obtain ⟨w, w1, w2, w3, w4⟩ := href (by omega)
      obtain ⟨q, q1, q2, q3, q4⟩ := shift_ok ha la (s := m % 64) (by omega) (k := k) (by omega)
      have hcat : okl B64 (List.replicate (m / 64) 0 ++ q) := okl_append.2 ⟨okl_zeros _ _ b64_pos, q2⟩
      obtain ⟨t, t1, t2, t3, t4⟩ := kept_ok hcat (by simp; omega) (k := k) (by simp; omega)
      rw [nv_append, nv_zeros, List.length_replicate, Nat.zero_add, q4, ← Nat.mul_assoc, ← pow_split64] at t3
      have htw : t = w := top_inj b64_one t1 w1 t2 w2 (by rw [t3, w3])
      subst htw
      have hbind : ∀ (z : List Int) (F : List Int → Option (List Int × Option Int)), (some z).bind F = F z := fun _ _ => rfl
      rw [hbind, bind_eq q1, if_pos (by simp; omega)]
      by_cases h : 128 < t.length
      · rw [if_pos h] at t4 w4
        exact ⟨[], 20, by rw [bind_eq t4]; rfl, w4, by simp⟩
      · rw [if_neg h] at t4 w4
        exact ⟨t, 0, by rw [bind_eq t4]; rfl, w4, by omega⟩
  · rw [if_neg (by rw [errn_isNone]; exact hv), if_neg hv, errn_getD hv]
    exact ⟨[], vnum a, rfl, rfl, by simp⟩
/-! ### the program's shift down -/
theorem drop_nv {B : Nat} (hB : 0 < B) {l : List Int} (h : okl B l) (i : Nat) : nv B (l.drop i) = nv B l / B ^ i ∧ nv B (l.take i) = nv B l % B ^ i := by
  rcases Nat.lt_or_ge l.length i with hi | hi
  · rw [List.drop_eq_nil_of_le (by omega), List.take_of_length_le (by omega)]
    have h1 : nv B l < B ^ i := Nat.lt_of_lt_of_le (nv_lt hB h) (Nat.pow_le_pow_right hB (by omega))
    rw [Nat.div_eq_of_lt h1, Nat.mod_eq_of_lt h1]; exact ⟨rfl, rfl⟩
  · have h1 := nv_take_drop B l i hi
    have h2 := nv_lt hB (okl_take h i)
    rw [List.length_take, Nat.min_eq_left hi] at h2
    rw [h1, Nat.add_mul_div_left _ _ (Nat.pow_pos hB), Nat.div_eq_of_lt h2, Nat.zero_add, Nat.add_mul_mod_self_left, Nat.mod_eq_of_lt h2]
    exact ⟨rfl, rfl⟩
theorem shr_l1 {a : List Int} (ha : okl B64 a) (la : a.length ≤ 128) {n : Nat} (cut : Bool) : ∀ (m k t : Nat) (out : List Int), n / 64 + t + m = a.length → m + 300 ≤ k → okl B64 out → out.length = a.length - n / 64 → (∀ q, t ≤ q → out.getD q 0 = 0) → nv B64 out = nv B64 a / 2 ^ n % B64 ^ t →
    ∃ q, nat_Shr.l1 k a ((n / 64 : Nat) : Int) ((n % 64 : Nat) : Int) cut out ((a.length - n / 64 : Nat) : Int) (t : Int) = some (q, cut, none) ∧ okl B64 q ∧ top q ∧ nv B64 q = nv B64 a / 2 ^ n ∧ q.length ≤ 128 := by
  have hB : B64 = 18446744073709551616 := rfl
  have e64 : B64 = 2 ^ 64 := rfl
  have hsp := pow_split64 n
  intro m
  induction m with
  | zero =>
    intro k t out hi hk ho hlen hz hv
    obtain ⟨k, rfl⟩ : ∃ q, k = q + 1 := ⟨k - 1, by omega⟩
    obtain ⟨z, m1, m2, m3, m4⟩ := trim_ok (l := out) (by omega) (k := k) (by omega)
    refine ⟨_, ?_, okl_take ho z, m3, ?_, by rw [List.length_take]; omega⟩
    · rw [nat_Shr.l1, if_neg (by omega), bind_eq m2]
    · rw [m4, hv]
      apply Nat.mod_eq_of_lt
      have h1 := nv_lt b64_pos ha
      rw [show a.length = n / 64 + t by omega, Nat.pow_add] at h1
      rw [hsp, ← Nat.div_div_eq_div_mul]
      have h2 : nv B64 a / B64 ^ (n / 64) < B64 ^ t := by
        rw [Nat.div_lt_iff_lt_mul (Nat.pow_pos b64_pos), Nat.mul_comm]; exact h1
      exact Nat.lt_of_le_of_lt (Nat.div_le_self _ _) h2
  | succ m ih =>
    intro k t out hi hk ho hlen hz hv
    obtain ⟨k, rfl⟩ : ∃ q, k = q + 1 := ⟨k - 1, by omega⟩
    obtain ⟨i, hii⟩ : ∃ i, i = n / 64 + t := ⟨_, rfl⟩
    obtain ⟨x, hx, hxB, hxn⟩ := dig_at ha b64_pos i
    obtain ⟨y, hy, hyB, hyn⟩ := dig_at ha b64_pos (i + 1)
    have hxB' : x < 18446744073709551616 := hxB
    have hyB' : y < 18446744073709551616 := hyB
    obtain ⟨s, hs⟩ : ∃ s, s = n % 64 := ⟨_, rfl⟩
    have hs64 : s < 64 := by omega
    have hd : nv B64 a / 2 ^ n / B64 ^ t % B64 = (x + B64 * y) / 2 ^ s % B64 := by
      have hds := dig_shift b64_pos (Nat.two_pow_pos s) (c := 2 ^ (64 - s)) (by rw [e64, ← Nat.pow_add]; congr 1; omega) (nv B64 a / B64 ^ (n / 64)) t
      rw [hsp, ← Nat.div_div_eq_div_mul, ← hs, hds, div_pow, div_pow, ← hii, show n / 64 + (t + 1) = i + 1 by omega]
      rw [← hxn, ← hyn, dig_val b64_pos ha i, dig_val b64_pos ha (i + 1)]
    have e64s : 2 ^ (64 - s) * 2 ^ s = 18446744073709551616 := by rw [← Nat.pow_add, show 64 - s + s = 64 by omega]
    have hX : x / 2 ^ s < 2 ^ (64 - s) := by
      rw [Nat.div_lt_iff_lt_mul (Nat.two_pow_pos _), e64s]; exact hxB'
    have hYl : y * 2 ^ (64 - s) % 18446744073709551616 = y % 2 ^ s * 2 ^ (64 - s) := by
      rw [← e64s, Nat.mul_comm (2 ^ (64 - s)) (2 ^ s), Nat.mul_mod_mul_right]
    have hfit : y % 2 ^ s * 2 ^ (64 - s) + x / 2 ^ s < 18446744073709551616 := by
      have h1 := Nat.mul_le_mul_right (2 ^ (64 - s)) (show y % 2 ^ s + 1 ≤ 2 ^ s from Nat.mod_lt _ (Nat.two_pow_pos _))
      rw [Nat.add_mul, Nat.one_mul, Nat.mul_comm (2 ^ s), e64s] at h1
      omega
    have hg0 : (x + B64 * y) / 2 ^ s % B64 = y % 2 ^ s * 2 ^ (64 - s) + x / 2 ^ s := by
      have h1 : x + B64 * y = x + 2 ^ s * (2 ^ (64 - s) * y) := by rw [← Nat.mul_assoc, Nat.mul_comm (2 ^ s), e64s, hB]
      rw [h1, Nat.add_mul_div_left _ _ (Nat.two_pow_pos s)]
      have h2 := Nat.div_add_mod y (2 ^ s)
      have h3 : 2 ^ (64 - s) * y = B64 * (y / 2 ^ s) + y % 2 ^ s * 2 ^ (64 - s) := by
        have h4 := congrArg (2 ^ (64 - s) * ·) h2
        simp only [Nat.mul_add] at h4
        rw [← Nat.mul_assoc, e64s, ← hB, Nat.mul_comm _ (y % 2 ^ s)] at h4
        exact h4.symm
      rw [h3, show x / 2 ^ s + (B64 * (y / 2 ^ s) + y % 2 ^ s * 2 ^ (64 - s)) = y % 2 ^ s * 2 ^ (64 - s) + x / 2 ^ s + B64 * (y / 2 ^ s) by omega, Nat.add_mul_mod_self_left]
      exact Nat.mod_eq_of_lt hfit
    rw [hg0] at hd
    obtain ⟨g, hg⟩ : ∃ g, g = y % 2 ^ s * 2 ^ (64 - s) + x / 2 ^ s := ⟨_, rfl⟩
    rw [← hg] at hfit hd
    have hset : okl B64 (out.set t (g : Int)) := okl_set ho _ ⟨by omega, by omega⟩
    have hv2 : nv B64 (out.set t (g : Int)) = nv B64 a / 2 ^ n % B64 ^ (t + 1) := by
      have h1 := nv_set B64 (l := out) (i := t) (g : Int) (by omega)
      rw [hz t (Nat.le_refl _), Int.toNat_natCast] at h1
      have z0 : (0 : Int).toNat = 0 := rfl
      rw [z0, Nat.mul_zero, Nat.add_zero] at h1
      rw [h1, mod_pow_next, hd, hv]
    obtain ⟨q, q1, q2⟩ := ih k (t + 1) _ (by omega) (by omega) hset (by rw [List.length_set]; exact hlen) (by
      intro q hq
      rw [getD_set_ne _ (by omega)]; exact hz _ (by omega)) hv2
    refine ⟨q, ?_, q2⟩
    have hy0 : ¬ i + 1 < a.length → y = 0 := by
      intro h
      have : a.getD (i + 1) 0 = 0 := by simp [List.getD, h]
      rw [this] at hyn; exact hyn.symm
    have hbind : ∀ (z : List Int) (F : List Int → Option (List Int × Bool × Option Int)), (some z).bind F = F z := fun _ _ => rfl
    have hXB : x / 2 ^ s < 18446744073709551616 := Nat.lt_of_le_of_lt (Nat.div_le_self _ _) hxB'
    rw [← hs] at q1 ⊢
    rw [nat_Shr.l1, if_pos (by omega), wrapi_id (n := ((n / 64 : Nat) : Int) + (t : Int)) (by omega) (by omega), show ((n / 64 : Nat) : Int) + (t : Int) = (i : Int) by omega, if_pos (by omega), if_pos (by omega), if_pos (by omega), if_pos (by omega), if_pos (by omega), hx, shr_u x s (by omega), hbind, Int.toNat_natCast, wrapi_id (n := (i : Int) + 1) (by omega) (by omega), show (i : Int) + 1 = ((i + 1 : Nat) : Int) by omega, wrapi_id (n := (t : Int) + 1) (by omega) (by omega), show (t : Int) + 1 = ((t + 1 : Nat) : Int) by omega]
    have hrd : rd (out.set t ((x / 2 ^ s : Nat) : Int)) (t : Int) = ((x / 2 ^ s : Nat) : Int) := by
      rw [rd_nat, getD_set_eq _ (by omega)]
    by_cases hs0 : 0 < s
    · rw [if_pos (by omega)]
      by_cases hl : i + 1 < a.length
      · rw [if_pos (by omega), if_pos (by omega), wrapu_id (n := 64 - (s : Int)) (by omega) (by omega), if_pos (by omega), hrd, hy, show 64 - (s : Int) = ((64 - s : Nat) : Int) by omega, shl_u y (64 - s) (by omega), hYl, or_disj' _ _ (64 - s) hX (by rw [← hg]; exact hfit), ← hg, List.set_set]
        exact q1
      · have := hy0 hl
        subst this
        rw [if_neg (by omega)]
        have : g = x / 2 ^ s := by rw [hg, Nat.zero_mod, Nat.zero_mul, Nat.zero_add]
        rw [← this]
        exact q1
    · rw [if_neg (by omega)]
      have hs0' : s = 0 := by omega
      have : g = x / 2 ^ s := by rw [hg, hs0', Nat.pow_zero, Nat.mod_one, Nat.zero_mul, Nat.zero_add]
      rw [← this]
      exact q1
theorem nv_pos_of {B : Nat} (hB : 0 < B) {l : List Int} (h : okl B l) {i : Nat} (hi : i < l.length) (hx : (l.getD i 0).toNat ≠ 0) : nv B l ≠ 0 := by
  intro h0
  have := dig_val hB h i
  rw [h0, Nat.zero_div, Nat.zero_mod] at this
  exact hx this
theorem shr_l0 {a : List Int} (ha : okl B64 a) (la : a.length ≤ 128) {w : Nat} (hw : w ≤ a.length) {s : Nat} : ∀ (m k i : Nat) (c : Bool), i + m = w → m + 600 ≤ k →
    ∃ k', 500 ≤ k' ∧ nat_Shr.l0 k a (w : Int) (s : Int) c (a.take w) (w : Int) (i : Int) = nat_Shr.l1 k' a (w : Int) (s : Int) (c || decide (nv B64 ((a.take w).drop i) ≠ 0)) (List.replicate (a.length - w) 0) ((a.length - w : Nat) : Int) 0 := by
  intro m
  have hot := okl_take ha w
  have hlt : (a.take w).length = w := by rw [List.length_take, Nat.min_eq_left hw]
  induction m with
  | zero =>
    intro k i c hi hk
    obtain ⟨k, rfl⟩ : ∃ q, k = q + 1 := ⟨k - 1, by omega⟩
    have hbind : ∀ (z : List Int) (F : List Int → Option (List Int × Bool × Option Int)), (some z).bind F = F z := fun _ _ => rfl
    refine ⟨k, by omega, ?_⟩
    rw [nat_Shr.l0, if_neg (by omega), wrapi_id (n := (a.length : Int) - (w : Int)) (by omega) (by omega), if_pos (by omega), if_pos (by omega), hbind, show ((a.length : Int) - (w : Int)).toNat = a.length - w by omega, List.length_replicate, List.drop_eq_nil_of_le (by omega)]
    have : decide (nv B64 [] ≠ 0) = false := rfl
    rw [this, Bool.or_false]
  | succ m ih =>
    intro k i c hi hk
    obtain ⟨k, rfl⟩ : ∃ q, k = q + 1 := ⟨k - 1, by omega⟩
    obtain ⟨x, hx, hxB, hxn⟩ := dig_at hot b64_pos i
    have hdrop : nv B64 ((a.take w).drop i) = x + B64 * nv B64 ((a.take w).drop (i + 1)) := by rw [drop_get (by omega : i < (a.take w).length), nv, hxn]
    have hdz : nv B64 ((a.take w).drop i) ≠ 0 ↔ x ≠ 0 ∨ nv B64 ((a.take w).drop (i + 1)) ≠ 0 := by
      rw [hdrop]
      have h1 : B64 * nv B64 ((a.take w).drop (i + 1)) = 0 ↔ nv B64 ((a.take w).drop (i + 1)) = 0 := by
        rw [Nat.mul_eq_zero]; constructor
        · rintro (h | h)
          · exact absurd h (by decide)
          · exact h
        · exact .inr
      omega
    rw [nat_Shr.l0, if_pos (by omega), if_pos (by omega), if_pos (by omega), wrapi_id (n := (i : Int) + 1) (by omega) (by omega), show (i : Int) + 1 = ((i + 1 : Nat) : Int) by omega]
    cases c with
    | true =>
      obtain ⟨k', k1, k2⟩ := ih k (i + 1) true (by omega) (by omega)
      refine ⟨k', k1, ?_⟩
      rw [if_pos rfl, k2, Bool.true_or, Bool.true_or]
    | false =>
      obtain ⟨k', k1, k2⟩ := ih k (i + 1) ((x : Int) != 0) (by omega) (by omega)
      refine ⟨k', k1, ?_⟩
      rw [if_neg (by decide), hx, k2, Bool.false_or]
      congr 1
      by_cases hx0 : x = 0
      · subst hx0
        have h1 : (((0 : Nat) : Int) != 0) = false := rfl
        rw [h1, Bool.false_or, decide_eq_decide]
        rw [hdz]; constructor
        · exact .inr
        · rintro (h | h)
          · exact absurd rfl h
          · exact h
      · have h1 : ((x : Int) != 0) = true := by rw [bne_iff_ne]; omega
        rw [h1, Bool.true_or, decide_eq_true (hdz.2 (.inl hx0))]
theorem Shr_ok {a : List Int} (ha : okl B64 a) (hv : vnum a = 0) {n : Nat} (hn : n < 9223372036854775808) {k : Nat} (hk : 2000 ≤ k) :
    ∃ q, nat_Shr.f k a (n : Int) = some (q, decide (nv B64 a % 2 ^ n ≠ 0), none) ∧ okl B64 q ∧ top q ∧ nv B64 q = nv B64 a / 2 ^ n ∧ q.length ≤ 128 := by
  obtain ⟨la, ta⟩ := (vnum_zero a).1 hv
  have hV := Valid_ok (l := a) (by omega)
  unfold nat_Shr.f
  rw [bind_eq hV, if_pos (by rw [errn_isNone]; exact hv), if_neg (by omega), tdiv64, wrapi_id (n := ((n / 64 : Nat) : Int)) (by omega) (by omega)]
  by_cases hbig : a.length ≤ n / 64
  · rw [if_pos (by omega)]
    have h1 := nv_lt b64_pos ha
    have h2 : B64 ^ a.length ≤ 2 ^ n := by
      have e : B64 = 2 ^ 64 := rfl
      rw [e, ← Nat.pow_mul]; exact Nat.pow_le_pow_right (by decide) (by omega)
    have h3 : nv B64 a < 2 ^ n := by omega
    refine ⟨[], ?_, okl_nil _, top_nil, by rw [Nat.div_eq_of_lt h3]; rfl, by simp⟩
    rw [Nat.mod_eq_of_lt h3]
    congr 3
    rw [decide_eq_decide]
    have := nv_eq_zero b64_one ha ta
    constructor
    · intro h h0
      rw [this.1 h0] at h; simp at h
    · intro h
      have : a.length ≠ 0 := fun hl => h (this.2 (List.length_eq_zero_iff.1 hl))
      omega
  · obtain ⟨s, hs⟩ : ∃ s, s = n % 64 := ⟨_, rfl⟩
    obtain ⟨w, hw⟩ : ∃ w, w = n / 64 := ⟨_, rfl⟩
    have hs64 : s < 64 := by omega
    obtain ⟨x, hx, hxB, hxn⟩ := dig_at ha b64_pos w
    have hxB' : x < 18446744073709551616 := hxB
    rw [tmod64, wrapu_id (n := ((n % 64 : Nat) : Int)) (by omega) (by omega), ← hs, ← hw]
    have hlt : (a.take w).length = w := by rw [List.length_take, Nat.min_eq_left (by omega)]
    have hmask : Go.bits .and .u64 (x : Int) (IntKind.u64.wrap (shl .u64 1 (s : Int) - 1)) = ((x % 2 ^ s : Nat) : Int) := by
      have hP := Nat.two_pow_pos s
      have hP2 : 2 ^ s < 18446744073709551616 := by
        have : 2 ^ s ≤ 2 ^ 63 := Nat.pow_le_pow_right (by decide) (by omega)
        omega
      rw [shl1 s hs64, wrapu_id (n := ((2 ^ s : Nat) : Int) - 1) (by omega) (by omega), show ((2 ^ s : Nat) : Int) - 1 = ((2 ^ s - 1 : Nat) : Int) by omega, and_mask x s hxB' (by omega)]
    obtain ⟨k', k1, k2⟩ := shr_l0 ha la (w := w) (by omega) (s := s) w k 0 (((x % 2 ^ s : Nat) : Int) != 0) (by omega) (by omega)
    have hcut : ((((x % 2 ^ s : Nat) : Int) != 0) || decide (nv B64 ((a.take w).drop 0) ≠ 0)) = decide (nv B64 a % 2 ^ n ≠ 0) := by
      have h1 : nv B64 a % 2 ^ n = nv B64 (a.take w) + B64 ^ w * (x % 2 ^ s) := by
        rw [pow_split64 n, ← hw, ← hs, Nat.mod_mul, (drop_nv b64_pos ha w).2, ← hxn, dig_val b64_pos ha w]
        congr 2
        rw [show B64 = 2 ^ 64 from rfl, Nat.mod_mod_of_dvd _ (Nat.pow_dvd_pow 2 (by omega))]
      have hp : 0 < B64 ^ w := Nat.pow_pos b64_pos
      rw [List.drop_zero, h1]
      by_cases h0 : x % 2 ^ s = 0
      · rw [h0, Nat.mul_zero, Nat.add_zero]; simp
      · have h2 : 0 < B64 ^ w * (x % 2 ^ s) := Nat.mul_pos hp (by omega)
        rw [decide_eq_true (show nv B64 (a.take w) + B64 ^ w * (x % 2 ^ s) ≠ 0 by omega)]
        have : (((x % 2 ^ s : Nat) : Int) != 0) = true := by rw [bne_iff_ne]; omega
        rw [this, Bool.true_or]
    rw [hcut] at k2
    obtain ⟨q, q1, q2⟩ := shr_l1 ha la (n := n) (decide (nv B64 a % 2 ^ n ≠ 0)) (a.length - w) k' 0 (List.replicate (a.length - w) 0) (by omega) (by omega) (okl_zeros _ _ b64_pos) (by simp; omega) (by
      intro q hq
      simp only [List.getD_eq_getElem?_getD, List.getElem?_replicate]
      split <;> rfl) (by rw [nv_zeros, Nat.pow_zero, Nat.mod_one])
    refine ⟨q, ?_, q2⟩
    rw [if_neg (by omega), if_pos (by omega), if_pos (by omega), if_pos (by omega), if_pos (by omega), Int.toNat_natCast, hx, hmask, hlt, ← q1, ← hw, ← hs]
    exact k2
/-! ### the reference's bits -/
theorem bit_and1 (z r : Nat) (hz : z < 4294967296) (hr : r < 32) : (Go.bits .and .u32 (shr .u32 (z : Int) (r : Int)) 1 == 1) = decide (z / 2 ^ r % 2 = 1) := by
  have h1 : shr .u32 (z : Int) (r : Int) = ((z / 2 ^ r : Nat) : Int) := by
    unfold shr
    have e : min (r : Int).toNat IntKind.u32.bits = r := by simp [IntKind.bits]; omega
    rw [e, Int.natCast_ediv, Int.natCast_pow]
    rfl
  have h2 : z / 2 ^ r < 4294967296 := Nat.lt_of_le_of_lt (Nat.div_le_self _ _) hz
  rw [h1]
  generalize z / 2 ^ r = y at *
  have h3 : Go.bits .and .u32 (y : Int) 1 = ((y % 2 : Nat) : Int) := by
    have h4 : (BitVec.ofInt 32 (y : Int)).toNat = y := by
      rw [BitVec.ofInt_natCast, BitVec.toNat_ofNat]; exact Nat.mod_eq_of_lt (by omega)
    show IntKind.u32.wrap ((BitVec.ofInt 32 (y : Int) &&& BitVec.ofInt 32 1).toNat : Int) = _
    have h5 : (BitVec.ofInt 32 1).toNat = 1 := rfl
    rw [BitVec.toNat_and, h4, h5, Nat.and_one_is_mod]
    simp [IntKind.wrap, IntKind.signed, IntKind.bits]
    omega
  rw [h3]
  by_cases h : y % 2 = 1
  · rw [decide_eq_true h, h]; rfl
  · rw [decide_eq_false h, show y % 2 = 0 by omega]; rfl
theorem bit_ok {p : List Int} (ho : okl B32 p) (hl : p.length ≤ 1000) (i : Nat) (hi : i < 1000000000) : numeralref02_Bit.f p (i : Int) = some (decide (nv B32 p / 2 ^ i % 2 = 1)) := by
  unfold numeralref02_Bit.f
  rw [if_pos (by omega), wrapi_id (n := 32 * (p.length : Int)) (by omega) (by omega)]
  by_cases h : i < 32 * p.length
  · obtain ⟨x, hx, hxB, hxn⟩ := dig_at ho b32_pos (i / 32)
    rw [if_pos (by omega), tdiv32, tmod32, wrapi_id (n := ((i / 32 : Nat) : Int)) (by omega) (by omega), wrapu_id (n := ((i % 32 : Nat) : Int)) (by omega) (by omega), if_pos (by omega), if_pos (by omega), if_pos (by omega), hx, bit_and1 x (i % 32) hxB (by omega)]
    congr 2
    rw [dig_val b32_pos ho] at hxn
    rw [← hxn, pow_split32 i, ← Nat.div_div_eq_div_mul]
    generalize nv B32 p / B32 ^ (i / 32) = V
    obtain ⟨r, hr⟩ : ∃ r, r = i % 32 := ⟨_, rfl⟩
    have hr32 : r < 32 := by omega
    rw [← hr]
    have e : B32 = 2 ^ r * 2 ^ (32 - r) := by rw [← Nat.pow_add, show r + (32 - r) = 32 by omega]; rfl
    rw [e, Nat.mod_mul_right_div_self, Nat.mod_mod_of_dvd]
    exact ⟨2 ^ (32 - r - 1), by conv => lhs; rw [show 32 - r = (32 - r - 1) + 1 by omega, Nat.pow_succ']⟩
  · rw [if_neg (by omega)]
    have h1 := nv_lt b32_pos ho
    have h2 : B32 ^ p.length ≤ 2 ^ i := by
      have e : B32 = 2 ^ 32 := rfl
      rw [e, ← Nat.pow_mul]; exact Nat.pow_le_pow_right (by decide) (by omega)
    rw [Nat.div_eq_of_lt (by omega)]; rfl
theorem low_l0 {p : List Int} (ho : okl B32 p) (hl : p.length ≤ 300) {n : Nat} (hn : n < 9223372036854775808) : ∀ (m k i : Nat), i + m = 32 * p.length → i ≤ n → 2 * m + 10 ≤ k → nv B32 p % 2 ^ i = 0 → numeralref02_Low.l0 k p (n : Int) (i : Int) = some (decide (nv B32 p % 2 ^ n ≠ 0)) := by
  intro m
  induction m with
  | zero =>
    intro k i hi hin hk hz
    obtain ⟨k, rfl⟩ : ∃ q, k = q + 1 + 1 := ⟨k - 2, by omega⟩
    have h1 := nv_lt b32_pos ho
    have h2 : B32 ^ p.length ≤ 2 ^ i := by
      have e : B32 = 2 ^ 32 := rfl
      rw [e, ← Nat.pow_mul]; exact Nat.pow_le_pow_right (by decide) (by omega)
    rw [Nat.mod_eq_of_lt (by omega)] at hz
    have hf : decide ((i : Int) < wrap64 (32 * (p.length : Int))) = false := decide_eq_false (by rw [wrapi_id (by omega) (by omega)]; omega)
    have hj : numeralref02_Low.j1 (k + 1) p (n : Int) (i : Int) false = some false := by rw [numeralref02_Low.j1, if_neg (by decide)]
    rw [numeralref02_Low.l0, hf, hj, ite_self, hz, Nat.zero_mod]
    rfl
  | succ m ih =>
    intro k i hi hin hk hz
    obtain ⟨k, rfl⟩ : ∃ q, k = q + 1 + 1 := ⟨k - 2, by omega⟩
    have ht : decide ((i : Int) < wrap64 (32 * (p.length : Int))) = true := decide_eq_true (by rw [wrapi_id (by omega) (by omega)]; omega)
    rw [numeralref02_Low.l0, ht]
    by_cases h : i < n
    · rw [if_pos (by omega), numeralref02_Low.j1, if_pos rfl, bind_eq (bit_ok ho (by omega) i (by omega)), wrapi_id (n := (i : Int) + 1) (by omega) (by omega)]
      have hnx := mod_pow_next (nv B32 p) 2 i
      by_cases hb : nv B32 p / 2 ^ i % 2 = 1
      · rw [decide_eq_true hb, if_pos rfl]
        congr 1
        symm
        apply decide_eq_true
        intro h0
        have h1 : nv B32 p % 2 ^ (i + 1) = 0 := by
          rw [← Nat.mod_mod_of_dvd (nv B32 p) (Nat.pow_dvd_pow 2 (show i + 1 ≤ n by omega)), h0, Nat.zero_mod]
        rw [h1, hz, hb, Nat.mul_one] at hnx
        have := Nat.two_pow_pos i
        omega
      · rw [decide_eq_false hb, if_neg (by decide)]
        exact ih k (i + 1) (by omega) (by omega) (by omega) (by rw [hnx, hz, show nv B32 p / 2 ^ i % 2 = 0 by omega, Nat.mul_zero])
    · have hin' : i = n := by omega
      subst hin'
      rw [if_neg (by omega), numeralref02_Low.j1, if_neg (by decide), hz]; rfl
theorem low_ok {p : List Int} (ho : okl B32 p) (hl : p.length ≤ 300) {n : Nat} (hn : n < 9223372036854775808) {k : Nat} (hk : 30000 ≤ k) : numeralref02_Low.f k p (n : Int) = some (decide (nv B32 p % 2 ^ n ≠ 0)) := by
  unfold numeralref02_Low.f
  exact low_l0 ho hl hn (32 * p.length) k 0 (by omega) (by omega) (by omega) (by rw [Nat.pow_zero, Nat.mod_one])
theorem Shr_both {a : List Int} {n : Int} (ha : okl B64 a) (hla : a.length < 1000000000000000) (hn0 : -9223372036854775808 ≤ n) (hn : n < 9223372036854775808) {k : Nat} (hk : 60000 ≤ k) :
    ∃ p b c, nat_Shr.f k a n = some (p, b, errn c) ∧ numeralref02_Shr.f k a n = some (p, b, c) ∧ p.length ≤ 128 := by
  have hV := Valid_ok (l := a) hla
  have hR := rValid_ok (l := a) hla
  by_cases hv : vnum a = 0
  · obtain ⟨la, ta⟩ := (vnum_zero a).1 hv
    by_cases hneg : n < 0
    · refine ⟨[], false, 1, ?_, ?_, by simp⟩
      · unfold nat_Shr.f; rw [bind_eq hV, if_pos (by rw [errn_isNone]; exact hv), if_pos hneg]; rfl
      · unfold numeralref02_Shr.f; rw [bind_eq hR, if_pos hv, if_pos hneg]
    · obtain ⟨m, rfl⟩ : ∃ m : Nat, n = (m : Int) := ⟨n.toNat, by omega⟩
      obtain ⟨q, q1, q2, q3, q4, q5⟩ := Shr_ok ha hv (n := m) (by omega) (k := k) (by omega)
      obtain ⟨p, p1, p2, p3, p4, p5⟩ := of_ok ha la (k := k) (by omega)
      obtain ⟨d, d1, d2, d3, d4, d5⟩ := down_gen p2 (by omega) (n := m) (by omega) (k := k) (by omega)
      obtain ⟨w, w1, w2, w3, w4⟩ := words_ok d2 d3 (by omega) (k := k) (by omega)
      have hwq : w = q := top_inj b64_one w1 q2 w2 q3 (by rw [w3, d4, p4, q4])
      subst hwq
      rw [if_neg (by omega)] at w4
      refine ⟨w, _, 0, q1, ?_, q5⟩
      unfold numeralref02_Shr.f
      rw [bind_eq hR, if_pos hv, if_neg hneg, bind_eq p1, bind_eq d1, bind_eq w4, bind_eq p1, bind_eq (low_ok p2 (by omega) (by omega) (by omega)), p4]
  · refine ⟨[], false, vnum a, ?_, ?_, by simp⟩
    · unfold nat_Shr.f; rw [bind_eq hV, if_neg (by rw [errn_isNone]; exact hv), errn_getD hv]
    · unfold numeralref02_Shr.f; rw [bind_eq hR, if_neg hv]
/-! ### lengths -/
theorem bl_unique {n L M : Nat} (h1 : bl n L) (h2 : bl n M) : L = M := by
  rcases Nat.eq_zero_or_pos n with h0 | h0
  · rw [h1.2.2 h0, h2.2.2 h0]
  · obtain ⟨a1, a2, _⟩ := h1
    obtain ⟨b1, b2, _⟩ := h2
    obtain ⟨a3, a4⟩ := a2 h0
    obtain ⟨b3, b4⟩ := b2 h0
    have c1 : L - 1 < M := (Nat.pow_lt_pow_iff_right (by decide : 1 < 2)).1 (Nat.lt_of_le_of_lt a4 b1)
    have c2 : M - 1 < L := (Nat.pow_lt_pow_iff_right (by decide : 1 < 2)).1 (Nat.lt_of_le_of_lt b4 a1)
    omega
theorem Bits_ok {a : List Int} (ha : okl B64 a) (hv : vnum a = 0) : ∃ L : Nat, nat_Bits.f a = some ((L : Int), none) ∧ bl (nv B64 a) L := by
  obtain ⟨la, ta⟩ := (vnum_zero a).1 hv
  have hV := Valid_ok (l := a) (by omega)
  unfold nat_Bits.f
  rw [bind_eq hV, if_pos (by rw [errn_isNone]; exact hv)]
  by_cases h0 : a.length = 0
  · rw [if_pos (by omega)]
    have : a = [] := List.length_eq_zero_iff.1 h0
    subst this
    exact ⟨0, rfl, by decide, fun h => absurd h (by simp [nv]), fun _ => rfl⟩
  · obtain ⟨r, hr⟩ : ∃ r, a.length = r + 1 := ⟨a.length - 1, by omega⟩
    obtain ⟨x, hx, hxB, hxn⟩ := dig_at ha b64_pos r
    have hxB' : x < 18446744073709551616 := hxB
    have hx0 : 0 < x := by
      rcases Nat.eq_zero_or_pos x with h | h
      · exfalso
        have h1 := (top_iff a).1 ta
        apply h1
        refine ⟨by omega, ?_⟩
        rw [show a.length - 1 = r by omega]
        have h2 := okl_get ha r b64_pos
        omega
      · exact h
    obtain ⟨b0, b1, b2⟩ := blen_spec _ x rfl hx0 hxB'
    have hbl := bitLen_le64 x hxB'
    have hlz : bits_LeadingZeros64.f (x : Int) = some ((64 - Lib.bitLen x : Nat) : Int) := by
      have hlen : bits_Len64.f (x : Int) = some ((Lib.bitLen x : Nat) : Int) := by
        unfold bits_Len64.f u64ok
        rw [if_pos (u64ok_of hxB'), Int.toNat_natCast]
      unfold bits_LeadingZeros64.f
      rw [bind_eq hlen, wrapi_id (by omega) (by omega)]
      rw [show (64 : Int) - ((Lib.bitLen x : Nat) : Int) = ((64 - Lib.bitLen x : Nat) : Int) by omega]
    refine ⟨64 * r + Lib.bitLen x, ?_, ?_⟩
    · rw [if_neg (by omega), wrapi_id (n := (a.length : Int) - 1) (by omega) (by omega), if_pos (by omega), if_pos (by omega), show (a.length : Int) - 1 = (r : Int) by omega, hx, bind_eq hlz, wrapi_id (n := 64 * (a.length : Int)) (by omega) (by omega), wrapi_id (by omega) (by omega)]
      rw [show 64 * (a.length : Int) - ((64 - Lib.bitLen x : Nat) : Int) = ((64 * r + Lib.bitLen x : Nat) : Int) by omega]
    · have h1 := nv_take_drop B64 a r (by omega)
      rw [drop_get (by omega : r < a.length), nv, hxn, List.drop_eq_nil_of_le (by omega), nv, Nat.mul_zero, Nat.add_zero] at h1
      have h2 := nv_lt b64_pos (okl_take ha r)
      rw [List.length_take, Nat.min_eq_left (by omega)] at h2
      have e : B64 ^ r = 2 ^ (64 * r) := by rw [show B64 = 2 ^ 64 from rfl, ← Nat.pow_mul]
      rw [e] at h1 h2
      have hP := Nat.two_pow_pos (64 * r)
      have h3 := Nat.mul_le_mul_left (2 ^ (64 * r)) (show x + 1 ≤ 2 ^ Lib.bitLen x from b2)
      have h4 := Nat.mul_le_mul_left (2 ^ (64 * r)) b1
      rw [Nat.mul_add, Nat.mul_one, ← Nat.pow_add] at h3
      rw [← Nat.pow_add] at h4
      have h5 : 2 ^ (64 * r) * 1 ≤ 2 ^ (64 * r) * x := Nat.mul_le_mul_left _ hx0
      refine ⟨by omega, fun _ => ⟨by omega, ?_⟩, fun h => by omega⟩
      rw [show 64 * r + Lib.bitLen x - 1 = 64 * r + (Lib.bitLen x - 1) by omega]
      omega
theorem Bits_both {a : List Int} (ha : okl B64 a) (hla : a.length < 1000000000000000) {k : Nat} (hk : 1000 ≤ k) :
    ∃ b c, nat_Bits.f a = some (b, errn c) ∧ numeralref02_Bits.f k a = some (b, c) := by
  have hV := Valid_ok (l := a) hla
  have hR := rValid_ok (l := a) hla
  by_cases hv : vnum a = 0
  · obtain ⟨la, ta⟩ := (vnum_zero a).1 hv
    obtain ⟨L, l1, l2⟩ := Bits_ok ha hv
    obtain ⟨p, p1, p2, p3, p4, p5⟩ := of_ok ha la (k := k) (by omega)
    obtain ⟨M, m1, m2, m3⟩ := len_ok p2 p3 (by omega) (k := k) (by omega)
    rw [p4] at m2
    have := bl_unique l2 m2
    subst this
    refine ⟨_, 0, l1, ?_⟩
    unfold numeralref02_Bits.f
    rw [bind_eq hR, if_pos hv, bind_eq p1, bind_eq m1]
  · refine ⟨0, vnum a, ?_, ?_⟩
    · unfold nat_Bits.f; rw [bind_eq hV, if_neg (by rw [errn_isNone]; exact hv), errn_getD hv]
    · unfold numeralref02_Bits.f; rw [bind_eq hR, if_neg hv]
/-! ### noughts at the end -/
/-- The place of the lowest 1. -/
def lowest (V i : Nat) : Prop := V % 2 ^ i = 0 ∧ V / 2 ^ i % 2 = 1
theorem lowest_unique {V i j : Nat} (hi : lowest V i) (hj : lowest V j) : i = j := by
  have key : ∀ {i j : Nat}, lowest V i → lowest V j → ¬ i < j := by
    intro i j hi hj hlt
    have h1 : V % 2 ^ (i + 1) = 0 := by
      rw [← Nat.mod_mod_of_dvd V (Nat.pow_dvd_pow 2 (show i + 1 ≤ j from hlt)), hj.1, Nat.zero_mod]
    have h2 := mod_pow_next V 2 i
    rw [h1, hi.1, hi.2, Nat.mul_one] at h2
    have := Nat.two_pow_pos i
    omega
  have h1 := key hi hj
  have h2 := key hj hi
  omega
theorem zeros_l0 {a : List Int} (ha : okl B64 a) (la : a.length ≤ 128) (h0 : 0 < nv B64 a) : ∀ (m k i : Nat), i + m = a.length → m + 1 ≤ k → nv B64 (a.take i) = 0 → ∃ z : Nat, nat_Zeros.l0 k a (a.length : Int) (i : Int) = some ((z : Int), none) ∧ lowest (nv B64 a) z ∧ z < 8192 := by
  intro m
  induction m with
  | zero =>
    intro k i hi hk hz
    rw [List.take_of_length_le (by omega)] at hz
    omega
  | succ m ih =>
    intro k i hi hk hz
    obtain ⟨k, rfl⟩ : ∃ q, k = q + 1 := ⟨k - 1, by omega⟩
    obtain ⟨x, hx, hxB, hxn⟩ := dig_at ha b64_pos i
    have hxB' : x < 18446744073709551616 := hxB
    rw [nat_Zeros.l0, if_pos (by omega), if_pos (by omega), if_pos (by omega), hx]
    by_cases hx0 : x = 0
    · rw [if_pos (by omega), wrapi_id (n := (i : Int) + 1) (by omega) (by omega)]
      exact ih k (i + 1) (by omega) (by omega) (by rw [nv_take_step, hz, hxn, hx0, Nat.mul_zero])
    · have htz : bits_TrailingZeros64.f (x : Int) = some ((Lib.ctz 64 x : Nat) : Int) := by
        unfold bits_TrailingZeros64.f u64ok
        rw [if_pos (u64ok_of hxB'), Int.toNat_natCast]
      obtain ⟨o, o1, o2⟩ := ctz_spec (by omega : 0 < x) hxB'
      obtain ⟨c, hc⟩ : ∃ c, c = Lib.ctz 64 x := ⟨_, rfl⟩
      rw [← hc] at htz o1 o2
      refine ⟨64 * i + c, ?_, ?_, by omega⟩
      · rw [if_neg (by omega), bind_eq htz, wrapi_id (n := 64 * (i : Int)) (by omega) (by omega), wrapi_id (by omega) (by omega)]
        rfl
      · have h1 := nv_take_drop B64 a i (by omega)
        rw [hz, Nat.zero_add, drop_get (by omega : i < a.length), nv, hxn] at h1
        generalize nv B64 (a.drop (i + 1)) = Y at *
        have e : B64 ^ i = 2 ^ (64 * i) := by rw [show B64 = 2 ^ 64 from rfl, ← Nat.pow_mul]
        have e2 : B64 = 2 ^ c * (2 * 2 ^ (63 - c)) := by
          rw [← Nat.pow_succ', ← Nat.pow_add, show c + (63 - c + 1) = 64 by omega]; rfl
        have h2 : nv B64 a = 2 ^ (64 * i + c) * (2 * (o + 2 ^ (63 - c) * Y) + 1) := by
          have e3 : B64 * Y = 2 ^ c * (2 * (2 ^ (63 - c) * Y)) := by
            conv => lhs; rw [e2]
            rw [Nat.mul_assoc, Nat.mul_assoc]
          have e5 : ∀ z : Nat, 2 * o + 1 + 2 * z = 2 * (o + z) + 1 := fun z => by omega
          have e4 : x + B64 * Y = 2 ^ c * (2 * (o + 2 ^ (63 - c) * Y) + 1) := by
            rw [e3, o1, Nat.mul_comm (2 * o + 1), ← Nat.mul_add, e5]
          rw [h1, e, e4, Nat.pow_add, Nat.mul_assoc]
        refine ⟨by rw [h2, Nat.mul_mod_right], ?_⟩
        rw [h2, Nat.mul_div_cancel_left _ (Nat.two_pow_pos _)]
        omega
theorem rzeros_l0 {a p : List Int} (ha : okl B64 a) (la : a.length ≤ 128) (ta : top a) {k0 : Nat} (ho : okl B32 p) (hl : p.length ≤ 256) (hp : ∀ k, 500 ≤ k → numeralref02_Of.f k a = some p) {z : Nat} (hz : lowest (nv B32 p) z) (hz2 : z < 8192) (hne : a ≠ []) : ∀ (m k i : Nat), i + m = z → m + 600 ≤ k → nv B32 p % 2 ^ i = 0 → numeralref02_Zeros.l0 k a (i : Int) = some ((z : Int), 0) := by
  intro m
  have hal : 0 < a.length := Nat.pos_of_ne_zero (fun h => hne (List.length_eq_zero_iff.1 h))
  induction m with
  | zero =>
    intro k i hi hk hm
    obtain ⟨k, rfl⟩ : ∃ q, k = q + 1 := ⟨k - 1, by omega⟩
    have : i = z := by omega
    subst this
    rw [numeralref02_Zeros.l0, if_pos (by omega), bind_eq (hp k (by omega)), bind_eq (bit_ok ho (by omega) i (by omega)), decide_eq_true hz.2, if_pos rfl]
  | succ m ih =>
    intro k i hi hk hm
    obtain ⟨k, rfl⟩ : ∃ q, k = q + 1 := ⟨k - 1, by omega⟩
    have hb : ¬ nv B32 p / 2 ^ i % 2 = 1 := by
      intro h
      have := lowest_unique (V := nv B32 p) ⟨hm, h⟩ hz
      omega
    have hnx := mod_pow_next (nv B32 p) 2 i
    rw [numeralref02_Zeros.l0, if_pos (by omega), bind_eq (hp k (by omega)), bind_eq (bit_ok ho (by omega) i (by omega)), decide_eq_false hb, if_neg (by decide), wrapi_id (n := (i : Int) + 1) (by omega) (by omega)]
    exact ih k (i + 1) (by omega) (by omega) (by rw [hnx, hm, show nv B32 p / 2 ^ i % 2 = 0 by omega, Nat.mul_zero])
theorem Zeros_both {a : List Int} (ha : okl B64 a) (hla : a.length < 1000000000000000) {k : Nat} (hk : 20000 ≤ k) :
    ∃ b c, nat_Zeros.f k a = some (b, errn c) ∧ numeralref02_Zeros.f k a = some (b, c) := by
  have hV := Valid_ok (l := a) hla
  have hR := rValid_ok (l := a) hla
  unfold nat_Zeros.f numeralref02_Zeros.f
  rw [bind_eq hV, bind_eq hR]
  by_cases hv : vnum a = 0
  · obtain ⟨la, ta⟩ := (vnum_zero a).1 hv
    rw [if_pos (by rw [errn_isNone]; exact hv), if_pos hv]
    by_cases hne : a = []
    · subst hne
      obtain ⟨k, rfl⟩ : ∃ q, k = q + 1 := ⟨k - 1, by omega⟩
      refine ⟨0, 0, ?_, ?_⟩
      · rw [nat_Zeros.l0, if_neg (by simp)]; rfl
      · rw [numeralref02_Zeros.l0, if_neg (by simp)]
    · have h0 : 0 < nv B64 a := by
        rcases Nat.eq_zero_or_pos (nv B64 a) with h | h
        · exact absurd ((nv_eq_zero b64_one ha ta).1 h) hne
        · exact h
      obtain ⟨z, z1, z2, z3⟩ := zeros_l0 ha la h0 a.length k 0 (by omega) (by omega) (by simp [nv])
      obtain ⟨p, p1, p2, p3, p4, p5⟩ := of_ok ha la (k := 500) (by omega)
      have hp : ∀ k, 500 ≤ k → numeralref02_Of.f k a = some p := by
        intro k hk
        obtain ⟨p', q1, q2, q3, q4, q5⟩ := of_ok ha la (k := k) hk
        have : p' = p := top_inj b32_one q2 p2 q3 p3 (by rw [q4, p4])
        rw [← this]; exact q1
      refine ⟨_, 0, z1, ?_⟩
      exact rzeros_l0 ha la ta (k0 := 0) p2 p5 hp (by rw [p4]; exact z2) z3 hne z k 0 (by omega) (by omega) (by rw [Nat.pow_zero, Nat.mod_one])
  · rw [if_neg (by rw [errn_isNone]; exact hv), if_neg hv, errn_getD hv]
    exact ⟨0, vnum a, rfl, rfl⟩
end Go.Proofs.YtemjpmgfbnlkjaaDoor.XsB
