
/- The reference's lengths, shifts up, halves, quotients bit by bit. -/
import Derived.Test.YtemjpmgfbnlkjaaDoorXsU
import Derived.Test.YtemjpmgfbnlkjaaDoorXsx3
import Derived.Test.YtemjpmgfbnlkjaaDoorXsx5
namespace Go.Proofs.YtemjpmgfbnlkjaaDoor.XsB
open Go.RowKit Go.Proofs.YtemjpmgfbnlkjaaDoor.Xs Go.Proofs.YtemjpmgfbnlkjaaDoor.A Go.Proofs.YtemjpmgfbnlkjaaDoor.L Go.Proofs.YtemjpmgfbnlkjaaDoorW.PrintWords Go.Proofs.YtemjpmgfbnlkjaaDoorW.PrintLast Go.Proofs.YtemjpmgfbnlkjaaDoorW.PrintMore
set_option linter.unusedSimpArgs false
set_option linter.unusedVariables false
/-- L binary digits has n. -/
def bl (n L : Nat) : Prop := n < 2 ^ L ∧ (0 < n → 0 < L ∧ 2 ^ (L - 1) ≤ n) ∧ (n = 0 → L = 0)
theorem len_l0 : ∀ (n x k : Nat) (c : Int), 0 ≤ c → c + (n : Int) ≤ 1000000 → n ≤ 64 → x < 2 ^ n → n + 1 ≤ k → ∃ l, l ≤ n ∧ numeralref02_Length.l0 k c (x : Int) = some (c + (l : Int)) ∧ x < 2 ^ l ∧ (0 < x → 0 < l ∧ 2 ^ (l - 1) ≤ x) ∧ (x = 0 → l = 0) := by
  intro n
  induction n with
  | zero =>
    intro x k c h0 h1 hn hx hk
    obtain ⟨k, rfl⟩ : ∃ q, k = q + 1 := ⟨k - 1, by omega⟩
    have hx0 : x = 0 := by rw [Nat.pow_zero] at hx; omega
    subst hx0
    refine ⟨0, Nat.le_refl _, ?_, by decide, fun h => by omega, fun _ => rfl⟩
    rw [numeralref02_Length.l0, if_neg (by omega)]; simp
  | succ n ih =>
    intro x k c h0 h1 hn hx hk
    obtain ⟨k, rfl⟩ : ∃ q, k = q + 1 := ⟨k - 1, by omega⟩
    by_cases hx0 : x = 0
    · subst hx0
      refine ⟨0, by omega, ?_, by decide, fun h => by omega, fun _ => rfl⟩
      rw [numeralref02_Length.l0, if_neg (by omega)]; simp
    · rw [Nat.pow_succ] at hx
      obtain ⟨l, l1, l2, l3, l4, l5⟩ := ih (x / 2) k (c + 1) (by omega) (by omega) (by omega) (by omega) (by omega)
      refine ⟨l + 1, by omega, ?_, by rw [Nat.pow_succ]; omega, fun _ => ⟨by omega, ?_⟩, fun h => absurd h hx0⟩
      · rw [numeralref02_Length.l0, if_pos (by omega), wrapi_id (n := c + 1) (by omega) (by omega), show (x : Int) / 2 = ((x / 2 : Nat) : Int) by omega, l2]
        congr 1; omega
      · show 2 ^ l ≤ x
        by_cases hh : x / 2 = 0
        · have := l5 hh; subst this; omega
        · obtain ⟨m1, m2⟩ := l4 (by omega)
          have : 2 ^ l = 2 ^ (l - 1) * 2 := by rw [← Nat.pow_succ]; congr 1; omega
          omega
theorem len_ok {p : List Int} (ho : okl B32 p) (ht : top p) (hl : p.length ≤ 1000) {k : Nat} (hk : 100 ≤ k) : ∃ L : Nat, numeralref02_Length.f k p = some (L : Int) ∧ bl (nv B32 p) L ∧ L ≤ 32 * p.length := by
  unfold numeralref02_Length.f
  by_cases h0 : p.length = 0
  · have : p = [] := List.length_eq_zero_iff.1 h0
    subst this
    exact ⟨0, if_pos (by rfl), ⟨by simp [nv], fun h => by simp [nv] at h, fun _ => rfl⟩, by simp⟩
  · obtain ⟨r1, r2, r3⟩ := rd_last (l := p) (by omega) (by omega)
    obtain ⟨m, hm⟩ : ∃ m, p.length = m + 1 := ⟨p.length - 1, by omega⟩
    obtain ⟨x, hx, hxB, hxn⟩ := dig_at ho b32_pos m
    have htop := (top_iff p).1 ht
    have hx0 : 0 < x := by
      rw [show p.length - 1 = m by omega, ← rd_nat, hx] at htop
      omega
    obtain ⟨l, l1, l2, l3, l4, l5⟩ := len_l0 32 x k ((32 * m : Nat) : Int) (by omega) (by omega) (by omega) hxB (by omega)
    obtain ⟨m1, m2⟩ := l4 hx0
    have hnv : nv B32 p = nv B32 (p.take m) + B32 ^ m * x := by
      have := nv_take_step B32 p m
      rw [List.take_of_length_le (by omega), hxn] at this
      exact this
    have hlow := nv_lt b32_pos (okl_take ho m)
    rw [List.length_take, Nat.min_eq_left (by omega)] at hlow
    have hB : B32 ^ m = 2 ^ (32 * m) := by rw [Nat.pow_mul]; rfl
    rw [hB] at hnv hlow
    refine ⟨32 * m + l, ?_, ⟨?_, fun _ => ⟨by omega, ?_⟩, fun h => ?_⟩, by omega⟩
    · rw [if_neg (by omega), if_pos r1, if_pos r2, r3, ← rd_nat, show p.length - 1 = m by omega, hx, wrapi_id (n := (p.length : Int) - 1) (by omega) (by omega), wrapi_id (n := 32 * ((p.length : Int) - 1)) (by omega) (by omega), show 32 * ((p.length : Int) - 1) = ((32 * m : Nat) : Int) by omega, l2]
      rfl
    · rw [hnv, Nat.pow_add]
      have := Nat.mul_le_mul_left (2 ^ (32 * m)) (show x + 1 ≤ 2 ^ l from l3)
      rw [Nat.mul_add, Nat.mul_one] at this
      omega
    · rw [hnv, show 32 * m + l - 1 = 32 * m + (l - 1) by omega, Nat.pow_add]
      have := Nat.mul_le_mul_left (2 ^ (32 * m)) m2
      omega
    · rw [hnv] at h
      have := Nat.mul_pos (Nat.two_pow_pos (32 * m)) hx0
      omega
theorem tmod32 (n : Nat) : Int.tmod (n : Int) 32 = ((n % 32 : Nat) : Int) := (Int.ofNat_tmod n 32).symm
theorem tdiv32 (n : Nat) : Int.tdiv (n : Int) 32 = ((n / 32 : Nat) : Int) := (Int.ofNat_tdiv n 32).symm
theorem up_l0 {p : List Int} (ho : okl B32 p) (hl : p.length ≤ 1000) {n : Nat} (hn : n ≤ 100000) : ∀ (m k i c : Nat) (acc : List Int), i + m = p.length → m + 6000 ≤ k → okl B32 acc → acc.length = n / 32 + i → c < 2 ^ (n % 32) → nv B32 acc + B32 ^ acc.length * c = 2 ^ n * nv B32 (p.take i) →
    ∃ q, numeralref02_Up.l0 k p (n : Int) acc (c : Int) (i : Int) = some q ∧ okl B32 q ∧ top q ∧ nv B32 q = 2 ^ n * nv B32 p ∧ q.length ≤ n / 32 + p.length + 1 := by
  intro m
  induction m with
  | zero =>
    intro k i c acc hi hk ha hlen hc hv
    obtain ⟨k, rfl⟩ : ∃ q, k = q + 1 := ⟨k - 1, by omega⟩
    have hr : 2 ^ (n % 32) ≤ 2 ^ 31 := Nat.pow_le_pow_right (by decide) (by omega)
    have e1 : (c : Int) % 4294967296 = (c : Int) := by omega
    have hoc : okl B32 (acc ++ [(c : Int)]) := by
      rw [okl_append]
      refine ⟨ha, okl_cons.2 ⟨⟨by omega, ?_⟩, okl_nil _⟩⟩
      show _ < ((4294967296 : Nat) : Int); omega
    obtain ⟨t, m1, m2, m3, m4⟩ := rtrim_ok (l := acc ++ [(c : Int)]) (by simp; omega) (k := k) (by simp; omega)
    refine ⟨_, ?_, okl_take hoc t, m3, ?_, by rw [List.length_take]; simp; omega⟩
    · rw [numeralref02_Up.l0, if_neg (by omega), if_pos (by omega), e1, bind_eq m2]
    · rw [m4, nv_snoc, Int.toNat_natCast, hv, List.take_of_length_le (by omega)]
  | succ m ih =>
    intro k i c acc hi hk ha hlen hc hv
    obtain ⟨k, rfl⟩ : ∃ q, k = q + 1 := ⟨k - 1, by omega⟩
    obtain ⟨x, hx, hxB, hxn⟩ := dig_at ho b32_pos i
    have hxB' : x < 4294967296 := hxB
    have hr : 2 ^ (n % 32) ≤ 2 ^ 31 := Nat.pow_le_pow_right (by decide) (by omega)
    have hpos := Nat.two_pow_pos (n % 32)
    have hfit : x * 2 ^ (n % 32) + c < 2 ^ (n % 32) * 4294967296 := by
      have := Nat.mul_le_mul_right (2 ^ (n % 32)) (show x + 1 ≤ 4294967296 from hxB')
      rw [Nat.add_mul, Nat.one_mul, Nat.mul_comm 4294967296] at this
      omega
    have h64 : x * 2 ^ (n % 32) + c < 18446744073709551616 := by
      have := Nat.mul_le_mul_right 4294967296 hr
      omega
    generalize hv0 : x * 2 ^ (n % 32) + c = v at *
    have hc' : v / B32 < 2 ^ (n % 32) := (Nat.div_lt_iff_lt_mul b32_pos).2 hfit
    have hoc : okl B32 (acc ++ [((v % B32 : Nat) : Int)]) := by
      rw [okl_append]
      have := Nat.mod_lt v b32_pos
      exact ⟨ha, okl_cons.2 ⟨⟨by omega, by omega⟩, okl_nil _⟩⟩
    have hv2 : nv B32 (acc ++ [((v % B32 : Nat) : Int)]) + B32 ^ (acc ++ [((v % B32 : Nat) : Int)]).length * (v / B32) = 2 ^ n * nv B32 (p.take (i + 1)) := by
      have hp : B32 ^ acc.length * 2 ^ (n % 32) = 2 ^ n * B32 ^ i := by
        rw [hlen]
        have e : B32 = 2 ^ 32 := rfl
        rw [e, ← Nat.pow_mul, ← Nat.pow_mul, ← Nat.pow_add, ← Nat.pow_add]
        congr 1
        have := Nat.div_add_mod n 32
        omega
      have hs := add_step (P := B32 ^ acc.length) (B := B32) (x := x * 2 ^ (n % 32)) (y := 0) (d := v % B32) (c' := v / B32) hv (by rw [Nat.mod_add_div, Nat.add_zero]; exact hv0.symm)
      have hq : B32 ^ acc.length * (x * 2 ^ (n % 32)) = 2 ^ n * (B32 ^ i * x) := by
        rw [Nat.mul_comm x, ← Nat.mul_assoc, hp, Nat.mul_assoc]
      rw [nv_snoc, Int.toNat_natCast, List.length_append, List.length_singleton, Nat.pow_succ, hs, hq, nv_take_step, hxn, Nat.mul_add, Nat.mul_zero, Nat.add_zero]
    obtain ⟨q, q1, q2⟩ := ih k (i + 1) (v / B32) _ (by omega) (by omega) hoc (by simp [hlen]; omega) hc' hv2
    refine ⟨q, ?_, q2⟩
    have e1 : (v : Int) % 4294967296 = ((v % B32 : Nat) : Int) := by unfold B32; omega
    have e2 : (v : Int) / 4294967296 = ((v / B32 : Nat) : Int) := by unfold B32; omega
    rw [numeralref02_Up.l0, if_pos (by omega), if_pos (by omega), tmod32, wrapu_id (n := ((n % 32 : Nat) : Int)) (by omega) (by omega), if_pos (by omega), if_pos (by omega), hx, wrapu_id (n := (x : Int)) (by omega) (by omega), shl_fit x (n % 32) (by omega) (by omega), or_disj' x c (n % 32) hc (by omega), hv0, e1, e2, wrapi_id (n := (i : Int) + 1) (by omega) (by omega)]
    exact q1
theorem up_ok {p : List Int} (ho : okl B32 p) (hl : p.length ≤ 1000) {n : Nat} (hn : n ≤ 100000) {k : Nat} (hk : 8000 ≤ k) :
    ∃ q, numeralref02_Up.f k p (n : Int) = some q ∧ okl B32 q ∧ top q ∧ nv B32 q = 2 ^ n * nv B32 p ∧ q.length ≤ n / 32 + p.length + 1 := by
  unfold numeralref02_Up.f
  by_cases h0 : p.length = 0
  · have : p = [] := List.length_eq_zero_iff.1 h0
    subst this
    exact ⟨[], by rw [if_pos (by rfl)], okl_nil _, top_nil, by simp [nv], by simp⟩
  · obtain ⟨q, q1, q2⟩ := up_l0 ho hl hn p.length k 0 0 (List.replicate (n / 32) 0) (by omega) (by omega) (okl_zeros _ _ b32_pos) (by simp) (Nat.two_pow_pos _) (by rw [nv_zeros]; simp [nv])
    refine ⟨q, ?_, q2⟩
    rw [if_neg (by omega), tdiv32, wrapi_id (n := ((n / 32 : Nat) : Int)) (by omega) (by omega), if_pos (by omega), if_pos (by omega), Int.toNat_natCast]
    exact q1
theorem down_l0 {p : List Int} (ho : okl B32 p) (hl : p.length ≤ 10000) : ∀ (m k i : Nat) (acc : List Int), i + m = p.length → m + 12000 ≤ k → okl B32 acc → acc.length = i → 2 * nv B32 acc + nv B32 p % 2 = nv B32 (p.take i) + B32 ^ i * ((p.getD i 0).toNat % 2) →
    ∃ q, numeralref02_Down.l0 k p 1 acc (i : Int) = some q ∧ okl B32 q ∧ top q ∧ nv B32 q = nv B32 p / 2 ∧ q.length ≤ p.length := by
  intro m
  induction m with
  | zero =>
    intro k i acc hi hk ha hlen hv
    obtain ⟨k, rfl⟩ : ∃ q, k = q + 1 := ⟨k - 1, by omega⟩
    obtain ⟨t, m1, m2, m3, m4⟩ := rtrim_ok (l := acc) (by omega) (k := k) (by omega)
    refine ⟨_, ?_, okl_take ha t, m3, ?_, by rw [List.length_take]; omega⟩
    · rw [numeralref02_Down.l0, if_neg (by omega), bind_eq m2]
    · have h00 : ¬ i < p.length := by omega
      have h0 : p.getD i 0 = 0 := by simp [List.getD, h00]
      rw [h0, List.take_of_length_le (by omega)] at hv
      rw [m4]
      have : (0 : Int).toNat % 2 = 0 := rfl
      rw [this, Nat.mul_zero] at hv
      omega
  | succ m ih =>
    intro k i acc hi hk ha hlen hv
    obtain ⟨k, rfl⟩ : ∃ q, k = q + 1 := ⟨k - 1, by omega⟩
    obtain ⟨x, hx, hxB, hxn⟩ := dig_at ho b32_pos i
    obtain ⟨y, hy, hyB, hyn⟩ := dig_at ho b32_pos (i + 1)
    have hxB' : x < 4294967296 := hxB
    have hyB' : y < 4294967296 := hyB
    have hd : (x + y * 4294967296) / 2 % 4294967296 = x / 2 + y % 2 * 2147483648 := by omega
    have hoc : okl B32 (acc ++ [((x / 2 + y % 2 * 2147483648 : Nat) : Int)]) := by
      rw [okl_append]
      refine ⟨ha, okl_cons.2 ⟨⟨by omega, ?_⟩, okl_nil _⟩⟩
      show _ < ((4294967296 : Nat) : Int); omega
    have hv2 : 2 * nv B32 (acc ++ [((x / 2 + y % 2 * 2147483648 : Nat) : Int)]) + nv B32 p % 2 = nv B32 (p.take (i + 1)) + B32 ^ (i + 1) * ((p.getD (i + 1) 0).toNat % 2) := by
      rw [nv_snoc, Int.toNat_natCast, hlen, nv_take_step, hxn, hyn, Nat.pow_succ]
      rw [hxn] at hv
      have e : B32 ^ i * B32 * (y % 2) = B32 ^ i * (y % 2 * 4294967296) := by rw [Nat.mul_assoc, Nat.mul_comm B32]; rfl
      have e2 : B32 ^ i * x = B32 ^ i * (x % 2) + 2 * (B32 ^ i * (x / 2)) := by
        rw [← Nat.mul_assoc, Nat.mul_comm 2, Nat.mul_assoc, ← Nat.mul_add]; congr 1; omega
      have e3 : 2 * (B32 ^ i * (x / 2 + y % 2 * 2147483648)) = 2 * (B32 ^ i * (x / 2)) + B32 ^ i * (y % 2 * 4294967296) := by
        have e4 : 2 * (B32 ^ i * (y % 2 * 2147483648)) = B32 ^ i * (y % 2 * 4294967296) := by
          rw [← Nat.mul_assoc, Nat.mul_comm 2, Nat.mul_assoc]; congr 1; omega
        rw [Nat.mul_add, Nat.mul_add, e4]
      omega
    obtain ⟨q, q1, q2⟩ := ih k (i + 1) _ (by omega) (by omega) hoc (by simp [hlen]) hv2
    refine ⟨q, ?_, q2⟩
    have t1 : Int.tmod 1 32 = ((1 : Nat) : Int) := rfl
    have hy0 : ¬ i + 1 < p.length → y = 0 := by
      intro h
      have : p.getD (i + 1) 0 = 0 := by simp [List.getD, h]
      rw [this] at hyn; exact hyn.symm
    rw [numeralref02_Down.l0, if_pos (by omega), if_pos (by omega), wrapi_id (n := (i : Int) + 1) (by omega) (by omega), show (i : Int) + 1 = ((i + 1 : Nat) : Int) by omega, hx, hy, t1, wrapu_id (n := ((1 : Nat) : Int)) (by omega) (by omega), wrapu_id (n := (x : Int)) (by omega) (by omega), wrapu_id (n := (y : Int)) (by omega) (by omega), wrapu_id (n := (y : Int) * 4294967296) (by omega) (by omega), show (y : Int) * 4294967296 = ((y * 2 ^ 32 : Nat) : Int) by omega, or_disj' y x 32 (by omega) (by omega), shr_u _ 1 (by omega), shr_u _ 1 (by omega)]
    by_cases h : i + 1 < p.length
    · rw [if_pos (by omega), if_pos (by omega), if_pos (by omega), if_pos (by omega), show (((y * 2 ^ 32 + x) / 2 ^ 1 : Nat) : Int) % 4294967296 = ((x / 2 + y % 2 * 2147483648 : Nat) : Int) by omega]
      exact q1
    · have := hy0 h
      subst this
      rw [if_neg (by omega), if_pos (by omega), if_pos (by omega), show ((x / 2 ^ 1 : Nat) : Int) % 4294967296 = ((x / 2 + 0 % 2 * 2147483648 : Nat) : Int) by omega]
      exact q1
theorem down_ok {p : List Int} (ho : okl B32 p) (hl : p.length ≤ 10000) {k : Nat} (hk : 30000 ≤ k) :
    ∃ q, numeralref02_Down.f k p 1 = some q ∧ okl B32 q ∧ top q ∧ nv B32 q = nv B32 p / 2 ∧ q.length ≤ p.length := by
  unfold numeralref02_Down.f
  rw [wrapi_id (n := 32 * (p.length : Int)) (by omega) (by omega)]
  by_cases h0 : p.length = 0
  · have : p = [] := List.length_eq_zero_iff.1 h0
    subst this
    exact ⟨[], by rw [if_pos (by simp)], okl_nil _, top_nil, rfl, by simp⟩
  · have hB2 : ∀ x y : Nat, (x + B32 * y) % 2 = x % 2 := by intro x y; unfold B32; omega
    have hhead : nv B32 p % 2 = (p.getD 0 0).toNat % 2 := by
      cases p with
      | nil => simp at h0
      | cons z r => rw [nv, hB2]; rfl
    obtain ⟨q, q1, q2⟩ := down_l0 ho hl p.length k 0 [] (by omega) (by omega) (okl_nil _) rfl (by rw [hhead]; simp [nv])
    refine ⟨q, ?_, q2⟩
    have t0 : Int.tdiv 1 32 = 0 := rfl
    rw [if_neg (by omega), t0, wrapi_id (n := (0 : Int)) (by omega) (by omega)]
    exact q1
end Go.Proofs.YtemjpmgfbnlkjaaDoor.XsB
