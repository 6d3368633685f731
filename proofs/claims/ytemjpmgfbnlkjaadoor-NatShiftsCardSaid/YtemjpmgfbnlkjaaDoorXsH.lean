
/- The reference's shift down by any number of places. -/
import Derived.Test.YtemjpmgfbnlkjaaDoorXsO
import Derived.Test.YtemjpmgfbnlkjaaDoorXsx5
namespace Go.Proofs.YtemjpmgfbnlkjaaDoor.XsB
open Go.RowKit Go.Proofs.YtemjpmgfbnlkjaaDoor.Xs Go.Proofs.YtemjpmgfbnlkjaaDoor.A Go.Proofs.YtemjpmgfbnlkjaaDoor.L Go.Proofs.YtemjpmgfbnlkjaaDoorW.PrintWords Go.Proofs.YtemjpmgfbnlkjaaDoorW.PrintLast Go.Proofs.YtemjpmgfbnlkjaaDoorW.PrintMore
set_option linter.unusedSimpArgs false
set_option linter.unusedVariables false
theorem div_pow (V B i j : Nat) : V / B ^ i / B ^ j = V / B ^ (i + j) := by rw [Nat.div_div_eq_div_mul, ← Nat.pow_add]
theorem dig_shift {B P c : Nat} (hB : 0 < B) (hP : 0 < P) (hc : B = P * c) (V t : Nat) : V / P / B ^ t % B = (V / B ^ t % B + B * (V / B ^ (t + 1) % B)) / P % B := by
  have e0 : V / P / B ^ t = V / B ^ t / P := by rw [Nat.div_div_eq_div_mul, Nat.div_div_eq_div_mul, Nat.mul_comm]
  have e1 : V / B ^ (t + 1) = V / B ^ t / B := by rw [Nat.pow_succ, Nat.div_div_eq_div_mul]
  rw [e0, e1]
  generalize V / B ^ t = W
  have h1 := Nat.mod_add_div W B
  have h2 := Nat.mod_add_div (W / B) B
  generalize W % B = x at *
  generalize W / B = Z at *
  generalize Z % B = y at *
  generalize Z / B = z at *
  have h3 : W = (x + B * y) + P * (B * (c * z)) := by
    have e2 : P * (B * (c * z)) = B * (B * z) := by
      rw [Nat.mul_left_comm, ← Nat.mul_assoc P, ← hc]
    rw [e2, ← h1, ← h2, Nat.mul_add]; omega
  rw [h3, Nat.add_mul_div_left _ _ hP, Nat.add_mul_mod_self_left]
theorem mod_pow_next (V B t : Nat) : V % B ^ (t + 1) = V % B ^ t + B ^ t * (V / B ^ t % B) := by rw [Nat.pow_succ, Nat.mod_mul]
theorem down_gl0 {p : List Int} (ho : okl B32 p) (hl : p.length ≤ 10000) {n : Nat} (hn : n < 9223372036854775808) : ∀ (m k t : Nat) (acc : List Int), n / 32 + t + m = p.length → m + 12000 ≤ k → okl B32 acc → acc.length = t → nv B32 acc = nv B32 p / 2 ^ n % B32 ^ t →
    ∃ q, numeralref02_Down.l0 k p (n : Int) acc ((n / 32 + t : Nat) : Int) = some q ∧ okl B32 q ∧ top q ∧ nv B32 q = nv B32 p / 2 ^ n ∧ q.length ≤ p.length := by
  have e32 : B32 = 2 ^ 32 := rfl
  have hsp : 2 ^ n = B32 ^ (n / 32) * 2 ^ (n % 32) := by
    rw [e32, ← Nat.pow_mul, ← Nat.pow_add]; congr 1; have := Nat.div_add_mod n 32; omega
  intro m
  induction m with
  | zero =>
    intro k t acc hi hk ha hlen hv
    obtain ⟨k, rfl⟩ : ∃ q, k = q + 1 := ⟨k - 1, by omega⟩
    obtain ⟨z, m1, m2, m3, m4⟩ := rtrim_ok (l := acc) (by omega) (k := k) (by omega)
    refine ⟨_, ?_, okl_take ha z, m3, ?_, by rw [List.length_take]; omega⟩
    · rw [numeralref02_Down.l0, if_neg (by omega), bind_eq m2]
    · rw [m4, hv]
      apply Nat.mod_eq_of_lt
      have h1 := nv_lt b32_pos ho
      rw [show p.length = n / 32 + t by omega, Nat.pow_add] at h1
      rw [hsp, ← Nat.div_div_eq_div_mul]
      have h2 : nv B32 p / B32 ^ (n / 32) < B32 ^ t := by
        rw [Nat.div_lt_iff_lt_mul (Nat.pow_pos b32_pos), Nat.mul_comm]; exact h1
      exact Nat.lt_of_le_of_lt (Nat.div_le_self _ _) h2
  | succ m ih =>
    intro k t acc hi hk ha hlen hv
    obtain ⟨k, rfl⟩ : ∃ q, k = q + 1 := ⟨k - 1, by omega⟩
    obtain ⟨i, hii⟩ : ∃ i, i = n / 32 + t := ⟨_, rfl⟩
    obtain ⟨x, hx, hxB, hxn⟩ := dig_at ho b32_pos i
    obtain ⟨y, hy, hyB, hyn⟩ := dig_at ho b32_pos (i + 1)
    have hxB' : x < 4294967296 := hxB
    have hyB' : y < 4294967296 := hyB
    obtain ⟨s, hs⟩ : ∃ s, s = n % 32 := ⟨_, rfl⟩
    have hs32 : s < 32 := by omega
    have hd : nv B32 p / 2 ^ n / B32 ^ t % B32 = (x + B32 * y) / 2 ^ s % B32 := by
      have hds := dig_shift b32_pos (Nat.two_pow_pos s) (c := 2 ^ (32 - s)) (by rw [e32, ← Nat.pow_add]; congr 1; omega) (nv B32 p / B32 ^ (n / 32)) t
      rw [hsp, ← Nat.div_div_eq_div_mul, ← hs, hds, div_pow, div_pow, ← hii, show n / 32 + (t + 1) = i + 1 by omega]
      rw [← hxn, ← hyn, dig_val b32_pos ho i, dig_val b32_pos ho (i + 1)]
    obtain ⟨g, hg⟩ : ∃ g, g = (x + B32 * y) / 2 ^ s % B32 := ⟨_, rfl⟩
    have hgB : g < B32 := by rw [hg]; exact Nat.mod_lt _ b32_pos
    have hgB' : g < 4294967296 := hgB
    have hoc : okl B32 (acc ++ [(g : Int)]) := by
      rw [okl_append]
      exact ⟨ha, okl_cons.2 ⟨⟨by omega, by show _ < ((4294967296 : Nat) : Int); omega⟩, okl_nil _⟩⟩
    have hv2 : nv B32 (acc ++ [(g : Int)]) = nv B32 p / 2 ^ n % B32 ^ (t + 1) := by
      rw [nv_snoc, Int.toNat_natCast, hlen, mod_pow_next, hd, hv, hg]
    obtain ⟨q, q1, q2⟩ := ih k (t + 1) _ (by omega) (by omega) hoc (by simp [hlen]) hv2
    refine ⟨q, ?_, q2⟩
    have hw : x + B32 * y < 18446744073709551616 := by show x + 4294967296 * y < _; omega
    have hy0 : ¬ i + 1 < p.length → y = 0 := by
      intro h
      have : p.getD (i + 1) 0 = 0 := by simp [List.getD, h]
      rw [this] at hyn; exact hyn.symm
    have hgi : ∀ v : Nat, v = x + B32 * y → shr .u64 (v : Int) (s : Int) % 4294967296 = (g : Int) := by
      intro v hv
      rw [shr_u v s (by omega), hv, hg]
      show _ = (((x + B32 * y) / 2 ^ s % 4294967296 : Nat) : Int)
      generalize (x + B32 * y) / 2 ^ s = z
      omega
    rw [← hii, numeralref02_Down.l0, if_pos (by omega), if_pos (by omega), wrapi_id (n := (i : Int) + 1) (by omega) (by omega), show (i : Int) + 1 = ((i + 1 : Nat) : Int) by omega, hx, hy, tmod32, ← hs, wrapu_id (n := (s : Int)) (by omega) (by omega), wrapu_id (n := (x : Int)) (by omega) (by omega), wrapu_id (n := (y : Int)) (by omega) (by omega), wrapu_id (n := (y : Int) * 4294967296) (by omega) (by omega), show (y : Int) * 4294967296 = ((y * 2 ^ 32 : Nat) : Int) by omega, or_disj' y x 32 (by omega) (by omega)]
    rw [show n / 32 + (t + 1) = i + 1 by omega] at q1
    by_cases h : i + 1 < p.length
    · rw [if_pos (by omega), if_pos (by omega), if_pos (by omega), if_pos (by omega), hgi _ (by show y * 4294967296 + x = x + 4294967296 * y; omega)]
      exact q1
    · have := hy0 h
      subst this
      rw [if_neg (by omega), if_pos (by omega), if_pos (by omega), hgi x (by omega)]
      exact q1
theorem down_gen {p : List Int} (ho : okl B32 p) (hl : p.length ≤ 10000) {n : Nat} (hn : n < 9223372036854775808) {k : Nat} (hk : 30000 ≤ k) :
    ∃ q, numeralref02_Down.f k p (n : Int) = some q ∧ okl B32 q ∧ top q ∧ nv B32 q = nv B32 p / 2 ^ n ∧ q.length ≤ p.length := by
  unfold numeralref02_Down.f
  rw [wrapi_id (n := 32 * (p.length : Int)) (by omega) (by omega)]
  by_cases h0 : 32 * p.length ≤ n
  · refine ⟨[], by rw [if_pos (by omega)], okl_nil _, top_nil, ?_, by simp⟩
    rw [Nat.div_eq_of_lt]; · rfl
    have h1 := nv_lt b32_pos ho
    have h2 : B32 ^ p.length ≤ 2 ^ n := by
      have e32 : B32 = 2 ^ 32 := rfl
      rw [e32, ← Nat.pow_mul]; exact Nat.pow_le_pow_right (by decide) h0
    omega
  · obtain ⟨q, q1, q2⟩ := down_gl0 ho hl hn (p.length - n / 32) k 0 [] (by omega) (by omega) (okl_nil _) rfl (by rw [Nat.pow_zero, Nat.mod_one]; rfl)
    refine ⟨q, ?_, q2⟩
    rw [if_neg (by omega), tdiv32, wrapi_id (n := ((n / 32 : Nat) : Int)) (by omega) (by omega)]
    exact q1
end Go.Proofs.YtemjpmgfbnlkjaaDoor.XsB
