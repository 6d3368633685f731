
/- Numbers as rows of words, in the program's and the reference's printed functions: trimming, sums, differences, the order, words of 64 bits as digits of 32 and back. -/
import Derived.Test.YtemjpmgfbnlkjaaDoorA
import Derived.Test.YtemjpmgfbnlkjaaDoorL
import Derived.Test.YtemjpmgfbnlkjaaDoorXsx1
import Derived.Test.YtemjpmgfbnlkjaaDoorXsx2
import Derived.Test.YtemjpmgfbnlkjaaDoorXsx3
import Derived.Test.YtemjpmgfbnlkjaaDoorXsx6
import Derived.Test.YtemjpmgfbnlkjaaDoorXsx8
namespace Go.Proofs.YtemjpmgfbnlkjaaDoor.XsB
open Go.RowKit Go.Proofs.YtemjpmgfbnlkjaaDoor.Xs Go.Proofs.YtemjpmgfbnlkjaaDoor.A Go.Proofs.YtemjpmgfbnlkjaaDoor.L Go.Proofs.YtemjpmgfbnlkjaaDoorW.PrintWords Go.Proofs.YtemjpmgfbnlkjaaDoorW.PrintLast Go.Proofs.YtemjpmgfbnlkjaaDoorW.PrintMore
set_option linter.unusedSimpArgs false
set_option linter.unusedVariables false
theorem bind_eq {α β : Type} {o : Option α} {x : α} {f : α → Option β} (h : o = some x) : o.bind f = f x := by rw [h]; rfl
theorem rd_nat (l : List Int) (i : Nat) : rd l (i : Int) = l.getD i 0 := by unfold rd; rw [Int.toNat_natCast]
theorem dig_at {B : Nat} {l : List Int} (h : okl B l) (hB : 0 < B) (i : Nat) : ∃ x : Nat, rd l (i : Int) = x ∧ x < B ∧ (l.getD i 0).toNat = x := by
  have h1 := okl_get h i hB
  refine ⟨(l.getD i 0).toNat, ?_, by omega, rfl⟩
  rw [rd_nat]; omega
theorem nv_take_step (B : Nat) (l : List Int) (i : Nat) : nv B (l.take (i + 1)) = nv B (l.take i) + B ^ i * (l.getD i 0).toNat := by
  rcases Nat.lt_or_ge i l.length with h | h
  · exact nv_take_succ B h
  · rw [List.take_of_length_le (by omega), List.take_of_length_le h]
    have : l.getD i 0 = 0 := by simp [List.getD, h]
    rw [this]; rfl
theorem add_step {P B a s x y c d c' : Nat} (h : s + P * c = a) (hd : d + B * c' = x + y + c) : s + P * d + P * B * c' = a + P * x + P * y := by
  have h2 := congrArg (P * ·) hd
  simp only [Nat.mul_add] at h2
  rw [Nat.mul_assoc]; omega
theorem sub_step {P B a b s x y w d w' : Nat} (h : s + b = a + P * w) (hd : d + y + w = x + B * w') : s + P * d + (b + P * y) = a + P * x + P * B * w' := by
  have h2 := congrArg (P * ·) hd
  simp only [Nat.mul_add] at h2
  rw [Nat.mul_assoc]; omega
def B64 : Nat := 18446744073709551616
def B32 : Nat := 4294967296
theorem b64_pos : 0 < B64 := by decide
theorem b32_pos : 0 < B32 := by decide
theorem b64_one : 1 < B64 := by decide
theorem b32_one : 1 < B32 := by decide
theorem okl_of_wf {l : List Int} (h : ∀ x ∈ l, (Lit.int .u64 x).wf = true) : okl B64 l := fun x hx => wf_u64 (h x hx)
def errn (c : Int) : Option Int := if c = 0 then none else some c
theorem num_errn (c : Int) : numerallaw02_num.f (errn c) = some c := by
  unfold errn numerallaw02_num.f
  by_cases h : c = 0
  · rw [if_pos h, h]; rfl
  · rw [if_neg h]; rfl
/-- The number of a row's error. -/
def vnum (l : List Int) : Int := if 128 < l.length then 20 else if 0 < l.length ∧ l.getD (l.length - 1) 0 = 0 then 1 else 0
theorem last_getD {l : List Int} (h : l ≠ []) : l.getLast? = some (l.getD (l.length - 1) 0) := by
  have h0 : 0 < l.length := List.length_pos_iff.2 h
  rw [List.getLast?_eq_getElem?]
  have h1 : l.length - 1 < l.length := by omega
  simp [List.getD, h1]
theorem top_iff (l : List Int) : top l ↔ ¬ (0 < l.length ∧ l.getD (l.length - 1) 0 = 0) := by
  by_cases h : l = []
  · subst h; simp [top]
  · have h0 : 0 < l.length := List.length_pos_iff.2 h
    unfold top
    rw [last_getD h]
    constructor
    · intro h1 h2; exact h1 _ rfl h2.2
    · intro h1 x hx h2; injection hx with hx; subst hx; exact h1 ⟨h0, h2⟩
theorem vnum_zero (l : List Int) : vnum l = 0 ↔ l.length ≤ 128 ∧ top l := by
  rw [top_iff]; unfold vnum
  by_cases h : 128 < l.length
  · rw [if_pos h]; exact ⟨fun h3 => absurd h3 (by decide), fun h3 => by omega⟩
  · rw [if_neg h]
    by_cases h2 : 0 < l.length ∧ l.getD (l.length - 1) 0 = 0
    · rw [if_pos h2]; exact ⟨fun h3 => absurd h3 (by decide), fun h3 => absurd h2 h3.2⟩
    · rw [if_neg h2]; exact ⟨fun _ => ⟨by omega, h2⟩, fun _ => rfl⟩
theorem rd_last {l : List Int} (h0 : 0 < l.length) (hl : l.length < 1000000000000000) : 0 ≤ wrap64 ((l.length : Int) - 1) ∧ wrap64 ((l.length : Int) - 1) < l.length ∧ rd l (wrap64 ((l.length : Int) - 1)) = l.getD (l.length - 1) 0 := by
  rw [wrapi_id (by omega) (by omega)]
  refine ⟨by omega, by omega, ?_⟩
  unfold rd
  rw [show ((l.length : Int) - 1).toNat = l.length - 1 by omega]
theorem rValid_ok {l : List Int} (hl : l.length < 1000000000000000) : numeralref02_Valid.f l = some (vnum l) := by
  unfold numeralref02_Valid.f vnum
  by_cases h : 128 < l.length
  · rw [if_pos (by omega), if_pos h]
  · rw [if_neg (by omega), if_neg h]
    by_cases h0 : 0 < l.length
    · obtain ⟨r1, r2, r3⟩ := rd_last h0 hl
      rw [if_pos (by omega), if_pos r1, if_pos r2, r3]
      by_cases h2 : l.getD (l.length - 1) 0 = 0
      · rw [if_pos h2, if_pos ⟨h0, h2⟩]
      · rw [if_neg h2, if_neg (fun h3 => h2 h3.2)]
    · rw [if_neg (by omega), if_neg (fun h3 => h0 h3.1)]
theorem Valid_ok {l : List Int} (hl : l.length < 1000000000000000) : nat_Valid.f l = some (errn (vnum l)) := by
  unfold nat_Valid.f vnum
  by_cases h : 128 < l.length
  · rw [if_pos (by omega), if_pos h]; rfl
  · rw [if_neg (by omega), if_neg h]
    by_cases h0 : 0 < l.length
    · obtain ⟨r1, r2, r3⟩ := rd_last h0 hl
      rw [if_pos (by omega), if_pos r1, if_pos r2, r3]
      by_cases h2 : l.getD (l.length - 1) 0 = 0
      · rw [if_pos h2, if_pos ⟨h0, h2⟩]; rfl
      · rw [if_neg h2, if_neg (fun h3 => h2 h3.2)]; rfl
    · rw [if_neg (by omega), if_neg (fun h3 => h0 h3.1)]; rfl
/-- The number of two rows' error. -/
def vtwo (a b : List Int) : Int := if vnum a = 0 then vnum b else vnum a
theorem valid_ok {a b : List Int} (ha : a.length < 1000000000000000) (hb : b.length < 1000000000000000) : nat_valid.f a b = some (errn (vtwo a b)) := by
  unfold nat_valid.f vtwo
  rw [bind_eq (Valid_ok ha)]
  by_cases h : vnum a = 0
  · rw [if_pos h, if_pos (by unfold errn; rw [if_pos h]; rfl), bind_eq (Valid_ok hb)]
  · rw [if_neg h, if_neg (by unfold errn; rw [if_neg h]; simp)]
    unfold errn; rw [if_neg h]; rfl
theorem errn_isNone (c : Int) : (errn c).isNone = true ↔ c = 0 := by
  unfold errn
  by_cases h : c = 0
  · rw [if_pos h]; simp [h]
  · rw [if_neg h]; simp [h]
theorem errn_getD {c : Int} (h : c ≠ 0) : some ((errn c).getD 0) = errn c := by unfold errn; rw [if_neg h]; rfl
/-! trimming -/
theorem trim_l0 (l : List Int) (hl : l.length < 1000000000000000) : ∀ (n k : Nat), n ≤ l.length → n + 1 ≤ k → ∃ m, m ≤ n ∧ nat_trim.l0 k l (n : Int) = some (l.take m) ∧ top (l.take m) ∧ (∀ B, nv B (l.take m) = nv B (l.take n))
  | 0, k + 1, hn, hk => by
    refine ⟨0, Nat.le_refl _, ?_, top_nil, fun _ => rfl⟩
    rw [nat_trim.l0, if_neg (by omega), if_pos (by omega), if_pos (by omega)]; rfl
  | n + 1, k + 1, hn, hk => by
    rw [nat_trim.l0, if_pos (by omega), wrapi_id (n := ((n + 1 : Nat) : Int) - 1) (by omega) (by omega), show ((n + 1 : Nat) : Int) - 1 = (n : Int) by omega, if_pos (by omega), if_pos (by omega)]
    by_cases h0 : rd l (n : Int) = 0
    · obtain ⟨m, hm, hr, ht, hv⟩ := trim_l0 l hl n k (by omega) (by omega)
      refine ⟨m, by omega, by rw [if_pos h0]; exact hr, ht, fun B => ?_⟩
      rw [hv, nv_take_step, ← rd_nat, h0]; rfl
    · refine ⟨n + 1, Nat.le_refl _, ?_, ?_, fun _ => rfl⟩
      · rw [if_neg h0, if_pos (by omega), if_pos (by omega), Int.toNat_natCast]
      · rw [take_get (by omega), ← rd_nat]; exact top_snoc h0
theorem trim_ok {l : List Int} (hl : l.length < 1000000000000000) {k : Nat} (hk : l.length + 1 ≤ k) : ∃ m, m ≤ l.length ∧ nat_trim.f k l = some (l.take m) ∧ top (l.take m) ∧ (∀ B, nv B (l.take m) = nv B l) := by
  obtain ⟨m, h1, h2, h3, h4⟩ := trim_l0 l hl l.length k (Nat.le_refl _) hk
  refine ⟨m, h1, h2, h3, fun B => ?_⟩
  rw [h4, List.take_length]
theorem rtrim_l0 (l : List Int) (hl : l.length < 1000000000000000) : ∀ (n k : Nat), n ≤ l.length → n + 1 ≤ k → ∃ m, m ≤ n ∧ numeralref02_trim.l0 k l (n : Int) = some (l.take m) ∧ top (l.take m) ∧ (∀ B, nv B (l.take m) = nv B (l.take n))
  | 0, k + 1, hn, hk => by
    refine ⟨0, Nat.le_refl _, ?_, top_nil, fun _ => rfl⟩
    rw [numeralref02_trim.l0, if_neg (by omega), if_pos (by omega), if_pos (by omega)]; rfl
  | n + 1, k + 1, hn, hk => by
    rw [numeralref02_trim.l0, if_pos (by omega), wrapi_id (n := ((n + 1 : Nat) : Int) - 1) (by omega) (by omega), show ((n + 1 : Nat) : Int) - 1 = (n : Int) by omega, if_pos (by omega), if_pos (by omega)]
    by_cases h0 : rd l (n : Int) = 0
    · obtain ⟨m, hm, hr, ht, hv⟩ := rtrim_l0 l hl n k (by omega) (by omega)
      refine ⟨m, by omega, by rw [if_pos h0]; exact hr, ht, fun B => ?_⟩
      rw [hv, nv_take_step, ← rd_nat, h0]; rfl
    · refine ⟨n + 1, Nat.le_refl _, ?_, ?_, fun _ => rfl⟩
      · rw [if_neg h0, if_pos (by omega), if_pos (by omega), Int.toNat_natCast]
      · rw [take_get (by omega), ← rd_nat]; exact top_snoc h0
theorem rtrim_ok {l : List Int} (hl : l.length < 1000000000000000) {k : Nat} (hk : l.length + 1 ≤ k) : ∃ m, m ≤ l.length ∧ numeralref02_trim.f k l = some (l.take m) ∧ top (l.take m) ∧ (∀ B, nv B (l.take m) = nv B l) := by
  obtain ⟨m, h1, h2, h3, h4⟩ := rtrim_l0 l hl l.length k (Nat.le_refl _) hk
  refine ⟨m, h1, h2, h3, fun B => ?_⟩
  rw [h4, List.take_length]
/-- What is kept of a row: its number, with no nought on top, or the error. -/
theorem kept_ok {l : List Int} (ho : okl B64 l) (hl : l.length < 1000000000000000) {k : Nat} (hk : l.length + 1 ≤ k) : ∃ t, okl B64 t ∧ top t ∧ nv B64 t = nv B64 l ∧ nat_kept.f k l = if 128 < t.length then some ([], some 20) else some (t, none) := by
  obtain ⟨m, h1, h2, h3, h4⟩ := trim_ok hl hk
  refine ⟨l.take m, okl_take ho m, h3, h4 B64, ?_⟩
  unfold nat_kept.f
  rw [bind_eq h2]
  by_cases h : 128 < (l.take m).length
  · rw [if_pos (by omega), if_pos h]
  · rw [if_neg (by omega), if_neg h]
/-! words as digits of 32 bits -/
theorem of_l0 {l : List Int} (ho : okl B64 l) (hl : l.length ≤ 128) : ∀ (n k i : Nat) (acc : List Int), i + n = l.length → n + 300 ≤ k → okl B32 acc → acc.length = 2 * i → nv B32 acc = nv B64 (l.take i) →
    ∃ p, numeralref02_Of.l0 k l acc (i : Int) = some p ∧ okl B32 p ∧ top p ∧ nv B32 p = nv B64 l ∧ p.length ≤ 256
  | 0, k + 1, i, acc, hi, hk, ha, hlen, hv => by
    obtain ⟨m, h1, h2, h3, h4⟩ := rtrim_ok (l := acc) (by omega) (k := k) (by omega)
    refine ⟨acc.take m, ?_, okl_take ha m, h3, ?_, by rw [List.length_take]; omega⟩
    · rw [numeralref02_Of.l0, if_neg (by omega), bind_eq h2]
    · rw [h4, hv, List.take_of_length_le (by omega)]
  | n + 1, k + 1, i, acc, hi, hk, ha, hlen, hv => by
    obtain ⟨x, hx, hxB, hxn⟩ := dig_at ho b64_pos i
    have hxB' : x < 18446744073709551616 := hxB
    have e1 : (x : Int) % 4294967296 = ((x % 4294967296 : Nat) : Int) := by omega
    have e2 : (x : Int) / 4294967296 % 4294967296 = ((x / 4294967296 : Nat) : Int) := by omega
    have ha2 : okl B32 (acc ++ [((x % 4294967296 : Nat) : Int), ((x / 4294967296 : Nat) : Int)]) := by
      rw [okl_append]
      refine ⟨ha, okl_cons.2 ⟨⟨by omega, ?_⟩, okl_cons.2 ⟨⟨by omega, ?_⟩, okl_nil _⟩⟩⟩ <;> (show _ < ((4294967296 : Nat) : Int); omega)
    have hv2 : nv B32 (acc ++ [((x % 4294967296 : Nat) : Int), ((x / 4294967296 : Nat) : Int)]) = nv B64 (l.take (i + 1)) := by
      rw [nv_append, nv_take_step, hxn, ← hv, hlen]
      have hp : B32 ^ (2 * i) = B64 ^ i := by rw [Nat.pow_mul]; rfl
      rw [hp]
      show nv B32 acc + B64 ^ i * (((x % 4294967296 : Nat) : Int).toNat + 4294967296 * (((x / 4294967296 : Nat) : Int).toNat + 4294967296 * 0)) = _
      rw [Int.toNat_natCast, Int.toNat_natCast, show x % 4294967296 + 4294967296 * (x / 4294967296 + 4294967296 * 0) = x by omega]
    obtain ⟨p, hp1, hp2⟩ := of_l0 ho hl n k (i + 1) _ (by omega) (by omega) ha2 (by rw [List.length_append, hlen]; simp; omega) hv2
    refine ⟨p, ?_, hp2⟩
    rw [numeralref02_Of.l0, if_pos (by omega), if_pos (by omega), hx, e1, e2, Option.bind_some, if_pos (by rw [hlen]; simp; omega), wrapi_id (n := (i : Int) + 1) (by omega) (by omega), show (i : Int) + 1 = ((i + 1 : Nat) : Int) by omega]
    exact hp1
theorem of_ok {l : List Int} (ho : okl B64 l) (hl : l.length ≤ 128) {k : Nat} (hk : 500 ≤ k) : ∃ p, numeralref02_Of.f k l = some p ∧ okl B32 p ∧ top p ∧ nv B32 p = nv B64 l ∧ p.length ≤ 256 :=
  of_l0 ho hl l.length k 0 [] (by omega) (by omega) (okl_nil _) rfl rfl
/-! digits of 32 bits as words -/
theorem words_l0 {p : List Int} (ho : okl B32 p) (ht : top p) (hl : p.length ≤ 600) : ∀ (n k i : Nat) (acc : List Int), 2 * i ≤ p.length + 1 → p.length ≤ 2 * (i + n) → n + 1 ≤ k → okl B64 acc → acc.length = i → nv B64 acc = nv B32 (p.take (2 * i)) → (2 * i ≥ p.length → top acc) →
    ∃ w, okl B64 w ∧ top w ∧ nv B64 w = nv B32 p ∧ numeralref02_Words.l0 k p acc ((2 * i : Nat) : Int) = if 128 < w.length then some ([], 20) else some (w, 0) := by
  intro n
  induction n with
  | zero =>
    intro k i acc hi hn hk ha hlen hv htop
    obtain ⟨k, rfl⟩ : ∃ q, k = q + 1 := ⟨k - 1, by omega⟩
    refine ⟨acc, ha, htop (by omega), by rw [hv, List.take_of_length_le (by omega)], ?_⟩
    rw [numeralref02_Words.l0, if_neg (by omega)]
    by_cases h : 128 < acc.length
    · rw [if_pos (by omega), if_pos h]
    · rw [if_neg (by omega), if_neg h]
  | succ n ih =>
    intro k i acc hi hn hk ha hlen hv htop
    obtain ⟨k, rfl⟩ : ∃ q, k = q + 1 := ⟨k - 1, by omega⟩
    by_cases hend : p.length ≤ 2 * i
    · refine ⟨acc, ha, htop hend, by rw [hv, List.take_of_length_le hend], ?_⟩
      rw [numeralref02_Words.l0, if_neg (by omega)]
      by_cases h : 128 < acc.length
      · rw [if_pos (by omega), if_pos h]
      · rw [if_neg (by omega), if_neg h]
    · obtain ⟨x, hx, hxB, hxn⟩ := dig_at ho b32_pos (2 * i)
      obtain ⟨y, hy, hyB, hyn⟩ := dig_at ho b32_pos (2 * i + 1)
      have hxB' : x < 4294967296 := hxB
      have hyB' : y < 4294967296 := hyB
      have hpw : B32 ^ (2 * i) = B64 ^ i := by rw [Nat.pow_mul]; rfl
      have hpw1 : B32 ^ (2 * i + 1) = B64 ^ i * 4294967296 := by rw [Nat.pow_succ, hpw]; rfl
      have hv2 : nv B32 (p.take (2 * (i + 1))) = nv B64 acc + B64 ^ i * (x + y * 4294967296) := by
        rw [show 2 * (i + 1) = 2 * i + 1 + 1 by omega, nv_take_step, nv_take_step, hxn, hyn, hv, hpw, hpw1, Nat.mul_add, Nat.mul_assoc, Nat.mul_comm 4294967296 y]
        omega
      have hok : okl B64 (acc ++ [((x + y * 4294967296 : Nat) : Int)]) := by
        rw [okl_append]
        refine ⟨ha, okl_cons.2 ⟨⟨by omega, ?_⟩, okl_nil _⟩⟩
        show _ < ((18446744073709551616 : Nat) : Int); omega
      have hval : nv B64 (acc ++ [((x + y * 4294967296 : Nat) : Int)]) = nv B32 (p.take (2 * (i + 1))) := by
        rw [nv_snoc, hv2, hlen, Int.toNat_natCast]
      have htop2 : 2 * (i + 1) ≥ p.length → top (acc ++ [((x + y * 4294967296 : Nat) : Int)]) := by
        intro h
        apply top_snoc
        have h1 := (top_iff p).1 ht
        by_cases he : 2 * i + 1 < p.length
        · have : p.length - 1 = 2 * i + 1 := by omega
          rw [this, ← rd_nat, hy] at h1
          omega
        · have : p.length - 1 = 2 * i := by omega
          rw [this, ← rd_nat, hx] at h1
          omega
      obtain ⟨w, w1, w2, w3, w4⟩ := ih k (i + 1) _ (by omega) (by omega) (by omega) hok (by simp [hlen]) hval htop2
      refine ⟨w, w1, w2, w3, ?_⟩
      rw [numeralref02_Words.l0, if_pos (by omega), if_pos (by omega), wrapi_id (n := ((2 * i : Nat) : Int) + 1) (by omega) (by omega), wrapi_id (n := ((2 * i : Nat) : Int) + 2) (by omega) (by omega), show ((2 * i : Nat) : Int) + 1 = ((2 * i + 1 : Nat) : Int) by omega, hx, hy, wrapu_id (n := (x : Int)) (by omega) (by omega), wrapu_id (n := (y : Int)) (by omega) (by omega), wrapu_id (n := (y : Int) * 4294967296) (by omega) (by omega), show (y : Int) * 4294967296 = ((y * 2 ^ 32 : Nat) : Int) by omega, or_disj' y x 32 (by omega) (by omega), show ((2 * i : Nat) : Int) + 2 = ((2 * (i + 1) : Nat) : Int) by omega, show y * 2 ^ 32 + x = x + y * 4294967296 by omega]
      by_cases he : 2 * i + 1 < p.length
      · rw [if_pos (by omega), if_pos (by omega), if_pos (by rw [hlen]; omega)]
        exact w4
      · have hy0 : y = 0 := by
          have : p.getD (2 * i + 1) 0 = 0 := by simp [List.getD, he]
          rw [this] at hyn; exact hyn.symm
        subst hy0
        rw [if_neg (by omega), if_pos (by rw [hlen]; omega), show (x : Int) = ((x + 0 * 4294967296 : Nat) : Int) by omega]
        exact w4
theorem words_ok {p : List Int} (ho : okl B32 p) (ht : top p) (hl : p.length ≤ 600) {k : Nat} (hk : 700 ≤ k) : ∃ w, okl B64 w ∧ top w ∧ nv B64 w = nv B32 p ∧ numeralref02_Words.f k p = if 128 < w.length then some ([], 20) else some (w, 0) :=
  words_l0 ho ht hl p.length k 0 [] (by omega) (by omega) (by omega) (okl_nil _) rfl rfl (fun _ => top_nil)
end Go.Proofs.YtemjpmgfbnlkjaaDoor.XsB
