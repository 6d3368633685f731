
/- Rows of digits: their value, and what is plain of it (no program in sight). -/
import Derived.Test.YtemjpmgfbnlkjaaDoorWWords
namespace Go.Proofs.YtemjpmgfbnlkjaaDoor.L
set_option linter.unusedVariables false
/-- The value of a row of digits in base B, the lowest first. -/
def nv (B : Nat) : List Int → Nat
  | [] => 0
  | x :: l => x.toNat + B * nv B l
/-- All are digits. -/
def okl (B : Nat) (l : List Int) : Prop := ∀ x ∈ l, 0 ≤ x ∧ x < (B : Int)
/-- No nought on top. -/
def top (l : List Int) : Prop := ∀ x, l.getLast? = some x → x ≠ 0
theorem okl_nil (B : Nat) : okl B [] := fun x h => by cases h
theorem okl_cons {B : Nat} {x : Int} {l : List Int} : okl B (x :: l) ↔ (0 ≤ x ∧ x < (B : Int)) ∧ okl B l := by
  unfold okl; simp
theorem okl_append {B : Nat} {a b : List Int} : okl B (a ++ b) ↔ okl B a ∧ okl B b := by
  unfold okl; simp only [List.mem_append]
  exact ⟨fun h => ⟨fun x hx => h x (.inl hx), fun x hx => h x (.inr hx)⟩, fun h x hx => hx.elim (h.1 x) (h.2 x)⟩
theorem okl_take {B : Nat} {l : List Int} (h : okl B l) (n : Nat) : okl B (l.take n) := fun x hx => h x (List.mem_of_mem_take hx)
theorem okl_drop {B : Nat} {l : List Int} (h : okl B l) (n : Nat) : okl B (l.drop n) := fun x hx => h x (List.mem_of_mem_drop hx)
theorem okl_zeros (B n : Nat) (hB : 0 < B) : okl B (List.replicate n 0) := by
  intro x hx
  rw [List.mem_replicate] at hx
  omega
theorem okl_set {B : Nat} {l : List Int} (h : okl B l) (i : Nat) {x : Int} (hx : 0 ≤ x ∧ x < (B : Int)) : okl B (l.set i x) := by
  intro y hy
  rcases List.mem_or_eq_of_mem_set hy with h1 | h1
  · exact h y h1
  · subst h1; exact hx
theorem okl_get {B : Nat} {l : List Int} (h : okl B l) (i : Nat) (hB : 0 < B) : 0 ≤ l.getD i 0 ∧ l.getD i 0 < (B : Int) := by
  rcases Nat.lt_or_ge i l.length with hi | hi
  · have : l.getD i 0 = l[i] := by simp [List.getD, hi]
    rw [this]; exact h _ (List.getElem_mem hi)
  · have : l.getD i 0 = 0 := by simp [List.getD, hi]
    rw [this]; omega
theorem nv_append (B : Nat) (b : List Int) : ∀ a : List Int, nv B (a ++ b) = nv B a + B ^ a.length * nv B b
  | [] => by simp [nv]
  | x :: l => by
    rw [List.cons_append, nv, nv, nv_append B b l, List.length_cons, Nat.pow_succ, Nat.mul_add, Nat.mul_comm (B ^ l.length) B, Nat.mul_assoc, Nat.add_assoc]
theorem nv_lt {B : Nat} (hB : 0 < B) : ∀ {l : List Int}, okl B l → nv B l < B ^ l.length
  | [], _ => by simp [nv]
  | x :: l, h => by
    obtain ⟨hx, hl⟩ := okl_cons.1 h
    have ih := nv_lt hB hl
    rw [nv, List.length_cons, Nat.pow_succ, Nat.mul_comm (B ^ l.length)]
    have h1 : nv B l + 1 ≤ B ^ l.length := ih
    have h2 := Nat.mul_le_mul_left B h1
    rw [Nat.mul_add, Nat.mul_one] at h2
    omega
theorem nv_zeros (B : Nat) : ∀ n, nv B (List.replicate n 0) = 0
  | 0 => rfl
  | n + 1 => by rw [List.replicate_succ, nv, nv_zeros B n]; rfl
theorem nv_inj {B : Nat} (hB : 0 < B) : ∀ {a b : List Int}, okl B a → okl B b → a.length = b.length → nv B a = nv B b → a = b
  | [], [], _, _, _, _ => rfl
  | [], _ :: _, _, _, h, _ => by simp at h
  | _ :: _, [], _, _, h, _ => by simp at h
  | x :: l, y :: m, ha, hb, hlen, hv => by
    obtain ⟨hx, hl⟩ := okl_cons.1 ha
    obtain ⟨hy, hm⟩ := okl_cons.1 hb
    rw [nv, nv] at hv
    have h1 : x.toNat = y.toNat := by
      have e1 := Nat.add_mul_mod_self_left x.toNat B (nv B l)
      have e2 := Nat.add_mul_mod_self_left y.toNat B (nv B m)
      rw [hv, e2, Nat.mod_eq_of_lt (by omega), Nat.mod_eq_of_lt (by omega)] at e1
      exact e1.symm
    have h2 : nv B l = nv B m := by
      rw [h1] at hv
      exact Nat.eq_of_mul_eq_mul_left hB (by omega)
    have h3 := nv_inj hB hl hm (by simpa using hlen) h2
    rw [h3, show x = y by omega]
theorem nv_take_drop (B : Nat) (l : List Int) (i : Nat) (hi : i ≤ l.length) : nv B l = nv B (l.take i) + B ^ i * nv B (l.drop i) := by
  have h := nv_append B (l.drop i) (l.take i)
  rw [List.take_append_drop, List.length_take, Nat.min_eq_left hi] at h
  exact h
theorem drop_get {l : List Int} {i : Nat} (hi : i < l.length) : l.drop i = l.getD i 0 :: l.drop (i + 1) := by
  rw [List.drop_eq_getElem_cons hi]
  simp [List.getD, hi]
theorem take_get {l : List Int} {i : Nat} (hi : i < l.length) : l.take (i + 1) = l.take i ++ [l.getD i 0] := by
  rw [List.take_succ_eq_append_getElem hi]
  simp [List.getD, hi]
theorem nv_take_succ (B : Nat) {l : List Int} {i : Nat} (hi : i < l.length) : nv B (l.take (i + 1)) = nv B (l.take i) + B ^ i * (l.getD i 0).toNat := by
  rw [take_get hi, nv_append, List.length_take, Nat.min_eq_left (by omega)]
  simp [nv]
theorem nv_snoc (B : Nat) (l : List Int) (x : Int) : nv B (l ++ [x]) = nv B l + B ^ l.length * x.toNat := by
  rw [nv_append]; simp [nv]
theorem nv_set (B : Nat) : ∀ {l : List Int} {i : Nat} (x : Int), i < l.length → nv B (l.set i x) + B ^ i * (l.getD i 0).toNat = nv B l + B ^ i * x.toNat
  | [], _, _, h => by simp at h
  | y :: l, 0, x, _ => by simp [nv]; omega
  | y :: l, i + 1, x, h => by
    have ih := nv_set B (l := l) (i := i) x (by simpa using h)
    have e1 : (y :: l).getD (i + 1) 0 = l.getD i 0 := by simp
    rw [List.set_cons_succ, nv, nv, e1, Nat.pow_succ, Nat.mul_comm (B ^ i) B, Nat.mul_assoc, Nat.mul_assoc]
    have := congrArg (B * ·) ih
    simp only [Nat.mul_add] at this
    omega
theorem top_nil : top [] := fun x h => by simp at h
theorem top_snoc {l : List Int} {x : Int} (h : x ≠ 0) : top (l ++ [x]) := fun y hy => by simp at hy; omega
theorem top_ge {B : Nat} (hB : 0 < B) {l : List Int} (hl : okl B l) (ht : top l) (hne : l ≠ []) : B ^ (l.length - 1) ≤ nv B l := by
  obtain ⟨m, x, rfl⟩ : ∃ m x, l = m ++ [x] := ⟨l.dropLast, l.getLast hne, (List.dropLast_concat_getLast hne).symm⟩
  have hx : x ≠ 0 := ht x (by simp)
  have hx2 := (hl x (by simp)).1
  rw [nv_snoc, List.length_append, List.length_singleton, Nat.add_sub_cancel]
  have : 1 ≤ x.toNat := by omega
  have := Nat.mul_le_mul_left (B ^ m.length) this
  omega
/-- A row with no nought on top is told by its value. -/
theorem top_inj {B : Nat} (hB : 1 < B) {a b : List Int} (ha : okl B a) (hb : okl B b) (ta : top a) (tb : top b) (h : nv B a = nv B b) : a = b := by
  have hB0 : 0 < B := by omega
  have key : ∀ {a b : List Int}, okl B a → okl B b → top b → nv B a = nv B b → b.length ≤ a.length := by
    intro a b ha hb tb h
    rcases Nat.lt_or_ge a.length b.length with hlt | hge
    · exfalso
      have hne : b ≠ [] := by rintro rfl; simp at hlt
      have h1 := top_ge hB0 hb tb hne
      have h2 := nv_lt hB0 ha
      have h3 : B ^ a.length ≤ B ^ (b.length - 1) := Nat.pow_le_pow_right hB0 (by omega)
      omega
    · exact hge
  exact nv_inj hB0 ha hb (Nat.le_antisymm (key hb ha ta h.symm) (key ha hb tb h)) h
theorem top_length {B : Nat} (hB : 1 < B) {a : List Int} (ha : okl B a) (ta : top a) (n : Nat) : a.length ≤ n ↔ nv B a < B ^ n := by
  have hB0 : 0 < B := by omega
  constructor
  · intro h
    exact Nat.lt_of_lt_of_le (nv_lt hB0 ha) (Nat.pow_le_pow_right hB0 h)
  · intro h
    rcases Nat.lt_or_ge n a.length with hlt | hge
    · exfalso
      have hne : a ≠ [] := by rintro rfl; simp at hlt
      have h1 := top_ge hB0 ha ta hne
      have h3 : B ^ n ≤ B ^ (a.length - 1) := Nat.pow_le_pow_right hB0 (by omega)
      omega
    · exact hge
theorem nv_eq_zero {B : Nat} (hB : 1 < B) {a : List Int} (ha : okl B a) (ta : top a) : nv B a = 0 ↔ a = [] := by
  have := top_length hB ha ta 0
  rw [Nat.pow_zero] at this
  constructor
  · intro h
    have h1 := this.2 (by omega)
    exact List.length_eq_zero_iff.1 (by omega)
  · rintro rfl; rfl
/-- The digits of a value, without a nought on top. -/
def dig (B : Nat) : Nat → Nat → List Int
  | 0, _ => []
  | f + 1, n => if n = 0 then [] else ((n % B : Nat) : Int) :: dig B f (n / B)
theorem dig_ok {B : Nat} (hB : 1 < B) : ∀ (f n : Nat), n < B ^ f → okl B (dig B f n) ∧ top (dig B f n) ∧ nv B (dig B f n) = n
  | 0, n, h => ⟨okl_nil B, top_nil, by rw [Nat.pow_zero] at h; show 0 = n; omega⟩
  | f + 1, n, h => by
    unfold dig
    by_cases h0 : n = 0
    · rw [if_pos h0]; exact ⟨okl_nil B, top_nil, h0.symm⟩
    · rw [if_neg h0]
      have hd : n / B < B ^ f := by rw [Nat.div_lt_iff_lt_mul (by omega), ← Nat.pow_succ]; exact h
      obtain ⟨i1, i2, i3⟩ := dig_ok hB f (n / B) hd
      have hm := Nat.mod_lt n (show 0 < B by omega)
      refine ⟨okl_cons.2 ⟨⟨by omega, by omega⟩, i1⟩, ?_, ?_⟩
      · intro x hx
        by_cases hn : dig B f (n / B) = []
        · rw [hn] at hx
          simp at hx
          have h2 : n / B = 0 := by rw [← i3, hn]; rfl
          have := Nat.div_add_mod n B
          rw [h2] at this
          omega
        · exact i2 x (by rw [List.getLast?_cons, Option.some_inj] at hx; rw [← hx, List.getLast?_eq_some_getLast hn]; rfl)
      · rw [nv, i3, Int.toNat_natCast]
        have := Nat.mod_add_div n B
        omega
end Go.Proofs.YtemjpmgfbnlkjaaDoor.L
