
/- Chapter 3: one unit more (the program's bump, the reference's next), two numbers compared. -/
import Derived.Test.YtpkfpgjacijjeaaDoorXrLr
import Derived.Test.YtpkfpgjacijjeaaDoorDz
import Derived.Test.YtpkfpgjacijjeaaDoorXrx13a
import Derived.Test.YtpkfpgjacijjeaaDoorXrx2
import Derived.Test.YtpkfpgjacijjeaaDoorXrx3
import Derived.Test.YtpkfpgjacijjeaaDoorXrx4
import Derived.Test.YtpkfpgjacijjeaaDoorXrx7
namespace Go.Proofs.YtpkfpgjacijjeaaDoor.XrDc
open Go.RowKit Go.Proofs.YtpkfpgjacijjeaaDoor.Xr Go.Proofs.YtpkfpgjacijjeaaDoorW.PrintWords Go.Proofs.YtpkfpgjacijjeaaDoorW.PrintLast Go.Proofs.YtpkfpgjacijjeaaDoorW.PrintMore Go.Proofs.YtpkfpgjacijjeaaDoor.XrLy Go.Proofs.YtpkfpgjacijjeaaDoor.Dz
set_option linter.unusedVariables false
set_option linter.unusedSimpArgs false

theorem mx_def (a b : Int) : mx a b = max a b := by unfold mx; omega
theorem mn_def (a b : Int) : mn a b = min a b := by unfold mn; omega
theorem bt_nat (l : List UInt8) (i : Nat) : bt (mk l) (i : Int) = ((l.getD i 0).toNat : Int) := by rw [bt_mk, Int.toNat_natCast]
theorem zz_zs (n : Nat) : zz n = zs n := rfl
theorem e48 : (⟨#[48]⟩ : ByteArray) = mk [48] := rfl
theorem TrimL_eq {l : List UInt8} (h : l.length ≤ 9223372036854775807) : strings_TrimLeft.f (mk l) (⟨#[48]⟩ : ByteArray) = some (mk (trimL l)) := by
  unfold strings_TrimLeft.f
  show (if _ then _ else none) = _
  rw [if_pos ⟨by decide, by rw [mk_size]; exact h⟩]; rfl
theorem TrimR_eq {l : List UInt8} (h : l.length ≤ 9223372036854775807) : strings_TrimRight.f (mk l) (⟨#[48]⟩ : ByteArray) = some (mk (trimR l)) := by
  unfold strings_TrimRight.f
  show (if _ then _ else none) = _
  rw [if_pos ⟨by decide, by rw [mk_size]; exact h⟩]; rfl
/-- Digits that begin with none that is nought. -/
def good (D : List UInt8) : Prop := digs D = true ∧ (D = [] ∨ D.getD 0 0 ≠ 48)
theorem good_trimL {D : List UInt8} (h : good D) : trimL D = D := trimL_of 0 h.2
theorem good_trimR {D : List UInt8} (h : good D) : trimR D = [] ↔ D = [] := by
  constructor
  · intro hh
    have := (allz_iffL D).1 ((allz_iff D).2 hh)
    rw [good_trimL h] at this; exact this
  · intro hh; rw [hh]; rfl
theorem digs_mem {D : List UInt8} (h : digs D = true) {i : Nat} (hi : i < D.length) : 48 ≤ (D[i]).toNat ∧ (D[i]).toNat ≤ 57 := by
  unfold digs at h
  have := List.all_eq_true.1 h D[i] (List.getElem_mem hi)
  rw [Bool.and_eq_true] at this
  exact ⟨of_decide_eq_true this.1, of_decide_eq_true this.2⟩
theorem make_j1 (k : Nat) {s : List UInt8} (hs : good s) (h0 : s ≠ []) (h8 : s.length ≤ 800) : dec_Make.j1 (k + 3) (mk s) 0 false (mk s) false = some (mk (trimR s), 0, false, none) := by
  rw [dec_Make.j1, if_neg (by decide), mk_toList, if_neg h0, mk_size, if_neg (by omega), dec_Make.j2, TrimL_eq (by omega), Option.bind_some, good_trimL hs, mk_size, wrapi_id (n := (s.length : Int) - (s.length : Int)) (by omega) (by omega), wrapi_id (n := (s.length : Int) - (s.length : Int) - 1099511627776) (by omega) (by omega), if_neg (by omega), if_neg (by decide), dec_Make.j3, if_neg (by decide), if_neg (by decide), TrimR_eq (by omega), Option.bind_some, wrapi_id (by omega) (by omega)]
  congr 3; omega
theorem make_l0 {s : List UInt8} (hs : good s) (h0 : s ≠ []) (h8 : s.length ≤ 800) : ∀ (n i k : Nat), i + n = s.length → n + 5 < k → dec_Make.l0 k (mk s) 0 false (i : Int) = some (mk (trimR s), 0, false, none)
  | 0, i, k, hi, hk => by
    obtain ⟨k, rfl⟩ : ∃ j, k = j + 4 := ⟨k - 4, by omega⟩
    rw [dec_Make.l0, mk_size, if_neg (by omega), TrimL_eq (by omega), Option.bind_some, good_trimL hs, mk_toList, if_neg h0]
    exact make_j1 k hs h0 h8
  | n + 1, i, k, hi, hk => by
    obtain ⟨k, rfl⟩ : ∃ j, k = j + 1 := ⟨k - 1, by omega⟩
    have hil : i < s.length := by omega
    have hd := digs_mem hs.1 hil
    have hst : (wrap64 ((i : Int) + 1)) = ((i + 1 : Nat) : Int) := by rw [wrapi_id (by omega) (by omega)]; omega
    have hb : bt (mk s) (i : Int) = (s[i].toNat : Int) := by
      rw [bt_nat, List.getD_eq_getElem?_getD, List.getElem?_eq_getElem hil]; rfl
    rw [dec_Make.l0, mk_size, if_pos (by omega), if_pos (by omega), hb, if_neg (by omega), if_neg (by omega), hst]
    exact make_l0 hs h0 h8 n (i + 1) k (by omega) (by omega)
theorem Make_eq {s : List UInt8} (hs : good s) (h0 : s ≠ []) (h8 : s.length ≤ 800) {k : Nat} (hk : 900 ≤ k) : dec_Make.f k (mk s) 0 false = some (mk (trimR s), 0, false, none) := by
  unfold dec_Make.f
  exact make_l0 hs h0 h8 s.length 0 k (by omega) (by omega)

/-! One unit more -/
def nums (l : List UInt8) : List Int := l.map fun z => (z.toNat : Int)
theorem nums_len (l : List UInt8) : (nums l).length = l.length := List.length_map _
theorem strOf (x : List UInt8) : strOfNums (nums x) = mk x := by
  unfold strOfNums mk nums
  rw [List.map_map]
  have : (x.map ((fun n : Int => UInt8.ofNat n.toNat) ∘ fun z => (z.toNat : Int))) = x := by
    rw [List.map_congr_left (g := id) (fun b _ => by simp)]
    exact List.map_id x
  rw [this]
theorem bytesOf_mk (l : List UInt8) : bytesOf (mk l) = nums l := rfl
theorem rd_nums (l : List UInt8) (i : Nat) : rd (nums l) (i : Int) = ((l.getD i 0).toNat : Int) := by
  unfold rd nums
  rw [Int.toNat_natCast, List.getD_eq_getElem?_getD, List.getElem?_map, List.getD_eq_getElem?_getD]
  cases l[i]? <;> rfl
theorem nums_set (l : List UInt8) (i : Nat) (c : UInt8) : (nums l).set i (c.toNat : Int) = nums (l.set i c) := by
  unfold nums; rw [List.map_set]
theorem nums_take (l : List UInt8) (i : Nat) : (nums l).take i = nums (l.take i) := by
  unfold nums; rw [List.map_take]
theorem get_mid (K : List UInt8) (c : UInt8) (r : List UInt8) : (K ++ c :: r).getD K.length 0 = c := by
  rw [List.getD_eq_getElem?_getD, List.getElem?_append_right (by omega)]; simp
theorem set_mid (K : List UInt8) (c d : UInt8) (r : List UInt8) : (K ++ c :: r).set K.length d = K ++ d :: r := by
  rw [List.set_append_right _ _ (by omega)]; simp
/-- What is one unit more: the digits, the place. -/
def upS (K : List UInt8) (p : Int) : List UInt8 × Int := match bumpS K with | some D => (D, p) | none => ([49], p + 1)
theorem upS_snoc (K : List UInt8) (c : UInt8) (p : Int) : upS (K ++ [c]) p = if c = 57 then upS K p else (K ++ [c + 1], p) := by
  unfold upS
  rw [bumpS_snoc]
  by_cases h : c = 57
  · rw [if_pos h, if_pos h]
  · rw [if_neg h, if_neg h]
theorem digs_snoc (K : List UInt8) (c : UInt8) : digs (K ++ [c]) = true ↔ digs K = true ∧ 48 ≤ c.toNat ∧ c.toNat ≤ 57 := by
  unfold digs
  rw [List.all_append, Bool.and_eq_true]
  simp
theorem succ_nat {c : UInt8} (h : c.toNat < 57) : (c + 1).toNat = c.toNat + 1 := by
  rw [UInt8.toNat_add]
  show (c.toNat + 1) % 256 = _
  omega
theorem ne57 {c : UInt8} (h : c.toNat ≤ 57) (hc : ¬ c = 57) : c.toNat < 57 := by
  apply Nat.lt_of_le_of_ne h
  intro h2
  exact hc (UInt8.toNat_inj.1 (show c.toNat = (57 : UInt8).toNat from h2))
theorem good_next {K : List UInt8} {c : UInt8} (h : good (K ++ [c])) (hc : ¬ c = 57) : (∀ j, good (K ++ [c + 1] ++ zz j)) ∧ c.toNat < 57 ∧ 48 ≤ c.toNat := by
  have hd := (digs_snoc K c).1 h.1
  have h57 := ne57 hd.2.2 hc
  have hs := succ_nat h57
  refine ⟨fun j => ⟨?_, Or.inr ?_⟩, h57, hd.2.1⟩
  · unfold digs
    rw [List.all_append, List.all_append, Bool.and_eq_true, Bool.and_eq_true]
    refine ⟨⟨hd.1, ?_⟩, ?_⟩
    · simp [hs]; omega
    · rw [List.all_eq_true]
      intro x hx
      rw [List.eq_of_mem_replicate hx]; rfl
  · cases K with
    | nil =>
      show c + 1 ≠ 48
      intro hh
      have := congrArg UInt8.toNat hh
      rw [hs] at this
      have e : (48 : UInt8).toNat = 48 := rfl
      omega
    | cons x t =>
      rcases h.2 with h2 | h2
      · cases h2
      · exact h2
theorem last_ne {K : List UInt8} {c : UInt8} (h1 : c.toNat < 57) (h2 : 48 ≤ c.toNat) : (K ++ [c + 1]) = [] ∨ (K ++ [c + 1]).getD ((K ++ [c + 1]).length - 1) 0 ≠ 48 := by
  right
  rw [List.length_append, show K.length + [c + 1].length - 1 = K.length from rfl, get_mid K (c + 1) []]
  intro hh
  have := congrArg UInt8.toNat hh
  rw [succ_nat h1] at this
  have e : (48 : UInt8).toNat = 48 := rfl
  omega
theorem bump_l0 (a0 : ByteArray) (p : Int) (cu : Bool) (hp0 : -1099511627777 ≤ p) (hp1 : p ≤ 1099511627777) : ∀ (n : Nat) (K : List UInt8) (j k : Nat), K.length = n → digs K = true → (K = [] ∨ K.getD 0 0 ≠ 48) → K.length + j ≤ 800 → n + 1000 < k →
    dec_bump.l0 k (nums (K ++ zz j)) ((K.length : Int) - 1) a0 p cu = some (mk (upS K p).1, (upS K p).2, false)
  | 0, K, j, k, hn, _, _, _, hk => by
    obtain ⟨k, rfl⟩ : ∃ i, k = i + 1 := ⟨k - 1, by omega⟩
    have hK : K = [] := List.eq_nil_of_length_eq_zero hn
    subst hK
    rw [dec_bump.l0, if_neg (by simp), wrapi_id (by omega) (by omega)]; rfl
  | n + 1, K, j, k, hn, hd, hg, hl, hk => by
    obtain ⟨k, rfl⟩ : ∃ i, k = i + 1 := ⟨k - 1, by omega⟩
    obtain ⟨K0, c, rfl⟩ : ∃ K0 c, K = K0 ++ [c] := by
      rcases List.eq_nil_or_concat K with h | ⟨L, b, h⟩
      · rw [h] at hn; simp at hn
      · exact ⟨L, b, by rw [h, List.concat_eq_append]⟩
    have hl0 : (K0 ++ [c]).length = K0.length + 1 := by simp
    have hdc := (digs_snoc K0 c).1 hd
    have hm : (((K0 ++ [c]).length : Nat) : Int) - 1 = (K0.length : Int) := by rw [hl0]; omega
    have hlen : (nums (K0 ++ [c] ++ zz j)).length = K0.length + 1 + j := by rw [nums_len, List.length_append, hl0, zz_len]
    have hrd : rd (nums (K0 ++ [c] ++ zz j)) (K0.length : Int) = (c.toNat : Int) := by rw [rd_nums, List.append_assoc]; exact congrArg (fun z : UInt8 => (z.toNat : Int)) (get_mid K0 c (zz j))
    rw [hm, dec_bump.l0, if_pos (by omega), if_pos (by omega), hlen, if_pos (by omega), hrd, upS_snoc]
    by_cases hc : c = 57
    · have hg0 : K0 = [] ∨ K0.getD 0 0 ≠ 48 := by
        cases K0 with
        | nil => exact Or.inl rfl
        | cons x t =>
          rcases hg with hg | hg
          · cases hg
          · exact Or.inr hg
      rw [if_neg (by rw [hc]; decide), if_pos hc, Int.toNat_natCast, show ((48 : Int)) = (((48 : UInt8).toNat : Nat) : Int) from rfl, nums_set, List.append_assoc, List.singleton_append, set_mid, show (48 : UInt8) :: zz j = zz (j + 1) from rfl, wrapi_id (by omega) (by omega)]
      exact bump_l0 a0 p cu hp0 hp1 n K0 (j + 1) k (by omega) hdc.1 hg0 (by omega) (by omega)
    · obtain ⟨hgd, h57, h48⟩ := good_next ⟨hd, hg⟩ hc
      have hne : K0 ++ [c + 1] ++ zz j ≠ [] := by simp
      have hmake := Make_eq (hgd j) hne (by rw [List.length_append, List.length_append, zz_len]; simp only [List.length_cons, List.length_nil]; omega) (k := k) (by omega)
      have htr : trimR (K0 ++ [c + 1] ++ zz j) = K0 ++ [c + 1] := trimR_of j (last_ne h57 h48)
      have hsum : (((c.toNat : Int) + 1) % 256) = (((c + 1).toNat : Nat) : Int) := by rw [succ_nat h57]; omega
      rw [if_pos (by omega), if_neg hc, Int.toNat_natCast, hsum, nums_set, List.append_assoc, List.singleton_append, set_mid, ← List.singleton_append, ← List.append_assoc, strOf, hmake, Option.bind_some, htr]
theorem bump_eq {D : List UInt8} {p : Int} (hD : good D) (h8 : D.length ≤ 800) (hp0 : -1099511627777 ≤ p) (hp1 : p ≤ 1099511627777) (cu : Bool) {k : Nat} (hk : 2000 ≤ k) : dec_bump.f k (mk D) p cu = some (mk (upS D p).1, (upS D p).2, false) := by
  unfold dec_bump.f
  rw [mk_size, if_pos (by omega), Option.bind_some, bytesOf_mk, nums_len, wrapi_id (by omega) (by omega)]
  have := bump_l0 (mk D) p cu hp0 hp1 D.length D 0 k rfl hD.1 hD.2 (by omega) (by omega)
  rw [show D ++ zz 0 = D from List.append_nil D] at this
  exact this
theorem next_l1 (a0 : ByteArray) (p : Int) (cu : Bool) {L : List UInt8} (h0 : L ≠ []) (hL : L.getD (L.length - 1) 0 ≠ 48) (j : Nat) (hl : L.length + j ≤ 800) : ∀ (n k : Nat), n ≤ j → n < k → numeralref03_next.l1 k (nums (L ++ zz j)) ((L.length + n : Nat) : Int) a0 p cu = some (mk L, p, false)
  | 0, k, _, hk => by
    obtain ⟨k, rfl⟩ : ∃ i, k = i + 1 := ⟨k - 1, by omega⟩
    have hl0 : 0 < L.length := List.length_pos_iff.2 h0
    have hlen : (nums (L ++ zz j)).length = L.length + j := by rw [nums_len, List.length_append, zz_len]
    have hm : (((L.length + 0 : Nat) : Int) - 1) = ((L.length - 1 : Nat) : Int) := by omega
    have hg : (L ++ zz j).getD (L.length - 1) 0 = L.getD (L.length - 1) 0 := by
      rw [List.getD_eq_getElem?_getD, List.getElem?_append_left (by omega), List.getD_eq_getElem?_getD]
    rw [numeralref03_next.l1, wrapi_id (by omega) (by omega), hm, hlen, if_pos (by omega), if_pos (by omega), rd_nums, hg, if_neg (by rw [b48]; exact hL), if_pos (by omega), if_pos (by omega), nums_take, strOf, show ((L.length + 0 : Nat) : Int).toNat = L.length from rfl, List.take_left']
    rfl
  | n + 1, k, hn, hk => by
    obtain ⟨k, rfl⟩ : ∃ i, k = i + 1 := ⟨k - 1, by omega⟩
    have hlen : (nums (L ++ zz j)).length = L.length + j := by rw [nums_len, List.length_append, zz_len]
    have hm : (((L.length + (n + 1) : Nat) : Int) - 1) = ((L.length + n : Nat) : Int) := by omega
    have hg : (L ++ zz j).getD (L.length + n) 0 = 48 := by
      rw [List.getD_eq_getElem?_getD, List.getElem?_append_right (by omega), show L.length + n - L.length = n by omega]
      unfold zz
      rw [List.getElem?_replicate, if_pos (by omega)]; rfl
    rw [numeralref03_next.l1, wrapi_id (by omega) (by omega), hm, hlen, if_pos (by omega), if_pos (by omega), rd_nums, hg, if_pos (by decide)]
    exact next_l1 a0 p cu h0 hL j hl n k (by omega) (by omega)
theorem next_l0 (a0 : ByteArray) (p : Int) (cu : Bool) (hp0 : -1099511627777 ≤ p) (hp1 : p ≤ 1099511627777) : ∀ (n : Nat) (K : List UInt8) (j k : Nat), K.length = n → digs K = true → (K = [] ∨ K.getD 0 0 ≠ 48) → K.length + j ≤ 800 → n + 1000 < k →
    numeralref03_next.l0 k (nums (K ++ zz j)) ((K.length : Int) - 1) a0 p cu = some (mk (upS K p).1, (upS K p).2, false)
  | 0, K, j, k, hn, _, _, _, hk => by
    obtain ⟨k, rfl⟩ : ∃ i, k = i + 2 := ⟨k - 2, by omega⟩
    have hK : K = [] := List.eq_nil_of_length_eq_zero hn
    subst hK
    rw [numeralref03_next.l0, if_neg (by simp), numeralref03_next.j1, if_pos (by simp), wrapi_id (by omega) (by omega)]; rfl
  | n + 1, K, j, k, hn, hd, hg, hl, hk => by
    obtain ⟨k, rfl⟩ : ∃ i, k = i + 2 := ⟨k - 2, by omega⟩
    obtain ⟨K0, c, rfl⟩ : ∃ K0 c, K = K0 ++ [c] := by
      rcases List.eq_nil_or_concat K with h | ⟨L, b, h⟩
      · rw [h] at hn; simp at hn
      · exact ⟨L, b, by rw [h, List.concat_eq_append]⟩
    have hl0 : (K0 ++ [c]).length = K0.length + 1 := by simp
    have hdc := (digs_snoc K0 c).1 hd
    have hm : (((K0 ++ [c]).length : Nat) : Int) - 1 = (K0.length : Int) := by rw [hl0]; omega
    have hlen : (nums (K0 ++ [c] ++ zz j)).length = K0.length + 1 + j := by rw [nums_len, List.length_append, hl0, zz_len]
    have hrd : rd (nums (K0 ++ [c] ++ zz j)) (K0.length : Int) = (c.toNat : Int) := by rw [rd_nums, List.append_assoc]; exact congrArg (fun z : UInt8 => (z.toNat : Int)) (get_mid K0 c (zz j))
    rw [hm, numeralref03_next.l0, if_pos (by omega), if_pos (by omega), hlen, if_pos (by omega), hrd, upS_snoc]
    by_cases hc : c = 57
    · have hg0 : K0 = [] ∨ K0.getD 0 0 ≠ 48 := by
        cases K0 with
        | nil => exact Or.inl rfl
        | cons x t =>
          rcases hg with hg | hg
          · cases hg
          · exact Or.inr hg
      rw [if_pos (by rw [hc]; rfl), if_pos hc, Int.toNat_natCast, show ((48 : Int)) = (((48 : UInt8).toNat : Nat) : Int) from rfl, nums_set, List.append_assoc, List.singleton_append, set_mid, show (48 : UInt8) :: zz j = zz (j + 1) from rfl, wrapi_id (by omega) (by omega)]
      exact next_l0 a0 p cu hp0 hp1 n K0 (j + 1) (k + 1) (by omega) hdc.1 hg0 (by omega) (by omega)
    · obtain ⟨hgd, h57, h48⟩ := good_next ⟨hd, hg⟩ hc
      have hsum : (((c.toNat : Int) + 1) % 256) = (((c + 1).toNat : Nat) : Int) := by rw [succ_nat h57]; omega
      have hln : (K0 ++ [c + 1]).getD ((K0 ++ [c + 1]).length - 1) 0 ≠ 48 := by
        rcases last_ne (K := K0) h57 h48 with h | h
        · simp at h
        · exact h
      have hl1 := next_l1 a0 p cu (L := K0 ++ [c + 1]) (by simp) hln j (by simp; omega) j k (Nat.le_refl _) (by omega)
      rw [if_neg (by omega), if_neg hc, numeralref03_next.j1, if_neg (by omega), if_pos (by omega), hlen, if_pos (by omega), hrd, hsum, Int.toNat_natCast, nums_set, List.append_assoc, List.singleton_append, set_mid, ← List.singleton_append, ← List.append_assoc]
      rw [show (((K0 ++ [c + 1]).length + j : Nat) : Int) = ((K0.length + 1 + j : Nat) : Int) by rw [List.length_append]; rfl] at hl1
      exact hl1
theorem next_eq {D : List UInt8} {p : Int} (hD : good D) (h8 : D.length ≤ 800) (hp0 : -1099511627777 ≤ p) (hp1 : p ≤ 1099511627777) (cu : Bool) {k : Nat} (hk : 2000 ≤ k) : numeralref03_next.f k (mk D) p cu = some (mk (upS D p).1, (upS D p).2, false) := by
  unfold numeralref03_next.f
  rw [mk_size, if_pos (by omega), Option.bind_some, bytesOf_mk, nums_len, wrapi_id (by omega) (by omega)]
  have := next_l0 (mk D) p cu hp0 hp1 D.length D 0 k rfl hD.1 hD.2 (by omega) (by omega)
  rw [show D ++ zz 0 = D from List.append_nil D] at this
  exact this

/-! Two numbers compared -/
def lowerS (D : List UInt8) (p : Int) (E : List UInt8) (q : Int) : Int :=
  if D = [] then (if E = [] then 0 else -1) else if E = [] then 1 else if p < q then -1 else if p > q then 1 else cmpP D E
def plainV (D : List UInt8) (p : Int) (E : List UInt8) (q : Int) : Int :=
  if trimR D = [] ∨ trimR E = [] then ((trimR D).length : Int) - (trimR E).length else if p = q then Lib.compareBytes (trimR D) (trimR E) else p - q
theorem cmpP_range : ∀ a b : List UInt8, cmpP a b = -1 ∨ cmpP a b = 0 ∨ cmpP a b = 1
  | [], [] => by rw [cmpP]; omega
  | a :: al, [] => by rw [cmpP]; split; exact Or.inl rfl; split; exact Or.inr (Or.inr rfl); exact cmpP_range al []
  | [], b :: bs => by rw [cmpP]; split; exact Or.inl rfl; split; exact Or.inr (Or.inr rfl); exact cmpP_range [] bs
  | a :: al, b :: bs => by rw [cmpP]; split; exact Or.inl rfl; split; exact Or.inr (Or.inr rfl); exact cmpP_range al bs
theorem plain_lower {D E : List UInt8} (hD : good D) (hE : good E) (p q : Int) : (plainV D p E q ≤ 0 ↔ lowerS D p E q ≤ 0) ∧ max (-1) (min (plainV D p E q) 1) = lowerS D p E q := by
  have h1 := good_trimR hD
  have h2 := good_trimR hE
  unfold plainV lowerS
  by_cases hd : D = []
  · rw [if_pos (Or.inl (h1.2 hd)), if_pos hd, h1.2 hd]
    by_cases he : E = []
    · rw [if_pos he, h2.2 he]; exact ⟨by decide, by decide⟩
    · rw [if_neg he]
      have : 0 < (trimR E).length := List.length_pos_iff.2 (fun h => he (h2.1 h))
      simp only [List.length_nil]
      omega
  · have hx : 0 < (trimR D).length := List.length_pos_iff.2 (fun h => hd (h1.1 h))
    rw [if_neg hd]
    by_cases he : E = []
    · rw [if_pos (Or.inr (h2.2 he)), if_pos he, h2.2 he]
      simp only [List.length_nil]
      omega
    · rw [if_neg (by rw [h1, h2]; exact fun h => h.elim hd he), if_neg he]
      by_cases hpq : p = q
      · rw [if_pos hpq, if_neg (by omega), if_neg (by omega), cmp_trim D E hD.1 hE.1]
        rcases cmpP_range D E with h | h | h <;> rw [h] <;> decide
      · rw [if_neg hpq]
        by_cases hlt : p < q
        · rw [if_pos hlt]; omega
        · rw [if_neg hlt, if_pos (by omega)]; omega
theorem cmpP_drop (D E : List UInt8) (i : Nat) (h : i < D.length ∨ i < E.length) : cmpP (D.drop i) (E.drop i) = if (D.getD i 48) < (E.getD i 48) then -1 else if (E.getD i 48) < (D.getD i 48) then 1 else cmpP (D.drop (i + 1)) (E.drop (i + 1)) := by
  have hD : i < D.length → D.drop i = D.getD i 48 :: D.drop (i + 1) := fun h => by
    rw [List.drop_eq_getElem_cons h, List.getD_eq_getElem?_getD, List.getElem?_eq_getElem h]; rfl
  have hE : i < E.length → E.drop i = E.getD i 48 :: E.drop (i + 1) := fun h => by
    rw [List.drop_eq_getElem_cons h, List.getD_eq_getElem?_getD, List.getElem?_eq_getElem h]; rfl
  have hD' : ¬ i < D.length → D.drop i = [] ∧ D.drop (i + 1) = [] ∧ D.getD i 48 = 48 := fun h => ⟨List.drop_eq_nil_of_le (by omega), List.drop_eq_nil_of_le (by omega), by rw [List.getD_eq_getElem?_getD, List.getElem?_eq_none (by omega)]; rfl⟩
  have hE' : ¬ i < E.length → E.drop i = [] ∧ E.drop (i + 1) = [] ∧ E.getD i 48 = 48 := fun h => ⟨List.drop_eq_nil_of_le (by omega), List.drop_eq_nil_of_le (by omega), by rw [List.getD_eq_getElem?_getD, List.getElem?_eq_none (by omega)]; rfl⟩
  by_cases h1 : i < D.length
  · by_cases h2 : i < E.length
    · rw [hD h1, hE h2, cmpP]
    · obtain ⟨e1, e2, e3⟩ := hE' h2
      rw [hD h1, e1, e2, e3, cmpP]
  · obtain ⟨e1, e2, e3⟩ := hD' h1
    rw [hE (h.resolve_left h1), e1, e2, e3, cmpP]
/-! An order -/
theorem cb_refl_le : ∀ z : List UInt8, Lib.compareBytes [] z ≤ 0
  | [] => Int.le_refl _
  | _ :: _ => by show (-1 : Int) ≤ 0; decide
theorem cb_trans : ∀ x y z : List UInt8, Lib.compareBytes x y ≤ 0 → Lib.compareBytes y z ≤ 0 → Lib.compareBytes x z ≤ 0
  | [], _, z, _, _ => cb_refl_le z
  | a :: al, [], _, h, _ => absurd h (by show ¬ ((1 : Int) ≤ 0); decide)
  | a :: al, b :: bs, [], _, h => absurd h (by show ¬ ((1 : Int) ≤ 0); decide)
  | a :: al, b :: bs, c :: cs, h1, h2 => by
    rw [Lib.compareBytes] at *
    simp only [UInt8.lt_iff_toNat_lt] at *
    have ih := cb_trans al bs cs
    by_cases ab : a.toNat < b.toNat
    · by_cases bc : b.toNat < c.toNat
      · rw [if_pos (by omega)]; decide
      · rw [if_neg bc] at h2
        by_cases cb : c.toNat < b.toNat
        · rw [if_pos cb] at h2; exact absurd h2 (by decide)
        · rw [if_pos (by omega)]; decide
    · rw [if_neg ab] at h1
      by_cases ba : b.toNat < a.toNat
      · rw [if_pos ba] at h1; exact absurd h1 (by decide)
      · rw [if_neg ba] at h1
        by_cases bc : b.toNat < c.toNat
        · rw [if_pos (by omega)]; decide
        · rw [if_neg bc] at h2
          by_cases cb : c.toNat < b.toNat
          · rw [if_pos cb] at h2; exact absurd h2 (by decide)
          · rw [if_neg cb] at h2
            rw [if_neg (by omega), if_neg (by omega)]
            exact ih h1 h2
theorem cb_swap : ∀ x y : List UInt8, Lib.compareBytes y x = - Lib.compareBytes x y
  | [], [] => rfl
  | [], _ :: _ => rfl
  | _ :: _, [] => rfl
  | a :: al, b :: bs => by
    rw [Lib.compareBytes, Lib.compareBytes, cb_swap al bs]
    simp only [UInt8.lt_iff_toNat_lt]
    by_cases ab : a.toNat < b.toNat
    · rw [if_pos ab, if_neg (by omega), if_pos ab]; rfl
    · rw [if_neg ab]
      by_cases ba : b.toNat < a.toNat
      · rw [if_pos ba, if_neg ab, if_pos ba]
      · rw [if_neg ba, if_neg ba, if_neg ab]
theorem lower_swap {D E : List UInt8} (hD : good D) (hE : good E) (p q : Int) : lowerS E q D p = - lowerS D p E q := by
  unfold lowerS
  by_cases h1 : D = []
  · by_cases h2 : E = []
    · simp [h1, h2]
    · simp [h1, h2]
  · by_cases h2 : E = []
    · simp [h1, h2]
    · simp only [if_neg h1, if_neg h2]
      by_cases h3 : p < q
      · rw [if_neg (show ¬ q < p by omega), if_pos (show q > p by omega), if_pos h3]; rfl
      · by_cases h4 : p > q
        · rw [if_pos (show q < p by omega), if_neg h3, if_pos h4]
        · rw [if_neg (show ¬ q < p by omega), if_neg (show ¬ q > p by omega), if_neg h3, if_neg h4, ← cmp_trim D E hD.1 hE.1, ← cmp_trim E D hE.1 hD.1, cb_swap]
theorem lower_trans {D E F : List UInt8} (hD : good D) (hE : good E) (hF : good F) {p q r : Int} (h1 : lowerS D p E q ≤ 0) (h2 : lowerS E q F r ≤ 0) : lowerS D p F r ≤ 0 := by
  unfold lowerS at *
  by_cases hd : D = []
  · rw [if_pos hd]; split <;> decide
  · rw [if_neg hd] at h1 ⊢
    by_cases he : E = []
    · rw [if_pos he] at h1; exact absurd h1 (by decide)
    · rw [if_neg he] at h1 h2
      by_cases hf : F = []
      · rw [if_pos hf] at h2; exact absurd h2 (by decide)
      · rw [if_neg hf] at h2 ⊢
        by_cases a1 : p < q
        · by_cases a2 : q < r
          · rw [if_pos (by omega)]; decide
          · rw [if_neg a2] at h2
            by_cases a3 : q > r
            · rw [if_pos a3] at h2; exact absurd h2 (by decide)
            · rw [if_pos (by omega)]; decide
        · rw [if_neg a1] at h1
          by_cases a3 : p > q
          · rw [if_pos a3] at h1; exact absurd h1 (by decide)
          · rw [if_neg a3] at h1
            by_cases a2 : q < r
            · rw [if_pos (by omega)]; decide
            · rw [if_neg a2] at h2
              by_cases a4 : q > r
              · rw [if_pos a4] at h2; exact absurd h2 (by decide)
              · rw [if_neg a4] at h2
                rw [if_neg (by omega), if_neg (by omega)]
                rw [← cmp_trim D E hD.1 hE.1] at h1
                rw [← cmp_trim E F hE.1 hF.1] at h2
                rw [← cmp_trim D F hD.1 hF.1]
                exact cb_trans _ _ _ h1 h2
theorem cmp_mid : ∀ (P : List UInt8) (x y : UInt8) (r s : List UInt8), y < x → cmpP (P ++ x :: r) (P ++ y :: s) = 1
  | [], x, y, r, s, h => by
    show cmpP (x :: r) (y :: s) = 1
    rw [cmpP, if_neg (fun h2 => by rw [UInt8.lt_iff_toNat_lt] at h h2; omega), if_pos h]
  | c :: P, x, y, r, s, h => by
    show cmpP (c :: (P ++ x :: r)) (c :: (P ++ y :: s)) = 1
    have hc : ¬ c < c := fun h2 => by rw [UInt8.lt_iff_toNat_lt] at h2; omega
    rw [cmpP, if_neg hc, if_neg hc]
    exact cmp_mid P x y r s h
/-- One unit more is more, and good. -/
theorem upS_more : ∀ (n : Nat) (K r : List UInt8) (p : Int), K.length = n → good K → (K ++ r) ≠ [] → good (upS K p).1 ∧ (upS K p).1 ≠ [] ∧ (upS K p).1.length ≤ K.length + 1 ∧ (p ≤ (upS K p).2 ∧ (upS K p).2 ≤ p + 1) ∧ lowerS (upS K p).1 (upS K p).2 (K ++ r) p = 1
  | 0, K, r, p, hn, hK, hr => by
    have h : K = [] := List.eq_nil_of_length_eq_zero hn
    subst h
    have hu : upS [] p = ([49], p + 1) := rfl
    rw [hu]
    refine ⟨show good [49] from ⟨rfl, Or.inr (by decide)⟩, by simp, by simp, by omega, ?_⟩
    unfold lowerS
    dsimp only
    rw [if_neg (by simp), if_neg hr, if_neg (by omega), if_pos (by omega)]
  | n + 1, K, r, p, hn, hK, hr => by
    obtain ⟨K0, c, rfl⟩ : ∃ K0 c, K = K0 ++ [c] := by
      rcases List.eq_nil_or_concat K with h | ⟨L, b, h⟩
      · rw [h] at hn; simp at hn
      · exact ⟨L, b, by rw [h, List.concat_eq_append]⟩
    rw [upS_snoc]
    by_cases hc : c = 57
    · have hg0 : good K0 := by
        refine ⟨((digs_snoc K0 c).1 hK.1).1, ?_⟩
        cases K0 with
        | nil => exact Or.inl rfl
        | cons x t =>
          rcases hK.2 with h | h
          · cases h
          · exact Or.inr h
      rw [if_pos hc]
      obtain ⟨i1, i2, i3, i4, i5⟩ := upS_more n K0 ([c] ++ r) p (by simpa using hn) hg0 (by simp)
      refine ⟨i1, i2, by simp; omega, i4, ?_⟩
      rw [List.append_assoc]; exact i5
    · obtain ⟨hgd, h57, h48⟩ := good_next hK hc
      rw [if_neg hc]
      have hg := hgd 0
      rw [show K0 ++ [c + 1] ++ zz 0 = K0 ++ [c + 1] from List.append_nil _] at hg
      refine ⟨hg, by simp, by simp, by dsimp only; omega, ?_⟩
      unfold lowerS
      dsimp only
      rw [if_neg (by simp), if_neg hr, if_neg (by omega), if_neg (by omega), List.append_assoc]
      exact cmp_mid K0 (c + 1) c [] r (by rw [UInt8.lt_iff_toNat_lt, succ_nat h57]; omega)
theorem validS_good {D : List UInt8} {p : Int} {c : Bool} (h : validS D p c = true) : good D ∧ D.length ≤ 800 ∧ -1099511627776 ≤ p ∧ p ≤ 1099511627776 := by
  unfold validS at h
  by_cases hD : D = []
  · rw [if_pos hD] at h
    simp only [Bool.and_eq_true, decide_eq_true_eq] at h
    exact ⟨⟨by rw [hD]; rfl, Or.inl hD⟩, by rw [hD]; simp, by omega, by omega⟩
  · rw [if_neg hD] at h
    simp only [Bool.and_eq_true, decide_eq_true_eq, Bool.not_eq_true', decide_eq_false_iff_not] at h
    exact ⟨⟨h.2, Or.inr h.1.1.1.1.2⟩, h.1.1.1.1.1, h.1.1.2, h.1.2⟩
theorem num3_eq (e : Option Int) : numerallaw03_num.f e = some (e.getD 0) := by cases e <;> rfl
theorem sure40 : numerallaw03_sure.f 40 = some true := by decide +kernel
theorem sure {k : Nat} (h : 40 ≤ k) : numerallaw03_sure.f k = some true := chain numerallaw03_sure.mono h sure40
end Go.Proofs.YtpkfpgjacijjeaaDoor.XrDc
