
/- Chapter 3: Make at digits that begin with none that is nought (program and reference), what is built of kept digits. -/
import Derived.Test.YtpkfpgjacijjeaaDoorXrDc
import Derived.Test.YtpkfpgjacijjeaaDoorXrLs
import Derived.Test.YtpkfpgjacijjeaaDoorXrx3
import Derived.Test.YtpkfpgjacijjeaaDoorXrx4
import Derived.Test.YtpkfpgjacijjeaaDoorXrx6
import Derived.Test.YtpkfpgjacijjeaaDoorXrx8
import Derived.Test.YtpkfpgjacijjeaaDoorXrx9
namespace Go.Proofs.YtpkfpgjacijjeaaDoor.XrDm
open Go.RowKit Go.Proofs.YtpkfpgjacijjeaaDoor.Xr Go.Proofs.YtpkfpgjacijjeaaDoorW.PrintWords Go.Proofs.YtpkfpgjacijjeaaDoorW.PrintLast Go.Proofs.YtpkfpgjacijjeaaDoorW.PrintMore Go.Proofs.YtpkfpgjacijjeaaDoor.XrLy Go.Proofs.YtpkfpgjacijjeaaDoor.XrDc Go.Proofs.YtpkfpgjacijjeaaDoor.Dz
set_option linter.unusedVariables false
set_option linter.unusedSimpArgs false

/-- What digits make: the digits, the place, the error. -/
def madeS (s : List UInt8) (pt : Int) : List UInt8 × Int × Option Int :=
  if s = [] then ([], 0, none) else if pt < -1099511627776 ∨ pt > 1099511627776 then ([], 0, some 4) else (trimR s, pt, none)
theorem pmake_j1 (k : Nat) {s : List UInt8} (hs : good s) (h0 : s ≠ []) (h8 : s.length ≤ 800) {pt : Int} (hp0 : -1099511627778 ≤ pt) (hp1 : pt ≤ 1099511627778) :
    dec_Make.j1 (k + 3) (mk s) pt false (mk s) false = some (mk (madeS s pt).1, (madeS s pt).2.1, false, (madeS s pt).2.2) := by
  unfold madeS
  rw [dec_Make.j1, if_neg (by decide), mk_toList, if_neg h0, if_neg h0, mk_size, if_neg (by omega), dec_Make.j2, TrimL_eq (by omega), Option.bind_some, good_trimL hs, mk_size, wrapi_id (n := (s.length : Int) - (s.length : Int)) (by omega) (by omega), wrapi_id (n := (s.length : Int) - (s.length : Int) - 1099511627776) (by omega) (by omega)]
  have j3t : ∀ z, dec_Make.j3 (k + 1) pt false (mk s) z true = some (mk [], 0, false, some 4) := fun z => by rw [dec_Make.j3, if_pos rfl]; rfl
  have j3f : dec_Make.j3 (k + 1) pt false (mk s) ((s.length : Int) - (s.length : Int)) false = some (mk (trimR s), pt, false, none) := by
    rw [dec_Make.j3, if_neg (by decide), if_neg (by decide), TrimR_eq (by omega), Option.bind_some, wrapi_id (by omega) (by omega), show pt - ((s.length : Int) - (s.length : Int)) = pt by omega]
  by_cases h1 : pt < -1099511627776
  · rw [if_pos (by omega), j3t, if_pos (Or.inl h1)]
  · rw [if_neg (by omega)]
    by_cases h2 : pt > 1099511627776
    · rw [if_pos h2, wrapi_id (n := pt - ((s.length : Int) - (s.length : Int))) (by omega) (by omega), decide_eq_true (by omega), j3t, if_pos (Or.inr h2)]
    · rw [if_neg h2, j3f, if_neg (by omega)]
theorem pmake_l0 {s : List UInt8} (hs : good s) (h8 : s.length ≤ 800) {pt : Int} (hp0 : -1099511627778 ≤ pt) (hp1 : pt ≤ 1099511627778) : ∀ (n i k : Nat), i + n = s.length → n + 5 < k →
    dec_Make.l0 k (mk s) pt false (i : Int) = some (mk (madeS s pt).1, (madeS s pt).2.1, false, (madeS s pt).2.2)
  | 0, i, k, hi, hk => by
    obtain ⟨k, rfl⟩ : ∃ j, k = j + 4 := ⟨k - 4, by omega⟩
    rw [dec_Make.l0, mk_size, if_neg (by omega), TrimL_eq (by omega), Option.bind_some, good_trimL hs, mk_toList]
    by_cases h0 : s = []
    · rw [if_pos h0, dec_Make.j1, if_neg (by decide), mk_toList, if_pos h0]
      unfold madeS
      rw [if_pos h0]; rfl
    · rw [if_neg h0]
      exact pmake_j1 k hs h0 h8 hp0 hp1
  | n + 1, i, k, hi, hk => by
    obtain ⟨k, rfl⟩ : ∃ j, k = j + 1 := ⟨k - 1, by omega⟩
    have hil : i < s.length := by omega
    have hd := digs_mem hs.1 hil
    have hst : (wrap64 ((i : Int) + 1)) = ((i + 1 : Nat) : Int) := by rw [wrapi_id (by omega) (by omega)]; omega
    have hb : bt (mk s) (i : Int) = (s[i].toNat : Int) := by
      rw [bt_nat, List.getD_eq_getElem?_getD, List.getElem?_eq_getElem hil]; rfl
    rw [dec_Make.l0, mk_size, if_pos (by omega), if_pos (by omega), hb, if_neg (by omega), if_neg (by omega), hst]
    exact pmake_l0 hs h8 hp0 hp1 n (i + 1) k (by omega) (by omega)
theorem pMake_eq {s : List UInt8} (hs : good s) (h8 : s.length ≤ 800) {pt : Int} (hp0 : -1099511627778 ≤ pt) (hp1 : pt ≤ 1099511627778) {k : Nat} (hk : 900 ≤ k) :
    dec_Make.f k (mk s) pt false = some (mk (madeS s pt).1, (madeS s pt).2.1, false, (madeS s pt).2.2) := by
  unfold dec_Make.f
  exact pmake_l0 hs h8 hp0 hp1 s.length 0 k (by omega) (by omega)
theorem rMake_eq {s : List UInt8} (hs : good s) (h8 : s.length ≤ 800) {pt : Int} (hp0 : -1099511627778 ≤ pt) (hp1 : pt ≤ 1099511627778) {k : Nat} (hk : 4000 ≤ k) :
    numeralref03_Make.f k (mk s) pt false = some (mk (madeS s pt).1, (madeS s pt).2.1, false, (madeS s pt).2.2.getD 0) := by
  obtain ⟨k, rfl⟩ : ∃ j, k = j + 3 := ⟨k - 3, by omega⟩
  have h1 := Go.Proofs.YtpkfpgjacijjeaaDoor.XrLs.digits_l0' s (by omega) hs.1 s.length 0 (k + 3) (by omega) (by omega)
  rw [show ((0 : Nat) : Int) = 0 from rfl] at h1
  obtain ⟨b, hb1, hb2⟩ := tail_split s
  have hlen : s.length = (trimR s).length + b := by
    have := congrArg List.length hb1
    rw [List.length_append, zz_len] at this
    exact this
  have hcl : Go.Proofs.YtpkfpgjacijjeaaDoor.XrLs.clean (trimR s) := by
    by_cases h : trimR s = []
    · exact Or.inl h
    · right
      rcases hb2 with hb2 | hb2
      · exact absurd hb2 h
      · refine ⟨?_, hb2⟩
        have h0 : s ≠ [] := fun hh => h ((good_trimR hs).2 hh)
        rcases hs.2 with hs2 | hs2
        · exact absurd hs2 h0
        · intro hh
          apply hs2
          rw [hb1, List.getD_eq_getElem?_getD, List.getElem?_append_left (List.length_pos_iff.2 h), ← List.getD_eq_getElem?_getD]
          exact hh
  have hj1 : numeralref03_Make.j1 (k + 2) (mk s) pt false 0 = some (mk (madeS s pt).1, (madeS s pt).2.1, false, (madeS s pt).2.2.getD 0) := by
    have hx : (mk s).extract (0 : Int).toNat s.length = mk s := by rw [mk_extract, List.take_length]; rfl
    have hl2 := Go.Proofs.YtpkfpgjacijjeaaDoor.XrLs.make_l2 (trimR s) hcl pt 0 (by omega) b k (by omega) (by omega)
    rw [show trimR s ++ zs b = s from hb1.symm] at hl2
    have hc : ∀ (P Q : Option (ByteArray × Int × Bool × Int)) (z : Int), z = (s.length : Int) → (if z > 800 then P else Q) = Q := fun P Q z hz => by rw [if_neg (by omega)]
    rw [numeralref03_Make.j1, mk_size, if_pos (by omega), if_pos (by omega), hx]
    refine (hc _ _ _ (by first | rfl | rw [mk_size] | (show _ = _; omega))).trans ?_
    rw [numeralref03_Make.j3, hl2, show k - b - 1 = (k - b - 2) + 1 by omega, numeralref03_Make.j5, mk_size]
    unfold madeS
    have hiff := good_trimR hs
    by_cases h0 : s = []
    · rw [if_pos (by rw [hiff.2 h0]; rfl), if_neg (by decide), if_pos h0]; rfl
    · have : 0 < (trimR s).length := List.length_pos_iff.2 (fun hh => h0 (hiff.1 hh))
      rw [if_neg (by omega), if_neg h0]
      by_cases a1 : pt < -1099511627776
      · rw [if_pos a1, if_pos (Or.inl a1)]; rfl
      · rw [if_neg a1, wrapi_id (by omega) (by omega)]
        by_cases a2 : pt > 1099511627776
        · rw [if_pos (by omega), if_pos (Or.inr a2)]; rfl
        · rw [if_neg (by omega), wrapi_id (by omega) (by omega), if_neg (by omega), if_neg (by omega), Int.sub_zero]; rfl
  unfold numeralref03_Make.f numeralref03_digits.f
  rw [h1, Option.bind_some, if_pos rfl, numeralref03_Make.l0, mk_size]
  by_cases h0 : s = []
  · have : s.length = 0 := by rw [h0]; rfl
    rw [if_neg (by omega), hj1]
  · have : 0 < s.length := List.length_pos_iff.2 h0
    rcases hs.2 with hs2 | hs2
    · exact absurd hs2 h0
    · have hb0 : bt (mk s) 0 = ((s.getD 0 0).toNat : Int) := bt_nat s 0
      rw [if_pos (by omega), if_pos (by omega), hb0, if_neg (by rw [b48]; exact hs2), hj1]
/-- What is built of kept digits. -/
def builtS (K : List UInt8) (pt : Int) (up : Bool) : List UInt8 × Int × Option Int := if up = true then madeS (upS K pt).1 (upS K pt).2 else madeS K pt
theorem up_good (K : List UInt8) (p : Int) (hK : good K) (h8 : K.length ≤ 800) : good (upS K p).1 ∧ (upS K p).1.length ≤ 800 ∧ p ≤ (upS K p).2 ∧ (upS K p).2 ≤ p + 1 := by
  have key : ∀ (n : Nat) (K : List UInt8), K.length = n → (upS K p).1.length ≤ max 1 K.length := by
    intro n
    induction n with
    | zero =>
      intro K hK
      have h : K = [] := List.eq_nil_of_length_eq_zero hK
      subst h
      show ([49] : List UInt8).length ≤ _
      simp
    | succ n ih =>
      intro K hK
      obtain ⟨K0, c, rfl⟩ : ∃ K0 c, K = K0 ++ [c] := by
        rcases List.eq_nil_or_concat K with h | ⟨L, b, h⟩
        · rw [h] at hK; simp at hK
        · exact ⟨L, b, by rw [h, List.concat_eq_append]⟩
      rw [upS_snoc]
      have hl : K0.length = n := by simpa using hK
      have := ih K0 hl
      by_cases hc : c = 57
      · rw [if_pos hc]; simp only [List.length_append, List.length_cons, List.length_nil]; omega
      · rw [if_neg hc]; simp only [List.length_append, List.length_cons, List.length_nil]; omega
  obtain ⟨i1, i2, i3, i4, i5⟩ := upS_more K.length K [0] p rfl hK (by simp)
  have := key K.length K rfl
  exact ⟨i1, by omega, i4.1, i4.2⟩
theorem built_eq {K : List UInt8} (hK : good K) (h8 : K.length ≤ 800) {pt : Int} (hp0 : -1099511627776 ≤ pt) (hp1 : pt ≤ 1099511627776) (up : Bool) {k : Nat} (hk : 3000 ≤ k) :
    dec_built.f k (mk K) pt up = some (mk (builtS K pt up).1, (builtS K pt up).2.1, false, (builtS K pt up).2.2) := by
  obtain ⟨u1, u2, u3, u4⟩ := up_good K pt hK h8
  unfold dec_built.f builtS
  cases up with
  | true =>
    rw [if_pos rfl, if_pos rfl, mk_toList]
    by_cases h0 : K = []
    · have hu : upS K pt = ([49], pt + 1) := by rw [h0]; rfl
      rw [if_pos h0, hu, show (⟨#[49]⟩ : ByteArray) = mk [49] from rfl, wrapi_id (by omega) (by omega), pMake_eq (show good [49] from ⟨rfl, Or.inr (by decide)⟩) (by simp) (by omega) (by omega) (by omega), Option.bind_some]
    · rw [if_neg h0, bump_eq hK h8 (by omega) (by omega) false (by omega), Option.bind_some]
      dsimp only
      rw [pMake_eq u1 u2 (by omega) (by omega) (by omega), Option.bind_some]
  | false => rw [if_neg (show ¬ false = true by decide), if_neg (show ¬ false = true by decide), pMake_eq hK h8 (by omega) (by omega) (by omega), Option.bind_some]
theorem good_take {D : List UInt8} (hD : good D) (n : Nat) : good (D.take n) := by
  refine ⟨?_, ?_⟩
  · have := hD.1
    unfold digs at *
    rw [List.all_eq_true] at *
    exact fun x hx => this x (List.mem_of_mem_take hx)
  · cases n with
    | zero => left; rfl
    | succ n =>
      cases D with
      | nil => left; rfl
      | cons x t => exact Or.inr (hD.2.resolve_left (by simp))
theorem made_eq {D : List UInt8} (hD : good D) (h8 : D.length ≤ 800) {pt : Int} (hp0 : -1099511627776 ≤ pt) (hp1 : pt ≤ 1099511627776) (c up : Bool) {n : Nat} (hn : n ≤ D.length) {k : Nat} (hk : 5000 ≤ k) :
    numeralref03_made.f k (mk D) pt c (n : Int) up = some (mk (builtS (D.take n) pt up).1, (builtS (D.take n) pt up).2.1, false, (builtS (D.take n) pt up).2.2.getD 0) := by
  have hK := good_take hD n
  have hK8 : (D.take n).length ≤ 800 := by rw [List.length_take]; omega
  obtain ⟨u1, u2, u3, u4⟩ := up_good (D.take n) pt hK hK8
  unfold numeralref03_made.f builtS
  by_cases h0 : n = 0
  · subst h0
    have ht : D.take 0 = [] := rfl
    rw [if_pos (show ((0 : Nat) : Int) = 0 from rfl)]
    cases up with
    | true => rw [if_pos rfl, if_pos rfl, show (⟨#[49]⟩ : ByteArray) = mk [49] from rfl, wrapi_id (by omega) (by omega), rMake_eq (show good [49] from ⟨rfl, Or.inr (by decide)⟩) (by simp) (by omega) (by omega) (by omega), Option.bind_some]; rfl
    | false => rw [if_neg (show ¬ false = true by decide), if_neg (show ¬ false = true by decide)]; rfl
  · have hx : (mk D).extract 0 ((n : Int)).toNat = mk (D.take n) := by rw [mk_extract, Int.toNat_natCast, List.drop_zero]
    rw [if_neg (by omega), if_pos (by omega), mk_size, if_pos (by omega), hx]
    cases up with
    | true =>
      rw [if_pos rfl, if_pos rfl, next_eq hK hK8 (by omega) (by omega) false (by omega), Option.bind_some]
      dsimp only
      rw [rMake_eq u1 u2 (by omega) (by omega) (by omega), Option.bind_some]
    | false => rw [if_neg (show ¬ false = true by decide), if_neg (show ¬ false = true by decide), rMake_eq hK hK8 (by omega) (by omega) (by omega), Option.bind_some]
end Go.Proofs.YtpkfpgjacijjeaaDoor.XrDm
