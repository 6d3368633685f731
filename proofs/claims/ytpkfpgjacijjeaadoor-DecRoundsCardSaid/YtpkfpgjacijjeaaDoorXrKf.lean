/- A row of bytes made out of a text (a conversion): its block is marked behind its end, so the words' own row (Kd.R) doesn't hold of it. The same laws, for such a row. -/
import Derived.Test.YtpkfpgjacijjeaaDoorWWords
import Derived.Test.YtpkfpgjacijjeaaDoorWLast
import Derived.Test.YtpkfpgjacijjeaaDoorWMore
import Derived.Test.YtpkfpgjacijjeaaDoorWInvWords
import Derived.Lib.ConvBytes
namespace Go.Proofs.YtpkfpgjacijjeaaDoor.Xr
open Go.RowKit Go.Proofs.YtpkfpgjacijjeaaDoorW.PrintWords Go.Proofs.YtpkfpgjacijjeaaDoorW.PrintLast Go.Proofs.YtpkfpgjacijjeaaDoorW.PrintMore
namespace Kf

def R (e : Nat) (w : World) (base : Nat) (_ok : Nat → Prop) (v : Value) (xs : List Int) : Prop :=
  ∃ g cap cur fz, v = .slice (some ⟨g, 0, none⟩) xs.length cap ∧ base ≤ g ∧ w.heap[g]? = some (.cells cur e fz) ∧ cur.size ≤ fz.1 ∧ xs.length ≤ cap ∧ xs.length ≤ 9223372036854775807 ∧ xs.length ≤ cur.size ∧ ∀ j, j < xs.length → cur[j]? = some (Value.int .u8 (xs.getD j 0))
section
variable {e : Nat} {w w1 : World} {base : Nat} {ok : Nat → Prop} {v : Value} {xs : List Int}
theorem R_lower {base' : Nat} (h : R e w base ok v xs) (hb : base' ≤ base) : R e w base' ok v xs := by
  obtain ⟨g, cap, cur, fz, h1, h2, r⟩ := h
  exact ⟨g, cap, cur, fz, h1, Nat.le_trans hb h2, r⟩
theorem R_below (h : R e w base ok v xs) (hb : Below w.heap.size w w1) : R e w1 base ok v xs := by
  obtain ⟨g, cap, cur, fz, h1, h2, h3, r⟩ := h
  exact ⟨g, cap, cur, fz, h1, h2, (hb.block g (blk_lt h3)).trans h3, r⟩
theorem R_alloc (h : R e w base ok v xs) (o : Obj) : R e (w.alloc o) base ok v xs := R_below h (below_alloc (Below.refl _ _) o)
theorem R_drew (h : R e w base ok v xs) : R e w.drew base ok v xs := R_below h (below_drew (Below.refl _ _))
theorem R_drewN (h : R e w base ok v xs) (m : Nat) : R e (w.drewN m) base ok v xs := R_below h (pw_below_drewN (Below.refl _ _) m)
theorem cell_fz {g : Nat} {cur : Array Value} {fz : Nat × Nat} (h : w.heap[g]? = some (.cells cur e fz)) (hfz : cur.size ≤ fz.1) (i : Nat) (hi : i < cur.size) : w.cell? ⟨g, i, none⟩ = cur[i]? ∧ w.frozen? ⟨g, i, none⟩ = false := by
  refine ⟨cell_of_row w g i cur e fz h, ?_⟩
  simp [World.frozen?, h]
  omega
theorem R_reads' {A : Option Addr} {n c : Nat} (h : R e w base ok (.slice A n c) xs) : n = xs.length ∧ n ≤ c ∧ (Kd.int .u8).C w A xs.length xs := by
  obtain ⟨g, cap, cur, fz, h1, h2, h3, h4, h5, h6, h7, h8⟩ := h
  injection h1 with h1 h9 h10
  subst h1; subst h9; subst h10
  refine ⟨rfl, h5, rfl, h6, fun hp => ⟨_, rfl, fun j p hj => ?_⟩⟩
  have hjl : j < xs.length := (List.getElem?_eq_some_iff.1 hj).1
  refine ⟨[Value.int .u8 p], rfl, rfl, fun i u hu => ?_⟩
  have hi : i = 0 := by
    rcases Nat.eq_zero_or_pos i with h | h
    · exact h
    · rw [List.getElem?_eq_none (by simp; omega)] at hu; cases hu
  subst hi
  have hu2 : u = Value.int .u8 p := (Option.some.inj hu).symm
  rw [hu2, show j * (Kd.int IntKind.u8).sz + 0 = j from by show j * 1 + 0 = j; omega, add_plain, (cell_fz h3 h4 j (by omega)).1, h8 j hjl, List.getD_eq_getElem?_getD, hj]
  rfl
theorem R_slice (h : R e w base ok v xs) : ∃ A c, v = .slice A xs.length c := by
  obtain ⟨g, cap, cur, fz, h1, _⟩ := h
  exact ⟨_, cap, h1⟩
theorem R_form (h : R e w base ok v xs) (_hp : 0 < xs.length) : ∃ g cap, v = .slice (some ⟨g, 0, none⟩) xs.length cap ∧ base ≤ g ∧ g < w.heap.size ∧ ∃ cells, ∃ fz, w.heap[g]? = some (.cells cells e fz) := by
  obtain ⟨g, cap, cur, fz, h1, h2, h3, _⟩ := h
  exact ⟨g, cap, h1, h2, blk_lt h3, cur, fz, h3⟩
theorem R_ne (h : R e w base ok v xs) {g t : Nat} {cells : Array Value} (hb : w.heap[g]? = some (.cells cells t (0, 0))) (ht : e ≠ t) : some g ≠ v.ownBlock := by
  obtain ⟨g', cap, cur, fz, h1, h2, h3, _⟩ := h
  subst h1
  intro hh
  have hg : g = g' := Option.some.inj hh
  subst hg
  rw [hb] at h3
  injection h3 with h3
  injection h3 with h3 h4
  exact ht h4.symm
theorem R_celln {g n cap : Nat} (_d : Int) (h : R e w base ok (.slice (some ⟨g, 0, none⟩) n cap) xs) (i : Int) (h0 : 0 ≤ i) (hi : i < n) : w.cell? ⟨g, i.toNat, none⟩ = some (Value.int .u8 (rd xs i)) ∧ w.frozen? ⟨g, i.toNat, none⟩ = false := by
  obtain ⟨g', cap', cur, fz, h1, h2, h3, h4, h5, h6, h7, h8⟩ := h
  injection h1 with h1 h9 h10
  injection h1 with h1
  injection h1 with h1
  subst h1; subst h9
  have hc := cell_fz h3 h4 i.toNat (by omega)
  exact ⟨hc.1.trans (h8 i.toNat (by omega)), hc.2⟩
theorem R_putg {g n cap : Nat} (h : R e w base ok (.slice (some ⟨g, 0, none⟩) n cap) xs) (i : Int) (x : Int) : R e (w.setCell ⟨g, i.toNat, none⟩ (Value.int .u8 x)) base ok (.slice (some ⟨g, 0, none⟩) n cap) (xs.set i.toNat x) ∧ w.grownBy (w.setCell ⟨g, i.toNat, none⟩ (Value.int .u8 x)) (some g) := by
  obtain ⟨g', cap', cur, fz, h1, h2, h3, h4, h5, h6, h7, h8⟩ := h
  injection h1 with h1 h9 h10
  injection h1 with h1
  injection h1 with h1
  subst h1; subst h9; subst h10
  refine ⟨⟨g, cap, cur.setIfInBounds i.toNat (Value.int .u8 x), fz, by rw [List.length_set], h2, ?_, by simpa using h4, by rw [List.length_set]; exact h5, by rw [List.length_set]; exact h6, by rw [List.length_set]; simpa using h7, fun j hj => ?_⟩, ?_⟩
  · simp [World.setCell, Array.getElem?_modify, h3]
  · rw [List.length_set] at hj
    rw [Array.getElem?_setIfInBounds, List.getD_eq_getElem?_getD, List.getElem?_set]
    by_cases hij : i.toNat = j
    · rw [if_pos hij, if_pos (by omega), if_pos hij, if_pos (by omega)]; rfl
    · rw [if_neg hij, if_neg hij, h8 j hj, List.getD_eq_getElem?_getD]
  · exact ⟨rfl, rfl, rfl, by simp [World.setCell], fun k _ hk => Below.heap_setCell _ _ _ k (fun he => hk (by rw [he]))⟩
theorem own_string {P : Program} {src dst e' : TypeId} {A : Option Addr} {n c : Nat} (hs : P.underlying src = some (.slice e')) (he : P.underlying e' = some (.int .u8)) (hd : P.underlying dst = some .string)
    (h : R e w base ok (.slice A n c) xs) : (convert src dst (.slice A n c)).run P w = .ok (.string (strOfNums xs)) w := by
  obtain ⟨g, cap, cur, fz, h1, h2, h3, h4, h5, h6, h7, h8⟩ := h
  injection h1 with h1 h9 h10
  subst h1; subst h9; subst h10
  refine run_convert_bytes_arg w src e' hs he g 0 xs.length c xs rfl (fun i hi => ?_) dst hd
  have hc := (cell_fz h3 h4 i (by omega)).1.trans (h8 i hi)
  rw [Nat.zero_add]
  exact hc
theorem R_conv {P : Program} {src dst e' : TypeId} {g n c : Nat} (hs : P.underlying src = some (.slice e')) (he : P.underlying e' = some (.int .u8)) (hd : P.underlying dst = some .string)
    (h : R e w base ok (.slice (some ⟨g, 0, none⟩) n c) xs) : ∃ o : Obj, w.heap[g]? = some o ∧ ∀ (w' : World) (ys : List Int) (m : Nat), w'.heap[g]? = some o → ys = xs.take m → m ≤ xs.length → (convert src dst (.slice (some ⟨g, 0, none⟩) ys.length c)).run P w' = .ok (.string (strOfNums ys)) w' := by
  obtain ⟨g', cap, cur, fz, h1, h2, h3, r⟩ := h
  have h1' := h1
  injection h1 with h1 h9 h10
  injection h1 with h1
  injection h1 with h1
  subst h1; subst h9; subst h10
  refine ⟨_, h3, fun w' ys m hw hy hm => ?_⟩
  have hR : R e w' base ok (.slice (some ⟨g, 0, none⟩) xs.length c) xs := ⟨g, c, cur, fz, rfl, h2, hw, r⟩
  have hC := Kd.C_take (m := m) (R_reads' hR).2.2 hm
  rw [← hy] at hC
  exact Kd.C_string (P := P) (c := c) hs he hd hC
theorem bl_swap : ∀ x y : List UInt8, Op.bytesLess y x = (!Op.bytesLess x y && !(x == y))
  | [], [] => rfl
  | [], _ :: _ => rfl
  | _ :: _, [] => rfl
  | a :: x, b :: y => by
    have ih := bl_swap x y
    have hc : ((a :: x) == (b :: y)) = ((a == b) && (x == y)) := rfl
    rw [Op.bytesLess, Op.bytesLess, ih, hc]
    by_cases h1 : a < b
    · have h2 : ¬ b < a := fun h => by rw [UInt8.lt_iff_toNat_lt] at h h1; omega
      have h3 : (b == a) = false := beq_eq_false_iff_ne.2 (fun h => by subst h; exact h2 h1)
      simp [h1, h2, h3]
    · by_cases h2 : b < a
      · have h3 : (a == b) = false := beq_eq_false_iff_ne.2 (fun h => by subst h; exact h1 h2)
        simp [h1, h2, h3]
      · have h3 : a = b := UInt8.toNat_inj.1 (by
          have h1' : ¬ a.toNat < b.toNat := fun h => h1 (UInt8.lt_iff_toNat_lt.2 h)
          have h2' : ¬ b.toNat < a.toNat := fun h => h2 (UInt8.lt_iff_toNat_lt.2 h)
          exact Nat.le_antisymm (Nat.not_lt.1 h2') (Nat.not_lt.1 h1'))
        subst h3
        simp [h1]
theorem binOp_gtr (t : TypeId) (a b : ByteArray) : binOp .gtr t (.string a) (.string b) = pure (.bool (Op.bytesLess b.toList a.toList)) := by
  rw [bl_swap]; simp [binOp, Op.stringOp]
end
section
variable {P : Program} {ops : Array Oper} {rest : List Oper} {o : Oper} {a : Act} {Q : Exit → Act → World → Prop} {w0 W : World}
theorem R_bytes (base e : Nat) (hgd : o.guard = none) {N : Tmp} (_hd : o.dst = some N) (src dst : TypeId) {x : Operand} (ho : o.op = .convert src dst x) {u : TypeDesc} (hs : P.underlying src = some u) (hdt : P.underlying dst = some (.slice e)) (he : P.underlying e = some (.int .u8))
    (s : ByteArray) (hx : a.eval x = .string s) (hsz : s.size ≤ 9223372036854775807) {ok : Nat → Prop} (HB : Below base w0 W) (hbase : base ≤ W.heap.size)
    (h : ∀ v1 w1, R e w1 base ok v1 (bytesOf s) → Below base w0 w1 → W.grownBy w1 none → (∃ b, v1.ownBlock = some b ∧ W.heap.size ≤ b) → wpList P ops Q rest (a.put o.dst v1) w1) : wpList P ops Q (o :: rest) a W := by
  have hrun : (execOp a.eval o).run P W = .ok (.value (.slice (some ⟨W.heap.size, 0, none⟩) s.size (grownCap W s.size 0 e))) (Lib.bytesWorld W e s) := by
    have := print_bytes src dst e hs hdt he s W
    simp [execOp, ho, hx, this]
  have hcs : (Lib.bytesCells W e s).size = s.size + (grownCap W s.size 0 e - s.size) := by unfold Lib.bytesCells; rw [Array.size_append, Array.size_map, Array.size_replicate]; rfl
  refine Kd.event_run hgd hrun (h _ _ ⟨W.heap.size, grownCap W s.size 0 e, Lib.bytesCells W e s, _, by rw [bytesOf_length], hbase, Lib.bytesWorld_at_new W e s, Nat.le_refl _, by rw [bytesOf_length]; exact grownCap_ge W s.size 0 e, by rw [bytesOf_length]; exact hsz, by rw [bytesOf_length, hcs]; omega, fun j hj => ?_⟩ (bytes_below HB hbase e s) ⟨rfl, rfl, rfl, by rw [Lib.bytesWorld_size]; omega, fun k hk _ => Lib.bytesWorld_at_old W e s k hk⟩ ⟨W.heap.size, rfl, Nat.le_refl _⟩)
  rw [bytesOf_length] at hj
  have hc := Lib.bytesWorld_cell W e s j hj
  have hr := cell_of_row (Lib.bytesWorld W e s) W.heap.size j _ e _ (Lib.bytesWorld_at_new W e s)
  rw [← hr, hc]
  have h' : j < s.data.toList.length := by rw [data_length]; exact hj
  simp [bytesOf, List.getD_eq_getElem?_getD, List.getElem?_eq_getElem h']
end
end Kf
end Go.Proofs.YtpkfpgjacijjeaaDoor.Xr
