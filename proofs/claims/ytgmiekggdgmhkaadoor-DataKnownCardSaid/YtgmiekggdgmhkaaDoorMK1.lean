import Derived.Lib.DecodeNEq
import Derived.Lib.Small
import Derived.Shelf.Unicode.DecodeSlow
import Derived.Test.YtgmiekggdgmhkaaDoorMK0
section
/- Bytes and runes: plain definitions and laws, no program in them. -/
namespace Go.Proofs.YtgmiekggdgmhkaaDoor.Q
open Go.RowKit Go.Proofs.YtgmiekggdgmhkaaDoorW.PrintWords
set_option linter.unusedSimpArgs false
/-- numbers that are bytes -/
def Bytes (l : List Int) : Prop := ∀ x ∈ l, 0 ≤ x ∧ x < 256
theorem Bytes.drop {l : List Int} (h : Bytes l) (n : Nat) : Bytes (l.drop n) := fun x hx => h x (List.mem_of_mem_drop hx)
theorem Bytes.take {l : List Int} (h : Bytes l) (n : Nat) : Bytes (l.take n) := fun x hx => h x (List.mem_of_mem_take hx)
theorem Bytes.at_ {l : List Int} (h : Bytes l) (i : Int) : 0 ≤ rd l i ∧ rd l i < 256 := by
  unfold rd
  rw [List.getD_eq_getElem?_getD]
  by_cases hi : i.toNat < l.length
  · rw [List.getElem?_eq_getElem hi]; exact h _ (List.getElem_mem hi)
  · rw [List.getElem?_eq_none (by omega)]; simp
theorem bytesOf_bytes (s : ByteArray) : Bytes (bytesOf s) := fun x hx => by
  simp only [bytesOf, List.mem_map] at hx
  obtain ⟨b, _, rfl⟩ := hx
  have := b.toNat_lt
  exact ⟨by omega, by omega⟩
/-- the bytes as an array -/
def ofL (l : List Int) : ByteArray := ⟨(l.map fun x => UInt8.ofNat x.toNat).toArray⟩
theorem ofL_size (l : List Int) : (ofL l).size = l.length := by simp [ofL, ByteArray.size]
theorem ofL_get (l : List Int) (h : Bytes l) (j : Nat) (hj : j < l.length) : (((ofL l).get! j).toNat : Int) = rd l j := by
  have h1 := h _ (List.getElem_mem hj)
  simp only [ofL, ByteArray.get!, rd]
  rw [getElem!_pos _ _ (by simpa using hj)]
  simp only [List.getElem_toArray, List.getElem_map, Int.toNat_natCast, List.getD_eq_getElem?_getD, List.getElem?_eq_getElem hj, Option.getD_some]
  have : (UInt8.ofNat l[j].toNat).toNat = l[j].toNat := by simp; omega
  rw [this]; omega
/-- Go's decoder at the head of a list of bytes: the rune and the width -/
def dec (l : List Int) : Int × Int := (((Lib.decodeGo (ofL l)).1 : Nat), ((Lib.decodeGo (ofL l)).2 : Nat))
/-- the rune at the head, if there is one -/
def decR (l : List Int) : Option (Int × Int) := if l = [] then none else if (dec l).1 = 65533 ∧ (dec l).2 ≤ 1 then none else some (dec l)
theorem dec_pos {l : List Int} {r n : Int} (h : decR l = some (r, n)) : 1 ≤ n ∧ n ≤ l.length := by
  unfold decR at h
  by_cases h0 : l = []
  · rw [if_pos h0] at h; cases h
  · rw [if_neg h0] at h
    by_cases h1 : (dec l).1 = 65533 ∧ (dec l).2 ≤ 1
    · rw [if_pos h1] at h; cases h
    · rw [if_neg h1] at h
      obtain ⟨rfl, rfl⟩ := Prod.mk.inj (Option.some.inj h)
      have hl : 0 < l.length := List.length_pos_iff.mpr h0
      simp only [dec, Lib.decodeGo]
      have hs : (ofL l).size = l.length := ofL_size l
      rw [if_neg (by omega), Lib.decode_at]
      simp only [Lib.decodeN]
      repeat' split
      all_goals simp only
      all_goals omega
/-- the runes from the head on, with their places, up to the first that is none -/
def itemsF : Nat → List Int → Int → List (Int × Int)
  | 0, _, _ => []
  | k + 1, l, at_ => match decR l with
    | none => []
    | some (r, n) => (at_, r) :: itemsF k (l.drop n.toNat) (at_ + n)
def items (l : List Int) : List (Int × Int) := itemsF l.length l 0
theorem itemsF_len : ∀ (k : Nat) (l : List Int) (a : Int), (itemsF k l a).length ≤ k
  | 0, _, _ => by simp [itemsF]
  | k + 1, l, a => by
    simp only [itemsF]
    split
    · simp
    · have := itemsF_len k
      simp only [List.length_cons]
      exact Nat.succ_le_succ (this _ _)
theorem items_len (l : List Int) : (items l).length ≤ l.length := itemsF_len _ _ _
theorem runeLen_decodeN (n b0 b1 b2 b3 r m : Nat) (h : Lib.decodeN n b0 b1 b2 b3 = (r, m)) (h1 : ¬ (r = 65533 ∧ m ≤ 1)) : Lib.runeLen r = m := by
  unfold Lib.decodeN at h
  repeat' split at h
  all_goals obtain ⟨rfl, rfl⟩ := Prod.mk.inj h
  all_goals first
    | (exfalso; omega)
    | (unfold Lib.runeLen
       repeat' split
       all_goals omega)
theorem runeLen_dec {l : List Int} {r n : Int} (h : decR l = some (r, n)) : Lib.runeLen r = n := by
  unfold decR at h
  by_cases h0 : l = []
  · rw [if_pos h0] at h; cases h
  · rw [if_neg h0] at h
    by_cases h1 : (dec l).1 = 65533 ∧ (dec l).2 ≤ 1
    · rw [if_pos h1] at h; cases h
    · rw [if_neg h1] at h
      have hl : 0 < l.length := List.length_pos_iff.mpr h0
      have hs : (ofL l).size = l.length := ofL_size l
      have hd : Lib.decodeGo (ofL l) = Lib.decodeN ((ofL l).size - 0) ((ofL l).get! 0).toNat ((ofL l).get! (0 + 1)).toNat ((ofL l).get! (0 + 2)).toNat ((ofL l).get! (0 + 3)).toNat := by
        simp only [Lib.decodeGo]
        rw [if_neg (by omega), Lib.decode_at]
      obtain ⟨rfl, rfl⟩ := Prod.mk.inj (Option.some.inj h)
      simp only [dec] at h1 ⊢
      exact runeLen_decodeN _ _ _ _ _ _ _ hd.symm (by omega)
/-- where the runes end, from the head on: at the end, or at the first that is none -/
def endF : Nat → List Int → Int → Int
  | 0, _, a => a
  | k + 1, l, a => match decR l with
    | none => a
    | some (_, n) => endF k (l.drop n.toNat) (a + n)
/-- the end of the last rune of some -/
def atOf (ys : List (Int × Int)) : Int := match ys.getLast? with
  | none => 0
  | some (i, r) => i + Lib.runeLen r
theorem atOf_cons (x y : Int × Int) (ys : List (Int × Int)) : atOf (x :: y :: ys) = atOf (y :: ys) := by simp [atOf]
theorem endF_items : ∀ (k : Nat) (l : List Int) (a : Int), (itemsF k l a = [] ∧ endF k l a = a) ∨ (itemsF k l a ≠ [] ∧ atOf (itemsF k l a) = endF k l a)
  | 0, l, a => .inl ⟨rfl, rfl⟩
  | k + 1, l, a => by
    cases hd : decR l with
    | none => exact .inl ⟨by simp [itemsF, hd], by simp [endF, hd]⟩
    | some x =>
      obtain ⟨r, n⟩ := x
      refine .inr ?_
      have hr := runeLen_dec hd
      rcases endF_items k (l.drop n.toNat) (a + n) with ⟨h1, h2⟩ | ⟨h1, h2⟩
      · simp [itemsF, endF, hd, h1, h2, atOf, hr]
      · obtain ⟨y, ys, hy⟩ := List.exists_cons_of_ne_nil h1
        refine ⟨by simp [itemsF, hd], ?_⟩
        simp only [itemsF, endF, hd]
        rw [← h2, hy, atOf_cons]
theorem endF_stop : ∀ (k : Nat) (l : List Int) (a : Int), l.length ≤ k → a ≤ endF k l a ∧ endF k l a ≤ a + l.length ∧ decR (l.drop (endF k l a - a).toNat) = none
  | 0, l, a, h => by
    obtain rfl : l = [] := List.length_eq_zero_iff.mp (by omega)
    simp [endF, decR]
  | k + 1, l, a, h => by
    cases hd : decR l with
    | none => simp [endF, hd]; omega
    | some x =>
      obtain ⟨r, n⟩ := x
      obtain ⟨h1, h2⟩ := dec_pos hd
      have hl : (l.drop n.toNat).length ≤ k := by rw [List.length_drop]; omega
      obtain ⟨a1, a2, a3⟩ := endF_stop k (l.drop n.toNat) (a + n) hl
      simp only [endF, hd]
      rw [List.length_drop] at a2
      refine ⟨by omega, by omega, ?_⟩
      rw [List.drop_drop] at a3
      rw [← a3]; congr 2; omega
/-- where the runes of a text end -/
def vend (l : List Int) : Int := atOf (items l)
theorem vend_eq (l : List Int) : vend l = endF l.length l 0 := by
  unfold vend items
  rcases endF_items l.length l 0 with ⟨h1, h2⟩ | ⟨h1, h2⟩
  · rw [h1, h2]; rfl
  · exact h2
theorem vend_stop (l : List Int) : 0 ≤ vend l ∧ vend l ≤ l.length ∧ decR (l.drop (vend l).toNat) = none := by
  rw [vend_eq]
  obtain ⟨h1, h2, h3⟩ := endF_stop l.length l 0 (Nat.le_refl _)
  refine ⟨h1, by omega, ?_⟩
  rw [Int.sub_zero] at h3; exact h3
/-- are these the bytes of runes? -/
def okB (l : List Int) : Bool := decide (l.length ≤ 8000) && decide (vend l = l.length)
end Go.Proofs.YtgmiekggdgmhkaaDoor.Q
end
section
/- Bytes and runes, more: plain laws, no program in them. -/
namespace Go.Proofs.YtgmiekggdgmhkaaDoor.Q
open Go.RowKit Go.Proofs.YtgmiekggdgmhkaaDoorW.PrintWords
set_option linter.unusedSimpArgs false
theorem valid_decodeN (n b0 b1 b2 b3 r m : Nat) (h : Lib.decodeN n b0 b1 b2 b3 = (r, m)) (h1 : ¬ (r = 65533 ∧ m ≤ 1)) : Lib.validRune r = true := by
  unfold Lib.decodeN at h
  repeat' split at h
  all_goals obtain ⟨rfl, rfl⟩ := Prod.mk.inj h
  all_goals first
    | (exfalso; omega)
    | (unfold Lib.validRune; exact decide_eq_true (by omega))
theorem valid_dec {l : List Int} {r n : Int} (h : decR l = some (r, n)) : Lib.validRune r = true := by
  unfold decR at h
  by_cases h0 : l = []
  · rw [if_pos h0] at h; cases h
  · rw [if_neg h0] at h
    by_cases h1 : (dec l).1 = 65533 ∧ (dec l).2 ≤ 1
    · rw [if_pos h1] at h; cases h
    · rw [if_neg h1] at h
      have hl : 0 < l.length := List.length_pos_iff.mpr h0
      have hs : (ofL l).size = l.length := ofL_size l
      have hd : Lib.decodeGo (ofL l) = Lib.decodeN ((ofL l).size - 0) ((ofL l).get! 0).toNat ((ofL l).get! (0 + 1)).toNat ((ofL l).get! (0 + 2)).toNat ((ofL l).get! (0 + 3)).toNat := by
        simp only [Lib.decodeGo]
        rw [if_neg (by omega), Lib.decode_at]
      obtain ⟨rfl, rfl⟩ := Prod.mk.inj (Option.some.inj h)
      simp only [dec] at h1 ⊢
      exact valid_decodeN _ _ _ _ _ (Lib.decodeGo (ofL l)).1 (Lib.decodeGo (ofL l)).2 hd.symm (by omega)
theorem itemsF_valid : ∀ (k : Nat) (l : List Int) (a : Int), ∀ x ∈ itemsF k l a, Lib.validRune x.2 = true
  | 0, _, _ => by simp [itemsF]
  | k + 1, l, a => by
    intro x hx
    simp only [itemsF] at hx
    split at hx
    · simp at hx
    · rename_i r n hd
      rcases List.mem_cons.mp hx with rfl | hx
      · exact valid_dec hd
      · exact itemsF_valid k _ _ x hx
end Go.Proofs.YtgmiekggdgmhkaaDoor.Q
end
