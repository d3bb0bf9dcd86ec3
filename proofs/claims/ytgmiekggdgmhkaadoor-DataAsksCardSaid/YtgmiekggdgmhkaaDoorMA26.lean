import Derived.Test.YtgmiekggdgmhkaaDoorMA13
import Derived.Test.YtgmiekggdgmhkaaDoorMA15
import Derived.Test.YtgmiekggdgmhkaaDoorMA18
import Derived.Test.YtgmiekggdgmhkaaDoorMA19
import Derived.Test.YtgmiekggdgmhkaaDoorMA21
import Derived.Test.YtgmiekggdgmhkaaDoorMA24
import Derived.Test.YtgmiekggdgmhkaaDoorMA25
import Derived.Test.YtgmiekggdgmhkaaDoorMA5
section
/- The reference's functions on nodes, plainly; Sub and Size of both sides. -/
namespace Go.Proofs.YtgmiekggdgmhkaaDoor.Q
open Go.RowKit Go.Proofs.YtgmiekggdgmhkaaDoorW.PrintWords
set_option linter.unusedVariables false
set_option linter.unusedSimpArgs false
theorem rdT_kids (t : List DN) (j : Nat) (h : j < t.length) : (rd_T51 t j).f1 = rd (kidsOf t) j := by
  simp [rd_T51, rd, kidsOf, List.getD_eq_getElem?_getD, h]
/-- the reference's end, of node i -/
theorem rend_l (t : List DN) (h2 : t.length ≤ 2000) (hnn : ∀ x ∈ t, 0 ≤ x.f1) (hR : InR t) (i : Nat) (hi : i < t.length) (ih : ∀ j, i < j → ∀ m, eat ((kidsOf t).drop j) 1 = some m → Ev (fun k => mummerref04_end.f k t j) ((j + m : Nat) : Int)) :
    ∀ (c next m : Nat), i < next → (c : Int) ≤ rd (kidsOf t) i → eat ((kidsOf t).drop next) c = some m → Ev (fun k => mummerref04_end.l0 k t i next (rd (kidsOf t) i - c)) ((next + m : Nat) : Int)
  | 0, next, m, h1, hc, hm => by
    rw [eat_zero] at hm
    obtain rfl := Option.some.inj hm
    refine Ev.step (f := fun _ => some _) (fun k => ?_) (Ev.now _)
    simp only [mummerref04_end.l0]
    rw [if_pos (by omega), if_pos (by omega), rdT_kids t i hi, if_neg (by omega)]
    rfl
  | c + 1, next, m, h1, hc, hm => by
    have hx0 : 0 ≤ rd (kidsOf t) i := by rw [← rdT_kids t i hi]; simp [rd_T51, List.getD_eq_getElem?_getD, hi]; exact hnn _ (List.getElem_mem _)
    have hx1 : rd (kidsOf t) i ≤ 9223372036854775807 := by rw [← rdT_kids t i hi]; simp [rd_T51, List.getD_eq_getElem?_getD, hi]; exact hR _ (List.getElem_mem _)
    have hst : ∀ k, mummerref04_end.l0 (k + 1) t i next (rd (kidsOf t) i - (c + 1 : Nat)) = (mummerref04_end.f k t next).bind fun b => mummerref04_end.l0 k t i b (rd (kidsOf t) i - c) := fun k => by
      simp only [mummerref04_end.l0]
      rw [if_pos (by omega), if_pos (by omega), rdT_kids t i hi, if_pos (by omega), wrapS _ (by omega) (by omega)]
      rw [show rd (kidsOf t) i - ((c + 1 : Nat) : Int) + 1 = rd (kidsOf t) i - c by omega]
    have hadd : eat ((kidsOf t).drop next) (c + 1) = (eat ((kidsOf t).drop next) 1).bind fun m => (eat (((kidsOf t).drop next).drop m) c).map (m + ·) := by
      rw [show c + 1 = 1 + c by omega]; exact eat_add _ 1 c
    rw [hadd] at hm
    cases he : eat ((kidsOf t).drop next) 1 with
    | none => rw [he] at hm; cases hm
    | some m1 =>
      rw [he] at hm
      simp only [Option.bind_some, List.drop_drop] at hm
      obtain ⟨m2, hm2, rfl⟩ := Option.map_eq_some_iff.mp hm
      have := rend_l t h2 hnn hR i hi ih c (next + m1) m2 (by omega) (by omega) hm2
      rw [Nat.add_assoc] at this
      exact Ev.step hst (Ev.bind (ih next h1 m1 he) this)
theorem rend_all (t : List DN) (h2 : t.length ≤ 2000) (hnn : ∀ x ∈ t, 0 ≤ x.f1) (hR : InR t) : ∀ d i, t.length - i ≤ d → ∀ m, eat ((kidsOf t).drop i) 1 = some m → Ev (fun k => mummerref04_end.f k t i) ((i + m : Nat) : Int) := by
  intro d
  induction d with
  | zero =>
    intro i hd m hm
    have e : (kidsOf t).drop i = [] := List.drop_eq_nil_of_le (by rw [kidsOf_len]; omega)
    rw [e] at hm; cases hm
  | succ d ih =>
    intro i hd m hm
    by_cases hlt : i < t.length
    · rw [eat_one (kidsOf t) i (by rw [kidsOf_len]; exact hlt)] at hm
      obtain ⟨m', hm', rfl⟩ := Option.map_eq_some_iff.mp hm
      have hx0 : 0 ≤ rd (kidsOf t) i := by rw [← rdT_kids t i hlt]; simp [rd_T51, List.getD_eq_getElem?_getD, hlt]; exact hnn _ (List.getElem_mem _)
      have hL := rend_l t h2 hnn hR i hlt (fun j hj m hm => ih j (by omega) m hm) (rd (kidsOf t) i).toNat (i + 1) m' (by omega) (by omega) hm'
      rw [show i + (m' + 1) = i + 1 + m' by omega]
      refine Ev.step (fun k => ?_) hL
      simp only [mummerref04_end.f]
      rw [wrapS _ (by omega) (by omega), show rd (kidsOf t) i - ((rd (kidsOf t) i).toNat : Int) = 0 by omega]
      rfl
    · have e : (kidsOf t).drop i = [] := List.drop_eq_nil_of_le (by rw [kidsOf_len]; omega)
      rw [e] at hm; cases hm
/-- the reference's end of a datum's node -/
theorem rend_ev (t : List DN) (hR : InR t) (h : (chkF t).2 = 0) (i : Nat) (hi : i < t.length) : Ev (fun k => mummerref04_end.f k t i) (endAt (kidsOf t) i : Nat) := by
  obtain ⟨hall, hnn, hne, h400, _⟩ := chkF_ok t hR h
  obtain ⟨m, hm, _, _⟩ := eat_at (kidsOf t) (by rw [kidsOf_len]; exact hall) i (by rw [kidsOf_len]; exact hi)
  rw [endAt_some hm]
  exact rend_all t (by omega) hnn hR t.length i (by omega) m hm
theorem endAt_bd (t : List DN) (hR : InR t) (h : (chkF t).2 = 0) (i : Nat) (hi : i < t.length) : i < endAt (kidsOf t) i ∧ endAt (kidsOf t) i ≤ t.length := by
  obtain ⟨hall, hnn, hne, h400, _⟩ := chkF_ok t hR h
  obtain ⟨m, hm, h1, h2⟩ := eat_at (kidsOf t) (by rw [kidsOf_len]; exact hall) i (by rw [kidsOf_len]; exact hi)
  rw [endAt_some hm]
  rw [kidsOf_len] at h2
  omega
theorem nodeE_ok2 {t : List DN} {i : Int} (h : (chkF t).2 = 0) : nodeE t i = if i < 0 ∨ (t.length : Int) ≤ i then 4 else 0 := if_neg (fun hh => hh h)
theorem nodeE_bad2 {t : List DN} {i : Int} (h : ¬ (chkF t).2 = 0) : nodeE t i = (chkF t).2 := if_pos h
theorem rat_ev (t : List DN) (i : Int) (hR : InR t) : Ev (fun k => mummerref04_at.f k t i) (nodeE t i) := by
  by_cases h : (chkF t).2 = 0
  · rw [nodeE_ok2 h]
    refine Ev.bind (rchk_ev t hR) ?_
    refine Ev.congr (f := fun _ => some (if i < 0 ∨ (t.length : Int) ≤ i then 4 else 0)) (fun k => ?_) (Ev.now _)
    rw [if_pos h]
    by_cases h1 : i < 0
    · rw [if_pos h1, if_pos (Or.inl h1)]
    · by_cases h2 : i ≥ (t.length : Int)
      · rw [if_neg h1, if_pos h2, if_pos (Or.inr h2)]
      · rw [if_neg h1, if_neg h2, if_neg (by omega), h]
  · rw [nodeE_bad2 h]
    exact Ev.bind (rchk_ev t hR) (Ev.congr (f := fun _ => some (chkF t).2) (fun k => if_neg h) (Ev.now _))
theorem nodeE_chk {t : List DN} {i : Int} (h : nodeE t i = 0) : (chkF t).2 = 0 := by
  unfold nodeE at h
  by_cases hh : (chkF t).2 = 0
  · exact hh
  · rw [if_pos hh] at h; exact h
theorem nodeE_in {t : List DN} {i : Int} (h : nodeE t i = 0) : 0 ≤ i ∧ i < t.length := by
  have hc := nodeE_chk h
  unfold nodeE at h
  rw [if_neg (fun hh => hh hc)] at h
  by_cases h2 : i < 0 ∨ (t.length : Int) ≤ i
  · rw [if_pos h2] at h; cases h
  · omega
/-- what Size answers -/
def sizeF (t : List DN) (i : Int) : Int × Int := if nodeE t i ≠ 0 then (0, nodeE t i) else ((endAt (kidsOf t) i.toNat : Int) - i, 0)
theorem sizeF_ok {t : List DN} {i : Int} (h : nodeE t i = 0) : sizeF t i = ((endAt (kidsOf t) i.toNat : Int) - i, 0) := if_neg (fun hh => hh h)
theorem sizeF_bad {t : List DN} {i : Int} (h : ¬ nodeE t i = 0) : sizeF t i = (0, nodeE t i) := if_pos h
theorem ofF_ok {t : List DN} (h : (chkF t).2 = 0) : ofF t = (t, endsAll (kidsOf t), 0) := if_pos h
theorem endsAll_len (t : List DN) : (endsAll (kidsOf t)).length = t.length := by simp [endsAll, kidsOf]
theorem dsize_ev (t : List DN) (i : Int) (hR : InR t) : Ev (fun k => data_Size.f k t i) (sizeF t i) := by
  by_cases h : nodeE t i = 0
  · rw [sizeF_ok h]
    refine Ev.bind (node_ev t i hR) ?_
    rw [ofF_ok (nodeE_chk h)]
    obtain ⟨h0, h1⟩ := nodeE_in h
    obtain ⟨j, rfl⟩ := Int.eq_ofNat_of_zero_le h0
    have hj : j < t.length := by omega
    obtain ⟨b1, b2⟩ := endAt_bd t hR (nodeE_chk h) j hj
    obtain ⟨_, _, _, h400, _⟩ := chkF_ok t hR (nodeE_chk h)
    refine Ev.congr (f := fun _ => some _) (fun k => ?_) (Ev.now _)
    simp only [rd_ends (kidsOf t) j (by rw [kidsOf_len]; exact hj), endsAll_len]
    rw [if_pos h, if_pos (by omega), if_pos (by omega), wrapS _ (by omega) (by omega), Int.toNat_natCast]
  · rw [sizeF_bad h]
    exact Ev.bind (node_ev t i hR) <| Ev.congr (f := fun _ => some (0, nodeE t i)) (fun k => if_neg h) (Ev.now _)
theorem rsize_ev (t : List DN) (i : Int) (hR : InR t) : Ev (fun k => mummerref04_Size.f k t i) (sizeF t i) := by
  by_cases h : nodeE t i = 0
  · rw [sizeF_ok h]
    refine Ev.bind (rat_ev t i hR) ?_
    obtain ⟨h0, h1⟩ := nodeE_in h
    obtain ⟨j, rfl⟩ := Int.eq_ofNat_of_zero_le h0
    have hj : j < t.length := by omega
    obtain ⟨b1, b2⟩ := endAt_bd t hR (nodeE_chk h) j hj
    obtain ⟨_, _, _, h400, _⟩ := chkF_ok t hR (nodeE_chk h)
    refine Ev.congr (fun k => if_pos h) (Ev.bind (rend_ev t hR (nodeE_chk h) j hj) ?_)
    rw [wrapS _ (by omega) (by omega), Int.toNat_natCast]
    exact Ev.now _
  · rw [sizeF_bad h]
    exact Ev.bind (rat_ev t i hR) <| Ev.congr (f := fun _ => some (0, nodeE t i)) (fun k => if_neg h) (Ev.now _)
end Go.Proofs.YtgmiekggdgmhkaaDoor.Q
end
section
/- Kids, Parent, Depth, Path and At of the reference, plainly. -/
namespace Go.Proofs.YtgmiekggdgmhkaaDoor.Q
open Go.RowKit Go.Proofs.YtgmiekggdgmhkaaDoorW.PrintWords
set_option linter.unusedVariables false
set_option linter.unusedSimpArgs false
theorem whole_of' {t : List DN} (hR : InR t) (h : (chkF t).2 = 0) : Whole (kidsOf t) := by
  have := (chkF_ok t hR h).1
  unfold Whole
  rw [this, kidsOf_len]
/-- a datum, and what is known of it -/
structure Dat (t : List DN) : Prop where
  hR : InR t
  chk : (chkF t).2 = 0
  whole : Whole (kidsOf t)
  pos : 0 < t.length
  l400 : t.length ≤ 400
  nn : ∀ x ∈ t, 0 ≤ x.f1
theorem Dat.mk' {t : List DN} (hR : InR t) (h : (chkF t).2 = 0) : Dat t := by
  obtain ⟨a, b, c, d, _⟩ := chkF_ok t hR h
  exact ⟨hR, h, whole_of' hR h, List.length_pos_iff.mpr c, d, b⟩
theorem Dat.lt {t : List DN} (h : Dat t) {i : Nat} (hi : i < t.length) : i < (kidsOf t).length := by rw [kidsOf_len]; exact hi
theorem Dat.node {t : List DN} (h : Dat t) {i : Nat} (hi : i < t.length) : nodeE t i = 0 := by rw [nodeE_ok2 h.chk, if_neg (by omega)]
theorem Dat.kidN {t : List DN} (h : Dat t) {i : Nat} (hi : i < t.length) : (rd_T51 t i).f1 = (kidN (kidsOf t) i : Nat) := by
  have h0 : 0 ≤ rd (kidsOf t) i := by rw [← rdT_kids t i hi]; simp [rd_T51, List.getD_eq_getElem?_getD, hi]; exact h.nn _ (List.getElem_mem _)
  rw [rdT_kids t i hi]
  unfold Q.kidN; omega
theorem Dat.kid {t : List DN} (h : Dat t) {i j : Nat} (hi : i < t.length) (hj : j < Q.kidN (kidsOf t) i) : i < kth (kidsOf t) (i + 1) j ∧ kth (kidsOf t) (i + 1) j < t.length := by
  have := kth_in h.whole (h.lt hi) hj
  rw [kidsOf_len] at this
  exact ⟨this.1, this.2.2.2⟩
theorem Dat.kids_le {t : List DN} (h : Dat t) {i : Nat} (hi : i < t.length) : Q.kidN (kidsOf t) i ≤ 400 := by
  obtain ⟨m, hm, _, h2⟩ := kid_eat h.whole (h.lt hi)
  have := eat_ge _ _ _ hm
  rw [kidsOf_len] at h2
  have := h.l400
  omega
theorem Dat.end_ev {t : List DN} (h : Dat t) {i : Nat} (hi : i < t.length) : Ev (fun k => mummerref04_end.f k t i) (endAt (kidsOf t) i : Nat) := rend_ev t h.hR h.chk i hi
/-- the children of a node -/
def kidI (t : List DN) (i : Nat) : List Int := (List.range (kidN (kidsOf t) i)).map fun j => (kth (kidsOf t) (i + 1) j : Int)
theorem kidI_len (t : List DN) (i : Nat) : (kidI t i).length = kidN (kidsOf t) i := by simp [kidI]
theorem kidsI_eq {t : List DN} (h : Dat t) {i : Nat} (hi : i < t.length) : kidsI (endsAll (kidsOf t)) i = kidI t i := by
  unfold kidsI
  rw [kidsL_T h.whole (h.lt hi)]
  unfold kidsT kidI
  rw [List.map_map]
  rfl
theorem rd_kidI (t : List DN) (i : Nat) {j : Nat} (hj : j < kidN (kidsOf t) i) : rd (kidI t i) j = (kth (kidsOf t) (i + 1) j : Nat) := by
  simp [rd, kidI, List.getD_eq_getElem?_getD, hj]
theorem rkids_l0 {t : List DN} (h : Dat t) {i : Nat} (hi : i < t.length) : ∀ (d j : Nat) (acc : List Int), j + d = kidN (kidsOf t) i → acc.length = j →
    Ev (fun k => mummerref04_Kids.l0 k t i acc (kth (kidsOf t) (i + 1) j : Nat) j) (acc ++ (List.range' j d).map (fun j => (kth (kidsOf t) (i + 1) j : Int)), 0)
  | 0, j, acc, hj, ha => by
    refine Ev.step (f := fun _ => some (acc ++ (List.range' j 0).map (fun j => (kth (kidsOf t) (i + 1) j : Int)), 0)) (fun k => ?_) (Ev.now _)
    simp only [mummerref04_Kids.l0]
    rw [if_pos (by omega), if_pos (by omega), h.kidN hi, if_neg (by omega)]
    simp
  | d + 1, j, acc, hj, ha => by
    have hle := h.kids_le hi
    obtain ⟨k1, k2⟩ := h.kid hi (j := j) (by omega)
    have := rkids_l0 h hi d (j + 1) (acc ++ [(kth (kidsOf t) (i + 1) j : Int)]) (by omega) (by simp [ha])
    rw [List.append_assoc] at this
    have e : acc ++ (List.range' j (d + 1)).map (fun j => (kth (kidsOf t) (i + 1) j : Int)) = acc ++ ([(kth (kidsOf t) (i + 1) j : Int)] ++ (List.range' (j + 1) d).map (fun j => (kth (kidsOf t) (i + 1) j : Int))) := by rw [List.range'_succ]; rfl
    rw [e]
    have hst : ∀ k, mummerref04_Kids.l0 (k + 1) t i acc (kth (kidsOf t) (i + 1) j : Nat) j = (mummerref04_end.f k t (kth (kidsOf t) (i + 1) j : Nat)).bind fun b => mummerref04_Kids.l0 k t i (acc ++ [(kth (kidsOf t) (i + 1) j : Int)]) b ((j + 1 : Nat) : Int) := fun k => by
      simp only [mummerref04_Kids.l0]
      rw [if_pos (by omega), if_pos (by omega), h.kidN hi, if_pos (by omega), if_pos (by omega), wrapS _ (by omega) (by omega)]
      rfl
    exact Ev.step hst (Ev.bind (h.end_ev k2) this)
theorem kidsF_ok {t : List DN} (h : Dat t) {i : Nat} (hi : i < t.length) : kidsF t i = (kidI t i, 0) := by
  unfold kidsF
  rw [if_neg (fun hh => hh (h.node hi)), Int.toNat_natCast, kidsI_eq h hi]
theorem kidsF_bad {t : List DN} {i : Int} (h : ¬ nodeE t i = 0) : kidsF t i = ([], nodeE t i) := if_pos h
theorem node_cases {t : List DN} (hR : InR t) (i : Int) (h : nodeE t i = 0) : Dat t ∧ ∃ j : Nat, i = j ∧ j < t.length := by
  obtain ⟨h0, h1⟩ := nodeE_in h
  obtain ⟨j, rfl⟩ := Int.eq_ofNat_of_zero_le h0
  exact ⟨Dat.mk' hR (nodeE_chk h), j, rfl, by omega⟩
theorem rkids_ok {t : List DN} (h : Dat t) {i : Nat} (hi : i < t.length) : Ev (fun k => mummerref04_Kids.f k t i) (kidI t i, 0) := by
  have := h.l400
  refine Ev.bind (rat_ev t i h.hR) ?_
  refine Ev.congr (fun k => if_pos (h.node hi)) ?_
  have := rkids_l0 h hi (kidN (kidsOf t) i) 0 [] (by omega) rfl
  rw [← List.range_eq_range', List.nil_append] at this
  rw [wrapS _ (by omega) (by omega)]
  exact this
theorem rkids_ev (t : List DN) (i : Int) (hR : InR t) : Ev (fun k => mummerref04_Kids.f k t i) (kidsF t i) := by
  by_cases h : nodeE t i = 0
  · obtain ⟨hD, j, rfl, hj⟩ := node_cases hR i h
    rw [kidsF_ok hD hj]
    exact rkids_ok hD hj
  · rw [kidsF_bad h]
    exact Ev.bind (rat_ev t i hR) <| Ev.congr (f := fun _ => some ([], nodeE t i)) (fun k => if_neg h) (Ev.now _)
/-! ### Parent -/
def parF (t : List DN) (i : Int) : Int × Int := if nodeE t i ≠ 0 then (0, nodeE t i) else if i = 0 then (0, 4) else (par (kidsOf t) i.toNat, 0)
theorem root_rd {t : List DN} (h : Dat t) : rd (endsAll (kidsOf t)) 0 = t.length := by
  have := rd_ends (kidsOf t) 0 (h.lt h.pos)
  rw [end_root h.whole, kidsOf_len] at this
  exact this
theorem dpar_ev (t : List DN) (i : Int) (hR : InR t) : Ev (fun k => data_Parent.f k t i) (parF t i) := by
  unfold parF
  by_cases h : nodeE t i = 0
  · obtain ⟨hD, j, rfl, hj⟩ := node_cases hR i h
    have h4 := hD.l400
    rw [if_neg (fun hh => hh h)]
    refine Ev.bind (node_ev t j hR) ?_
    rw [ofF_ok hD.chk]
    by_cases e : (j : Int) = 0
    · rw [if_pos e]
      exact Ev.congr (f := fun _ => some (0, 4)) (fun k => by rw [if_pos h, if_pos e]) (Ev.now _)
    · rw [if_neg e, Int.toNat_natCast]
      refine Ev.congr (fun k => by rw [if_pos h, if_neg e]) (Ev.bind (above_ev t (endsAll (kidsOf t)) j (by omega) (by rw [endsAll_len]; exact hj) (by rw [root_rd hD]; omega) (by rw [endsAll_len]; exact h4)) (Ev.now _))
  · rw [if_pos h]
    exact Ev.bind (node_ev t i hR) <| Ev.congr (f := fun _ => some (0, nodeE t i)) (fun k => if_neg h) (Ev.now _)
theorem rpar_l0 {t : List DN} (h : Dat t) {i : Nat} (hi : i < t.length) : ∀ p, p < t.length → Ev (fun k => mummerref04_Parent.l0 k t i p) ((aboveF (endsAll (kidsOf t)) i p : Nat), 0)
  | 0, hp => by
    have h4 := h.l400
    have hst : ∀ k, mummerref04_Parent.l0 (k + 1) t i ((0 : Nat) : Int) = (mummerref04_end.f k t ((0 : Nat) : Int)).bind fun b => if b ≤ (i : Int) then mummerref04_Parent.l0 k t i (wrap64 (((0 : Nat) : Int) - 1)) else some (((0 : Nat) : Int), 0) := fun k => rfl
    refine Ev.step hst (Ev.bind (h.end_ev hp) (Ev.congr (f := fun _ => some (((0 : Nat) : Int), 0)) (fun k => if_neg ?_) (Ev.now _)))
    rw [end_root h.whole, kidsOf_len]; omega
  | p + 1, hp => by
    have h4 := h.l400
    have hst : ∀ k, mummerref04_Parent.l0 (k + 1) t i ((p + 1 : Nat) : Int) = (mummerref04_end.f k t ((p + 1 : Nat) : Int)).bind fun b => if b ≤ (i : Int) then mummerref04_Parent.l0 k t i p else some (((p + 1 : Nat) : Int), 0) := fun k => by
      simp only [mummerref04_Parent.l0]
      rw [wrapS _ (by omega) (by omega), show (((p + 1 : Nat) : Int) - 1) = p by omega]
    refine Ev.step hst (Ev.bind (h.end_ev hp) ?_)
    unfold aboveF
    rw [rd_ends (kidsOf t) (p + 1) (h.lt hp)]
    by_cases e : ((endAt (kidsOf t) (p + 1) : Nat) : Int) ≤ i
    · rw [if_pos e]
      exact Ev.congr (fun k => if_pos e) (rpar_l0 h hi p (by omega))
    · rw [if_neg e]
      exact Ev.congr (f := fun _ => some (((p + 1 : Nat) : Int), 0)) (fun k => if_neg e) (Ev.now _)
theorem rpar_ev (t : List DN) (i : Int) (hR : InR t) : Ev (fun k => mummerref04_Parent.f k t i) (parF t i) := by
  unfold parF
  by_cases h : nodeE t i = 0
  · obtain ⟨hD, j, rfl, hj⟩ := node_cases hR i h
    have h4 := hD.l400
    rw [if_neg (fun hh => hh h)]
    refine Ev.bind (rat_ev t j hR) (Ev.congr (fun k => if_pos h) ?_)
    by_cases e : (j : Int) = 0
    · rw [if_pos e]
      have e2 : ((j : Int) == 0) = true := by rw [e]; rfl
      rw [e2]
      refine Ev.step (fun k => by simp only [mummerref04_Parent.j0]; exact if_pos trivial) (Ev.step (f := fun _ => some (0, 4)) (fun k => by simp only [mummerref04_Parent.j1]; exact if_neg (by decide)) (Ev.now _))
    · rw [if_neg e, Int.toNat_natCast]
      have e2 : ((j : Int) == 0) = false := by simpa using e
      rw [e2, h]
      refine Ev.step (fun k => by simp only [mummerref04_Parent.j0]; exact if_neg (by decide)) (Ev.step (fun k => by simp only [mummerref04_Parent.j1]; exact if_pos trivial) ?_)
      rw [wrapS _ (by omega) (by omega), show (j : Int) - 1 = (j - 1 : Nat) by omega]
      exact rpar_l0 hD hj (j - 1) (by omega)
  · rw [if_pos h]
    exact Ev.bind (rat_ev t i hR) <| Ev.congr (fun k => if_neg h) (Ev.step (fun k => by simp only [mummerref04_Parent.j0]; exact if_neg (by decide)) (Ev.step (f := fun _ => some (0, nodeE t i)) (fun k => by simp only [mummerref04_Parent.j1]; exact if_neg h) (Ev.now _)))
/-! ### Path -/
theorem pathF_ok {t : List DN} (h : Dat t) {i : Nat} (hi : i < t.length) : pathF t i = (pth (kidsOf t) i, 0) := by
  unfold pathF
  rw [if_neg (fun hh => hh (h.node hi)), Int.toNat_natCast]
  rfl
theorem pathF_bad {t : List DN} {i : Int} (h : ¬ nodeE t i = 0) : pathF t i = ([], nodeE t i) := if_pos h
theorem rpath_l0 {t : List DN} (h : Dat t) {i : Nat} (hi : i < t.length) : ∀ (n now : Nat), i - now ≤ n → now ≤ i → i < endAt (kidsOf t) now → Ev (fun k => mummerref04_Path.l0 k t i (pth (kidsOf t) now) now) (pth (kidsOf t) i, 0) := by
  have h4 := h.l400
  intro n
  induction n with
  | zero =>
    intro now hn h1 h2
    obtain rfl : now = i := by omega
    refine Ev.step (f := fun _ => some (pth (kidsOf t) now, 0)) (fun k => ?_) (Ev.now _)
    simp only [mummerref04_Path.l0]
    exact if_pos trivial
  | succ n ih =>
    intro now hn h1 h2
    by_cases e : now = i
    · subst e
      refine Ev.step (f := fun _ => some (pth (kidsOf t) now, 0)) (fun k => ?_) (Ev.now _)
      simp only [mummerref04_Path.l0]
      exact if_pos trivial
    · have hnow : now < t.length := by omega
      obtain ⟨J, c1, c2, c3⟩ := kid_of h.whole (h.lt hnow) (x := i) (by omega) h2
      have hJ := h.kid hnow c1
      have hle := h.kids_le hnow
      have hlen : (pth (kidsOf t) now).length ≤ now := pth_nn h.whole now (h.lt hnow)
      have key : ∀ d j : Nat, j + d = J → Ev (fun k => mummerref04_Path.l1 k t i (pth (kidsOf t) now) (kth (kidsOf t) (now + 1) j : Nat) j) (pth (kidsOf t) i, 0) := by
        intro d
        induction d with
        | zero =>
          intro j hj
          obtain rfl : j = J := by omega
          have := ih (kth (kidsOf t) (now + 1) j) (by omega) c2 c3
          rw [pth_kid h.whole (h.lt hnow) c1] at this
          have hst : ∀ k, mummerref04_Path.l1 (k + 1) t i (pth (kidsOf t) now) (kth (kidsOf t) (now + 1) j : Nat) j = (mummerref04_end.f k t (kth (kidsOf t) (now + 1) j : Nat)).bind fun b => if b ≤ (i : Int) then ((mummerref04_end.f k t (kth (kidsOf t) (now + 1) j : Nat)).bind fun b2 => mummerref04_Path.l1 k t i (pth (kidsOf t) now) b2 (wrap64 ((j : Int) + 1))) else mummerref04_Path.l0 k t i (pth (kidsOf t) now ++ [(j : Int)]) (kth (kidsOf t) (now + 1) j : Nat) := fun k => by
            simp only [mummerref04_Path.l1]
            rw [if_pos (show (pth (kidsOf t) now).length < 17592186044416 by omega)]
          refine Ev.step hst (Ev.bind (h.end_ev hJ.2) (Ev.congr (fun k => if_neg ?_) this))
          rw [kid_end]; omega
        | succ d ihd =>
          intro j hj
          have hk := h.kid hnow (j := j) (by omega)
          have hm := kth_mono h.whole (h.lt hnow) (a := j + 1) (b := J) (by omega) (by omega)
          have hst : ∀ k, mummerref04_Path.l1 (k + 1) t i (pth (kidsOf t) now) (kth (kidsOf t) (now + 1) j : Nat) j = (mummerref04_end.f k t (kth (kidsOf t) (now + 1) j : Nat)).bind fun b => if b ≤ (i : Int) then ((mummerref04_end.f k t (kth (kidsOf t) (now + 1) j : Nat)).bind fun b2 => mummerref04_Path.l1 k t i (pth (kidsOf t) now) b2 (wrap64 ((j : Int) + 1))) else mummerref04_Path.l0 k t i (pth (kidsOf t) now ++ [(j : Int)]) (kth (kidsOf t) (now + 1) j : Nat) := fun k => by
            simp only [mummerref04_Path.l1]
            rw [if_pos (show (pth (kidsOf t) now).length < 17592186044416 by omega)]
          refine Ev.step hst (Ev.bind (h.end_ev hk.2) (Ev.congr (fun k => if_pos ?_) (Ev.bind (h.end_ev hk.2) ?_)))
          · rw [kid_end]; omega
          · rw [kid_end, wrapS _ (by omega) (by omega)]
            exact ihd (j + 1) (by omega)
      refine Ev.step (fun k => ?_) (key J 0 (by omega))
      simp only [mummerref04_Path.l0]
      rw [if_neg (by omega), wrapS _ (by omega) (by omega)]
      rfl
theorem rpath_ok {t : List DN} (h : Dat t) {i : Nat} (hi : i < t.length) : Ev (fun k => mummerref04_Path.f k t i) (pth (kidsOf t) i, 0) := by
  refine Ev.bind (rat_ev t i h.hR) (Ev.congr (fun k => if_pos (h.node hi)) ?_)
  exact rpath_l0 h hi i 0 (by omega) (by omega) (by rw [end_root h.whole, kidsOf_len]; exact hi)
theorem rpath_ev (t : List DN) (i : Int) (hR : InR t) : Ev (fun k => mummerref04_Path.f k t i) (pathF t i) := by
  by_cases h : nodeE t i = 0
  · obtain ⟨hD, j, rfl, hj⟩ := node_cases hR i h
    rw [pathF_ok hD hj]
    exact rpath_ok hD hj
  · rw [pathF_bad h]
    exact Ev.bind (rat_ev t i hR) <| Ev.congr (f := fun _ => some ([], nodeE t i)) (fun k => if_neg h) (Ev.now _)
/-! ### Depth -/
theorem mx_max (a b : Int) : mx a b = max a b := by unfold mx; omega
theorem rdep_l0 {t : List DN} (h : Dat t) : ∀ (d j : Nat) (b : Int), j + d = t.length → Ev (fun k => mummerref04_Depth.l0 k t b j) ((List.range' j d).foldl (fun b j => max b ((pth (kidsOf t) j).length : Int)) b, 0)
  | 0, j, b, hj => by
    refine Ev.step (f := fun _ => some (b, 0)) (fun k => ?_) (Ev.now _)
    simp only [mummerref04_Depth.l0]
    exact if_neg (by omega)
  | d + 1, j, b, hj => by
    have h4 := h.l400
    have := rdep_l0 h d (j + 1) (max b ((pth (kidsOf t) j).length : Int)) (by omega)
    rw [List.range'_succ, List.foldl_cons]
    have hst : ∀ k, mummerref04_Depth.l0 (k + 1) t b j = (mummerref04_Path.f k t j).bind fun bt => mummerref04_Depth.l0 k t (max b (bt.1.length : Int)) ((j + 1 : Nat) : Int) := fun k => by
      simp only [mummerref04_Depth.l0]
      rw [if_pos (by omega), wrapS _ (by omega) (by omega)]
      simp only [mx_max]
      rfl
    exact Ev.step hst (Ev.bind (rpath_ok h (i := j) (by omega)) this)
theorem depF_ok {t : List DN} (h : Dat t) : depF t = ((List.range t.length).foldl (fun b j => max b ((pth (kidsOf t) j).length : Int)) 0, 0) := by
  unfold depF
  rw [if_neg (fun hh => hh h.chk)]
  have := depth_max h.whole
  rw [kidsOf_len] at this
  rw [this]
theorem rdep_ev (t : List DN) (hR : InR t) : Ev (fun k => mummerref04_Depth.f k t) (depF t) := by
  refine Ev.bind (rchk_ev t hR) ?_
  by_cases h : (chkF t).2 = 0
  · have hD := Dat.mk' hR h
    rw [depF_ok hD]
    have := rdep_l0 hD t.length 0 0 (by omega)
    rw [← List.range_eq_range'] at this
    exact Ev.congr (fun k => if_pos h) this
  · have e : depF t = (0, (chkF t).2) := if_pos h
    rw [e]
    exact Ev.congr (f := fun _ => some (0, (chkF t).2)) (fun k => if_neg h) (Ev.now _)
/-! ### At -/
theorem rat_l0 {t : List DN} (h : Dat t) (path : List Int) (hp : path.length ≤ 1000) : ∀ (r pre : List Int) (now : Nat), path = pre ++ r → now < t.length → Ev (fun k => mummerref04_At.l0 k t path now (pre.length : Nat)) (atGo (endsAll (kidsOf t)) r now)
  | [], pre, now, e, hn => by
    refine Ev.step (f := fun _ => some ((now : Int), 0)) (fun k => ?_) (Ev.now _)
    simp only [mummerref04_At.l0]
    exact if_neg (by rw [e]; simp)
  | v :: r, pre, now, e, hn => by
    have hl : pre.length < path.length := by rw [e]; simp
    have hv : rd path pre.length = v := by rw [e]; simp [rd]
    have hst : ∀ k, mummerref04_At.l0 (k + 1) t path now (pre.length : Nat) = (mummerref04_Kids.f k t now).bind fun bt => if v < 0 then some (0, 4) else if v ≥ (bt.1.length : Int) then some (0, 4) else if 0 ≤ v then (if v < (bt.1.length : Int) then mummerref04_At.l0 k t path (rd bt.1 v) ((pre ++ [v]).length : Nat) else none) else none := fun k => by
      simp only [mummerref04_At.l0]
      rw [if_pos (by omega), hv, wrapS _ (by omega) (by omega), List.length_append]
      simp only [if_pos (show (0 : Int) ≤ (pre.length : Int) by omega)]
      rfl
    refine Ev.step hst (Ev.bind (rkids_ok h hn) ?_)
    simp only [kidI_len, atGo]
    rw [kidsL_T h.whole (h.lt hn), find_T]
    by_cases e1 : 0 ≤ v ∧ v < kidN (kidsOf t) now
    · rw [if_pos e1]
      obtain ⟨j, rfl⟩ := Int.eq_ofNat_of_zero_le e1.1
      have hj : j < kidN (kidsOf t) now := by omega
      have := rat_l0 h path hp r (pre ++ [(j : Int)]) (kth (kidsOf t) (now + 1) j) (by simp [e]) (h.kid hn hj).2
      simp only [Int.toNat_natCast]
      refine Ev.congr (fun k => ?_) this
      rw [if_neg (by omega), if_neg (by omega), if_pos (by omega), if_pos (by omega), rd_kidI t now hj]
    · rw [if_neg e1]
      refine Ev.congr (f := fun _ => some (0, 4)) (fun k => ?_) (Ev.now _)
      by_cases e2 : v < 0
      · rw [if_pos e2]
      · rw [if_neg e2, if_pos (by omega)]
theorem rat_path_ev (t : List DN) (path : List Int) (hR : InR t) (hp : path.length ≤ 1000) : Ev (fun k => mummerref04_At.f k t path) (atF t path) := by
  refine Ev.bind (rchk_ev t hR) ?_
  by_cases h : (chkF t).2 = 0
  · have hD := Dat.mk' hR h
    have e : atF t path = atGo (endsAll (kidsOf t)) path 0 := if_neg (fun hh => hh h)
    rw [e]
    exact Ev.congr (fun k => if_pos h) (rat_l0 hD path hp path [] 0 rfl hD.pos)
  · have e : atF t path = (0, (chkF t).2) := if_pos h
    rw [e]
    exact Ev.congr (f := fun _ => some (0, (chkF t).2)) (fun k => if_neg h) (Ev.now _)
end Go.Proofs.YtgmiekggdgmhkaaDoor.Q
end
section
/- DataAsks: the printed law comes to true. -/
namespace Go.Proofs.YtgmiekggdgmhkaaDoor.Q
open Go.RowKit Go.Proofs.YtgmiekggdgmhkaaDoorW.PrintWords
set_option linter.unusedVariables false
set_option linter.unusedSimpArgs false
theorem kidsF_len (t : List DN) (i : Int) (hR : InR t) : (kidsF t i).1.length ≤ 400 := by
  by_cases h : nodeE t i = 0
  · obtain ⟨hD, j, rfl, hj⟩ := node_cases hR i h
    rw [kidsF_ok hD hj, kidI_len]
    exact hD.kids_le hj
  · rw [kidsF_bad h]; simp
theorem pathF_len (t : List DN) (i : Int) (hR : InR t) : (pathF t i).1.length ≤ 400 := by
  by_cases h : nodeE t i = 0
  · obtain ⟨hD, j, rfl, hj⟩ := node_cases hR i h
    rw [pathF_ok hD hj]
    have := pth_nn hD.whole j (hD.lt hj)
    have := hD.l400
    show (pth (kidsOf t) j).length ≤ 400
    omega
  · rw [pathF_bad h]; simp
theorem ints_same (a : List Int) (hl : a.length ≤ 400) : Ev (fun k => mummerref04_Ints.f k a a) true := by
  have := ints_ev a a (by omega)
  rw [decide_eq_true rfl] at this
  exact this
theorem asks_j2 (t : List DN) (i : Int) (path : List Int) (hR : InR t) (hp : path.length ≤ 50) : Ev (fun k => mummerlaw04_DataAsks.j2 k t i path false) true := by
  refine Ev.step (fun k => by simp only [mummerlaw04_DataAsks.j2]; exact if_neg (by simp)) ?_
  have hin : inR t = true := (inR_iff t).mpr hR
  have e1 : data_Path.f t i = some (pathF t i) := if_pos hin
  have e2 : data_At.f t path = some (atF t path) := if_pos hin
  rw [e1, e2]
  simp only [Option.bind_some]
  refine Ev.bind (rpath_ev t i hR) (Ev.bind (rat_path_ev t path hR (by omega)) (Ev.bind (ints_same _ (pathF_len t i hR)) ?_))
  exact Ev.congr (fun k => by rw [if_pos rfl, if_pos rfl, if_pos rfl, if_pos rfl]) (Ev.bind shown_ev (Ev.now true))
theorem asks_j1 (t : List DN) (i : Int) (path : List Int) (hR : InR t) (hp : path.length ≤ 50) : Ev (fun k => mummerlaw04_DataAsks.j1 k t i path false) true := by
  refine Ev.step (fun k => by simp only [mummerlaw04_DataAsks.j1]; exact if_neg (by simp)) ?_
  have hin : inR t = true := (inR_iff t).mpr hR
  have e1 : data_Depth.f t = some (depF t) := if_pos hin
  rw [e1]
  simp only [Option.bind_some]
  refine Ev.bind (dpar_ev t i hR) (Ev.bind (rpar_ev t i hR) (Ev.bind (rdep_ev t hR) ?_))
  refine Ev.congr (fun k => by rw [if_pos rfl, if_pos rfl, if_pos rfl]) ?_
  simp only [bne_self_eq_false]
  exact asks_j2 t i path hR hp
theorem asks_j0 (t : List DN) (i : Int) (path : List Int) (hR : InR t) (hp : path.length ≤ 50) : Ev (fun k => mummerlaw04_DataAsks.j0 k t i path false) true := by
  refine Ev.step (fun k => by simp only [mummerlaw04_DataAsks.j0]; exact if_neg (by simp)) ?_
  have hin : inR t = true := (inR_iff t).mpr hR
  have e1 : data_Kids.f t i = some (kidsF t i) := if_pos hin
  rw [e1]
  simp only [Option.bind_some]
  refine Ev.bind (dsize_ev t i hR) (Ev.bind (rsize_ev t i hR) (Ev.bind (rkids_ev t i hR) ?_))
  refine Ev.congr (fun k => by rw [if_pos rfl, if_pos rfl]) (Ev.bind (ints_same _ (kidsF_len t i hR)) ?_)
  refine Ev.congr (fun k => if_pos rfl) ?_
  simp only [bne_self_eq_false]
  exact asks_j1 t i path hR hp
theorem asks_jt (t : List DN) (i : Int) (path : List Int) : Ev (fun k => mummerlaw04_DataAsks.j0 k t i path true) true :=
  Ev.step (fun k => by simp only [mummerlaw04_DataAsks.j0]; exact if_pos trivial) (Ev.bind shown_ev (Ev.now true))
theorem asks_pure (t : List DN) (i : Int) (path : List Int) (wt : WfT t) (wi : WfI .i64 i) (wp : WfL (WfI .i64) path) : Ev (fun k => mummerlaw04_DataAsks.f k t i path) true := by
  refine Ev.bind (far_ev t) ?_
  cases hf : farB t with
  | true => exact Ev.congr (fun k => if_pos rfl) (asks_jt t i path)
  | false =>
    refine Ev.congr (fun k => if_neg (by decide)) ?_
    by_cases h : (path.length : Int) > 50
    · rw [decide_eq_true h]; exact asks_jt t i path
    · rw [decide_eq_false h]; exact asks_j0 t i path (inR_of wt) (by omega)
end Go.Proofs.YtgmiekggdgmhkaaDoor.Q
end
