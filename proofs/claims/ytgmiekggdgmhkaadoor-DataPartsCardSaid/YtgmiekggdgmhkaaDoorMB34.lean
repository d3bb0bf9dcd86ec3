import Derived.Test.YtgmiekggdgmhkaaDoorMB16
import Derived.Test.YtgmiekggdgmhkaaDoorMB21
import Derived.Test.YtgmiekggdgmhkaaDoorMB27
import Derived.Test.YtgmiekggdgmhkaaDoorMB30
import Derived.Test.YtgmiekggdgmhkaaDoorMB32
import Derived.Test.YtgmiekggdgmhkaaDoorMB33
import Derived.Test.YtgmiekggdgmhkaaDoorMB5
section
/- The reference's functions on nodes, plainly; Sub and Size of both sides. -/
namespace Go.Proofs.YtgmiekggdgmhkaaDoor.Q
open Go.RowKit Go.Proofs.YtgmiekggdgmhkaaDoorW.PrintWords
set_option linter.unusedVariables false
set_option linter.unusedSimpArgs false
theorem rdT_kids (t : List DN) (j : Nat) (h : j < t.length) : (rd_T51 t j).f1 = rd (kidsOf t) j := by
  simp [rd_T51, rd, kidsOf, List.getD_eq_getElem?_getD, h]
/-- the reference's end, of node i -/
theorem rend_l (t : List DN) (h2 : t.length ≤ 2000) (hnn : ∀ x ∈ t, 0 ≤ x.f1) (hR : InR t) (i : Nat) (hi : i < t.length) (ih : ∀ j, i < j → ∀ m, eat ((kidsOf t).drop j) 1 = some m → Ev (fun k => mummerref04_end.f k t j) ((j + m : Nat) : Int)) :
    ∀ (c next m : Nat), i < next → (c : Int) ≤ rd (kidsOf t) i → eat ((kidsOf t).drop next) c = some m → Ev (fun k => mummerref04_end.l0 k t i next (rd (kidsOf t) i - c)) ((next + m : Nat) : Int)
  | 0, next, m, h1, hc, hm => by
    rw [eat_zero] at hm
    obtain rfl := Option.some.inj hm
    refine Ev.step (f := fun _ => some _) (fun k => ?_) (Ev.now _)
    simp only [mummerref04_end.l0]
    rw [if_pos (by omega), if_pos (by omega), rdT_kids t i hi, if_neg (by omega)]
    rfl
  | c + 1, next, m, h1, hc, hm => by
    have hx0 : 0 ≤ rd (kidsOf t) i := by rw [← rdT_kids t i hi]; simp [rd_T51, List.getD_eq_getElem?_getD, hi]; exact hnn _ (List.getElem_mem _)
    have hx1 : rd (kidsOf t) i ≤ 9223372036854775807 := by rw [← rdT_kids t i hi]; simp [rd_T51, List.getD_eq_getElem?_getD, hi]; exact hR _ (List.getElem_mem _)
    have hst : ∀ k, mummerref04_end.l0 (k + 1) t i next (rd (kidsOf t) i - (c + 1 : Nat)) = (mummerref04_end.f k t next).bind fun b => mummerref04_end.l0 k t i b (rd (kidsOf t) i - c) := fun k => by
      simp only [mummerref04_end.l0]
      rw [if_pos (by omega), if_pos (by omega), rdT_kids t i hi, if_pos (by omega), wrapS _ (by omega) (by omega)]
      rw [show rd (kidsOf t) i - ((c + 1 : Nat) : Int) + 1 = rd (kidsOf t) i - c by omega]
    have hadd : eat ((kidsOf t).drop next) (c + 1) = (eat ((kidsOf t).drop next) 1).bind fun m => (eat (((kidsOf t).drop next).drop m) c).map (m + ·) := by
      rw [show c + 1 = 1 + c by omega]; exact eat_add _ 1 c
    rw [hadd] at hm
    cases he : eat ((kidsOf t).drop next) 1 with
    | none => rw [he] at hm; cases hm
    | some m1 =>
      rw [he] at hm
      simp only [Option.bind_some, List.drop_drop] at hm
      obtain ⟨m2, hm2, rfl⟩ := Option.map_eq_some_iff.mp hm
      have := rend_l t h2 hnn hR i hi ih c (next + m1) m2 (by omega) (by omega) hm2
      rw [Nat.add_assoc] at this
      exact Ev.step hst (Ev.bind (ih next h1 m1 he) this)
theorem rend_all (t : List DN) (h2 : t.length ≤ 2000) (hnn : ∀ x ∈ t, 0 ≤ x.f1) (hR : InR t) : ∀ d i, t.length - i ≤ d → ∀ m, eat ((kidsOf t).drop i) 1 = some m → Ev (fun k => mummerref04_end.f k t i) ((i + m : Nat) : Int) := by
  intro d
  induction d with
  | zero =>
    intro i hd m hm
    have e : (kidsOf t).drop i = [] := List.drop_eq_nil_of_le (by rw [kidsOf_len]; omega)
    rw [e] at hm; cases hm
  | succ d ih =>
    intro i hd m hm
    by_cases hlt : i < t.length
    · rw [eat_one (kidsOf t) i (by rw [kidsOf_len]; exact hlt)] at hm
      obtain ⟨m', hm', rfl⟩ := Option.map_eq_some_iff.mp hm
      have hx0 : 0 ≤ rd (kidsOf t) i := by rw [← rdT_kids t i hlt]; simp [rd_T51, List.getD_eq_getElem?_getD, hlt]; exact hnn _ (List.getElem_mem _)
      have hL := rend_l t h2 hnn hR i hlt (fun j hj m hm => ih j (by omega) m hm) (rd (kidsOf t) i).toNat (i + 1) m' (by omega) (by omega) hm'
      rw [show i + (m' + 1) = i + 1 + m' by omega]
      refine Ev.step (fun k => ?_) hL
      simp only [mummerref04_end.f]
      rw [wrapS _ (by omega) (by omega), show rd (kidsOf t) i - ((rd (kidsOf t) i).toNat : Int) = 0 by omega]
      rfl
    · have e : (kidsOf t).drop i = [] := List.drop_eq_nil_of_le (by rw [kidsOf_len]; omega)
      rw [e] at hm; cases hm
/-- the reference's end of a datum's node -/
theorem rend_ev (t : List DN) (hR : InR t) (h : (chkF t).2 = 0) (i : Nat) (hi : i < t.length) : Ev (fun k => mummerref04_end.f k t i) (endAt (kidsOf t) i : Nat) := by
  obtain ⟨hall, hnn, hne, h400, _⟩ := chkF_ok t hR h
  obtain ⟨m, hm, _, _⟩ := eat_at (kidsOf t) (by rw [kidsOf_len]; exact hall) i (by rw [kidsOf_len]; exact hi)
  rw [endAt_some hm]
  exact rend_all t (by omega) hnn hR t.length i (by omega) m hm
theorem endAt_bd (t : List DN) (hR : InR t) (h : (chkF t).2 = 0) (i : Nat) (hi : i < t.length) : i < endAt (kidsOf t) i ∧ endAt (kidsOf t) i ≤ t.length := by
  obtain ⟨hall, hnn, hne, h400, _⟩ := chkF_ok t hR h
  obtain ⟨m, hm, h1, h2⟩ := eat_at (kidsOf t) (by rw [kidsOf_len]; exact hall) i (by rw [kidsOf_len]; exact hi)
  rw [endAt_some hm]
  rw [kidsOf_len] at h2
  omega
theorem nodeE_ok2 {t : List DN} {i : Int} (h : (chkF t).2 = 0) : nodeE t i = if i < 0 ∨ (t.length : Int) ≤ i then 4 else 0 := if_neg (fun hh => hh h)
theorem nodeE_bad2 {t : List DN} {i : Int} (h : ¬ (chkF t).2 = 0) : nodeE t i = (chkF t).2 := if_pos h
theorem rat_ev (t : List DN) (i : Int) (hR : InR t) : Ev (fun k => mummerref04_at.f k t i) (nodeE t i) := by
  by_cases h : (chkF t).2 = 0
  · rw [nodeE_ok2 h]
    refine Ev.bind (rchk_ev t hR) ?_
    refine Ev.congr (f := fun _ => some (if i < 0 ∨ (t.length : Int) ≤ i then 4 else 0)) (fun k => ?_) (Ev.now _)
    rw [if_pos h]
    by_cases h1 : i < 0
    · rw [if_pos h1, if_pos (Or.inl h1)]
    · by_cases h2 : i ≥ (t.length : Int)
      · rw [if_neg h1, if_pos h2, if_pos (Or.inr h2)]
      · rw [if_neg h1, if_neg h2, if_neg (by omega), h]
  · rw [nodeE_bad2 h]
    exact Ev.bind (rchk_ev t hR) (Ev.congr (f := fun _ => some (chkF t).2) (fun k => if_neg h) (Ev.now _))
theorem nodeE_chk {t : List DN} {i : Int} (h : nodeE t i = 0) : (chkF t).2 = 0 := by
  unfold nodeE at h
  by_cases hh : (chkF t).2 = 0
  · exact hh
  · rw [if_pos hh] at h; exact h
theorem nodeE_in {t : List DN} {i : Int} (h : nodeE t i = 0) : 0 ≤ i ∧ i < t.length := by
  have hc := nodeE_chk h
  unfold nodeE at h
  rw [if_neg (fun hh => hh hc)] at h
  by_cases h2 : i < 0 ∨ (t.length : Int) ≤ i
  · rw [if_pos h2] at h; cases h
  · omega
/-- what Sub answers -/
def subF (t : List DN) (i : Int) : List DN × Int := if nodeE t i ≠ 0 then ([], nodeE t i) else ((t.take (endAt (kidsOf t) i.toNat)).drop i.toNat, 0)
/-- what Size answers -/
def sizeF (t : List DN) (i : Int) : Int × Int := if nodeE t i ≠ 0 then (0, nodeE t i) else ((endAt (kidsOf t) i.toNat : Int) - i, 0)
theorem clone_f (l : List DN) (h : l.length ≤ 100000) : api_DtNode.f l = some l := if_pos h
theorem subF_ok {t : List DN} {i : Int} (h : nodeE t i = 0) : subF t i = ((t.take (endAt (kidsOf t) i.toNat)).drop i.toNat, 0) := if_neg (fun hh => hh h)
theorem subF_bad {t : List DN} {i : Int} (h : ¬ nodeE t i = 0) : subF t i = ([], nodeE t i) := if_pos h
theorem sizeF_ok {t : List DN} {i : Int} (h : nodeE t i = 0) : sizeF t i = ((endAt (kidsOf t) i.toNat : Int) - i, 0) := if_neg (fun hh => hh h)
theorem sizeF_bad {t : List DN} {i : Int} (h : ¬ nodeE t i = 0) : sizeF t i = (0, nodeE t i) := if_pos h
theorem ofF_ok {t : List DN} (h : (chkF t).2 = 0) : ofF t = (t, endsAll (kidsOf t), 0) := if_pos h
theorem endsAll_len (t : List DN) : (endsAll (kidsOf t)).length = t.length := by simp [endsAll, kidsOf]
theorem dsub_ev (t : List DN) (i : Int) (hR : InR t) : Ev (fun k => data_Sub.f k t i) (subF t i) := by
  by_cases h : nodeE t i = 0
  · rw [subF_ok h]
    refine Ev.bind (node_ev t i hR) ?_
    rw [ofF_ok (nodeE_chk h)]
    obtain ⟨h0, h1⟩ := nodeE_in h
    obtain ⟨j, rfl⟩ := Int.eq_ofNat_of_zero_le h0
    have hj : j < t.length := by omega
    obtain ⟨b1, b2⟩ := endAt_bd t hR (nodeE_chk h) j hj
    obtain ⟨_, _, _, h400, _⟩ := chkF_ok t hR (nodeE_chk h)
    refine Ev.congr (f := fun _ => some _) (fun k => ?_) (Ev.now _)
    simp only [rd_ends (kidsOf t) j (by rw [kidsOf_len]; exact hj), endsAll_len]
    rw [if_pos h, if_pos (by omega), if_pos (by omega), if_pos (by omega), if_pos (by omega), clone_f _ (by simp; omega)]
    simp only [Option.bind_some, Int.toNat_natCast]
  · rw [subF_bad h]
    exact Ev.bind (node_ev t i hR) <| Ev.congr (f := fun _ => some ([], nodeE t i)) (fun k => if_neg h) (Ev.now _)
theorem dsize_ev (t : List DN) (i : Int) (hR : InR t) : Ev (fun k => data_Size.f k t i) (sizeF t i) := by
  by_cases h : nodeE t i = 0
  · rw [sizeF_ok h]
    refine Ev.bind (node_ev t i hR) ?_
    rw [ofF_ok (nodeE_chk h)]
    obtain ⟨h0, h1⟩ := nodeE_in h
    obtain ⟨j, rfl⟩ := Int.eq_ofNat_of_zero_le h0
    have hj : j < t.length := by omega
    obtain ⟨b1, b2⟩ := endAt_bd t hR (nodeE_chk h) j hj
    obtain ⟨_, _, _, h400, _⟩ := chkF_ok t hR (nodeE_chk h)
    refine Ev.congr (f := fun _ => some _) (fun k => ?_) (Ev.now _)
    simp only [rd_ends (kidsOf t) j (by rw [kidsOf_len]; exact hj), endsAll_len]
    rw [if_pos h, if_pos (by omega), if_pos (by omega), wrapS _ (by omega) (by omega), Int.toNat_natCast]
  · rw [sizeF_bad h]
    exact Ev.bind (node_ev t i hR) <| Ev.congr (f := fun _ => some (0, nodeE t i)) (fun k => if_neg h) (Ev.now _)
theorem rsub_ev (t : List DN) (i : Int) (hR : InR t) : Ev (fun k => mummerref04_Sub.f k t i) (subF t i) := by
  by_cases h : nodeE t i = 0
  · rw [subF_ok h]
    refine Ev.bind (rat_ev t i hR) ?_
    obtain ⟨h0, h1⟩ := nodeE_in h
    obtain ⟨j, rfl⟩ := Int.eq_ofNat_of_zero_le h0
    have hj : j < t.length := by omega
    obtain ⟨b1, b2⟩ := endAt_bd t hR (nodeE_chk h) j hj
    obtain ⟨_, _, _, h400, _⟩ := chkF_ok t hR (nodeE_chk h)
    refine Ev.congr (fun k => if_pos h) ?_
    simp only [Option.bind_some]
    refine Ev.bind (rend_ev t hR (nodeE_chk h) j hj) ?_
    refine Ev.congr (f := fun _ => some _) (fun k => ?_) (Ev.now _)
    rw [if_pos (by omega), if_pos (by omega), if_pos (by omega)]
    simp only [Option.bind_some, Int.toNat_natCast, List.nil_append]
    rw [if_pos (by simp; omega)]
  · rw [subF_bad h]
    exact Ev.bind (rat_ev t i hR) <| Ev.congr (f := fun _ => some ([], nodeE t i)) (fun k => if_neg h) (Ev.now _)
/-- what is the same list is the same -/
theorem same_l0 (a : List DN) (hl : a.length ≤ 9223372036854775807) : ∀ r pre : List DN, a = pre ++ r → Ev (fun k => mummerref04_Same.l0 k a a (pre.length : Int)) true
  | [], pre, e => Ev.step (f := fun _ => some true) (fun k => by
      simp only [mummerref04_Same.l0]
      rw [if_neg (by rw [e]; simp)]) (Ev.now _)
  | x :: r, pre, e => by
    have h1 : pre.length < a.length := by rw [e]; simp
    refine Ev.step (fun k => ?_) (same_l0 a hl r (pre ++ [x]) (by simp [e]))
    simp only [mummerref04_Same.l0]
    rw [if_pos (by omega), if_pos (by omega), if_pos (by omega), if_neg (by simp), wrapS _ (by omega) (by omega)]
    rw [List.length_append]; rfl
theorem same_ev (a : List DN) (hl : a.length ≤ 9223372036854775807) : Ev (fun k => mummerref04_Same.f k a a) true :=
  Ev.congr (fun k => if_pos rfl) (same_l0 a hl a [] rfl)
end Go.Proofs.YtgmiekggdgmhkaaDoor.Q
end
