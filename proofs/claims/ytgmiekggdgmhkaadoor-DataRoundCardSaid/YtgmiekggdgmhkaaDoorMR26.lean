import Derived.Test.YtgmiekggdgmhkaaDoorMR13
import Derived.Test.YtgmiekggdgmhkaaDoorMR15
import Derived.Test.YtgmiekggdgmhkaaDoorMR18
import Derived.Test.YtgmiekggdgmhkaaDoorMR19
import Derived.Test.YtgmiekggdgmhkaaDoorMR21
import Derived.Test.YtgmiekggdgmhkaaDoorMR22
import Derived.Test.YtgmiekggdgmhkaaDoorMR23
import Derived.Test.YtgmiekggdgmhkaaDoorMR25
import Derived.Test.YtgmiekggdgmhkaaDoorMR5
section
/- Plain laws of what the chapter's statements compare by: Far, Ints, Same. -/
namespace Go.Proofs.YtgmiekggdgmhkaaDoor.Q
open Go.RowKit Go.Proofs.YtgmiekggdgmhkaaDoorW.PrintWords
set_option linter.unusedVariables false
set_option linter.unusedSimpArgs false
theorem i64_max {n : Int} (h : WfI .i64 n) : -9223372036854775808 ≤ n ∧ n ≤ 9223372036854775807 := by simpa [WfI, Lit.wf, IntKind.min, IntKind.max, IntKind.signed, IntKind.bits] using h
abbrev DN := S51
abbrev WfT (t : List DN) : Prop := WfL Wf51 t
theorem inR_of {t : List DN} (h : WfT t) : InR t := fun x hx => (i64_max (h.2 x hx).2.1).2
def farB (t : List DN) : Bool := decide (410 < t.length) || t.any fun x => decide (100 < x.f3.size)
theorem far_l0 (t : List DN) (ht : t.length ≤ 410) : ∀ r pre : List DN, t = pre ++ r → Ev (fun k => mummerlaw04_Far.l0 k t (pre.length : Int)) (r.any fun x => decide (100 < x.f3.size))
  | [], pre, e => Ev.step (f := fun _ => some false) (fun k => by
      simp only [mummerlaw04_Far.l0]
      rw [if_neg (by rw [e]; simp)]) (Ev.now _)
  | x :: r, pre, e => by
    have hl : pre.length < t.length := by rw [e]; simp
    have hx : rd_T51 t pre.length = x := by rw [e]; exact rd_pre pre r x
    have hst : ∀ k, mummerlaw04_Far.l0 (k + 1) t (pre.length : Int) = if (x.f3.size : Int) > 100 then some true else mummerlaw04_Far.l0 k t ((pre ++ [x]).length : Nat) := fun k => by
      simp only [mummerlaw04_Far.l0]
      rw [if_pos (by omega), if_pos (by omega), hx, wrapS _ (by omega) (by omega)]
      rw [List.length_append]; rfl
    by_cases h : (x.f3.size : Int) > 100
    · have h' : 100 < x.f3.size := by omega
      simp only [List.any_cons, decide_eq_true h', Bool.true_or]
      exact Ev.step (f := fun _ => some true) (fun k => by rw [hst, if_pos h]) (Ev.now _)
    · have h' : ¬ 100 < x.f3.size := by omega
      simp only [List.any_cons, decide_eq_false h', Bool.false_or]
      exact Ev.step (fun k => by rw [hst, if_neg h]) (far_l0 t ht r (pre ++ [x]) (by simp [e]))
theorem far_ev (t : List DN) : Ev (fun k => mummerlaw04_Far.f k t) (farB t) := by
  unfold farB
  by_cases h : 410 < t.length
  · rw [decide_eq_true h, Bool.true_or]
    exact Ev.congr (f := fun _ => some true) (fun k => if_pos (by omega)) (Ev.now _)
  · rw [decide_eq_false h, Bool.false_or]
    exact Ev.congr (fun k => if_neg (by omega)) (far_l0 t (by omega) t [] rfl)
end Go.Proofs.YtgmiekggdgmhkaaDoor.Q
end
section
/- The reference's functions on nodes, plainly; Sub and Size of both sides. -/
namespace Go.Proofs.YtgmiekggdgmhkaaDoor.Q
open Go.RowKit Go.Proofs.YtgmiekggdgmhkaaDoorW.PrintWords
set_option linter.unusedVariables false
set_option linter.unusedSimpArgs false
theorem rdT_kids (t : List DN) (j : Nat) (h : j < t.length) : (rd_T51 t j).f1 = rd (kidsOf t) j := by
  simp [rd_T51, rd, kidsOf, List.getD_eq_getElem?_getD, h]
theorem endAt_bd (t : List DN) (hR : InR t) (h : (chkF t).2 = 0) (i : Nat) (hi : i < t.length) : i < endAt (kidsOf t) i ∧ endAt (kidsOf t) i ≤ t.length := by
  obtain ⟨hall, hnn, hne, h400, _⟩ := chkF_ok t hR h
  obtain ⟨m, hm, h1, h2⟩ := eat_at (kidsOf t) (by rw [kidsOf_len]; exact hall) i (by rw [kidsOf_len]; exact hi)
  rw [endAt_some hm]
  rw [kidsOf_len] at h2
  omega
theorem nodeE_ok2 {t : List DN} {i : Int} (h : (chkF t).2 = 0) : nodeE t i = if i < 0 ∨ (t.length : Int) ≤ i then 4 else 0 := if_neg (fun hh => hh h)
theorem nodeE_chk {t : List DN} {i : Int} (h : nodeE t i = 0) : (chkF t).2 = 0 := by
  unfold nodeE at h
  by_cases hh : (chkF t).2 = 0
  · exact hh
  · rw [if_pos hh] at h; exact h
theorem nodeE_in {t : List DN} {i : Int} (h : nodeE t i = 0) : 0 ≤ i ∧ i < t.length := by
  have hc := nodeE_chk h
  unfold nodeE at h
  rw [if_neg (fun hh => hh hc)] at h
  by_cases h2 : i < 0 ∨ (t.length : Int) ≤ i
  · rw [if_pos h2] at h; cases h
  · omega
/-- what Sub answers -/
def subF (t : List DN) (i : Int) : List DN × Int := if nodeE t i ≠ 0 then ([], nodeE t i) else ((t.take (endAt (kidsOf t) i.toNat)).drop i.toNat, 0)
/-- what Size answers -/
def sizeF (t : List DN) (i : Int) : Int × Int := if nodeE t i ≠ 0 then (0, nodeE t i) else ((endAt (kidsOf t) i.toNat : Int) - i, 0)
theorem clone_f (l : List DN) (h : l.length ≤ 100000) : api_DtNode.f l = some l := if_pos h
theorem subF_ok {t : List DN} {i : Int} (h : nodeE t i = 0) : subF t i = ((t.take (endAt (kidsOf t) i.toNat)).drop i.toNat, 0) := if_neg (fun hh => hh h)
theorem subF_bad {t : List DN} {i : Int} (h : ¬ nodeE t i = 0) : subF t i = ([], nodeE t i) := if_pos h
theorem sizeF_ok {t : List DN} {i : Int} (h : nodeE t i = 0) : sizeF t i = ((endAt (kidsOf t) i.toNat : Int) - i, 0) := if_neg (fun hh => hh h)
theorem sizeF_bad {t : List DN} {i : Int} (h : ¬ nodeE t i = 0) : sizeF t i = (0, nodeE t i) := if_pos h
theorem ofF_ok {t : List DN} (h : (chkF t).2 = 0) : ofF t = (t, endsAll (kidsOf t), 0) := if_pos h
theorem endsAll_len (t : List DN) : (endsAll (kidsOf t)).length = t.length := by simp [endsAll, kidsOf]
theorem dsub_ev (t : List DN) (i : Int) (hR : InR t) : Ev (fun k => data_Sub.f k t i) (subF t i) := by
  by_cases h : nodeE t i = 0
  · rw [subF_ok h]
    refine Ev.bind (node_ev t i hR) ?_
    rw [ofF_ok (nodeE_chk h)]
    obtain ⟨h0, h1⟩ := nodeE_in h
    obtain ⟨j, rfl⟩ := Int.eq_ofNat_of_zero_le h0
    have hj : j < t.length := by omega
    obtain ⟨b1, b2⟩ := endAt_bd t hR (nodeE_chk h) j hj
    obtain ⟨_, _, _, h400, _⟩ := chkF_ok t hR (nodeE_chk h)
    refine Ev.congr (f := fun _ => some _) (fun k => ?_) (Ev.now _)
    simp only [rd_ends (kidsOf t) j (by rw [kidsOf_len]; exact hj), endsAll_len]
    rw [if_pos h, if_pos (by omega), if_pos (by omega), if_pos (by omega), if_pos (by omega), clone_f _ (by simp; omega)]
    simp only [Option.bind_some, Int.toNat_natCast]
  · rw [subF_bad h]
    exact Ev.bind (node_ev t i hR) <| Ev.congr (f := fun _ => some ([], nodeE t i)) (fun k => if_neg h) (Ev.now _)
theorem dsize_ev (t : List DN) (i : Int) (hR : InR t) : Ev (fun k => data_Size.f k t i) (sizeF t i) := by
  by_cases h : nodeE t i = 0
  · rw [sizeF_ok h]
    refine Ev.bind (node_ev t i hR) ?_
    rw [ofF_ok (nodeE_chk h)]
    obtain ⟨h0, h1⟩ := nodeE_in h
    obtain ⟨j, rfl⟩ := Int.eq_ofNat_of_zero_le h0
    have hj : j < t.length := by omega
    obtain ⟨b1, b2⟩ := endAt_bd t hR (nodeE_chk h) j hj
    obtain ⟨_, _, _, h400, _⟩ := chkF_ok t hR (nodeE_chk h)
    refine Ev.congr (f := fun _ => some _) (fun k => ?_) (Ev.now _)
    simp only [rd_ends (kidsOf t) j (by rw [kidsOf_len]; exact hj), endsAll_len]
    rw [if_pos h, if_pos (by omega), if_pos (by omega), wrapS _ (by omega) (by omega), Int.toNat_natCast]
  · rw [sizeF_bad h]
    exact Ev.bind (node_ev t i hR) <| Ev.congr (f := fun _ => some (0, nodeE t i)) (fun k => if_neg h) (Ev.now _)
/-- what is the same list is the same -/
theorem same_l0 (a : List DN) (hl : a.length ≤ 9223372036854775807) : ∀ r pre : List DN, a = pre ++ r → Ev (fun k => mummerref04_Same.l0 k a a (pre.length : Int)) true
  | [], pre, e => Ev.step (f := fun _ => some true) (fun k => by
      simp only [mummerref04_Same.l0]
      rw [if_neg (by rw [e]; simp)]) (Ev.now _)
  | x :: r, pre, e => by
    have h1 : pre.length < a.length := by rw [e]; simp
    refine Ev.step (fun k => ?_) (same_l0 a hl r (pre ++ [x]) (by simp [e]))
    simp only [mummerref04_Same.l0]
    rw [if_pos (by omega), if_pos (by omega), if_pos (by omega), if_neg (by simp), wrapS _ (by omega) (by omega)]
    rw [List.length_append]; rfl
theorem same_ev (a : List DN) (hl : a.length ≤ 9223372036854775807) : Ev (fun k => mummerref04_Same.f k a a) true :=
  Ev.congr (fun k => if_pos rfl) (same_l0 a hl a [] rfl)
end Go.Proofs.YtgmiekggdgmhkaaDoor.Q
end
section
/- Kids, Parent, Depth, Path and At of the reference, plainly. -/
namespace Go.Proofs.YtgmiekggdgmhkaaDoor.Q
open Go.RowKit Go.Proofs.YtgmiekggdgmhkaaDoorW.PrintWords
set_option linter.unusedVariables false
set_option linter.unusedSimpArgs false
theorem whole_of' {t : List DN} (hR : InR t) (h : (chkF t).2 = 0) : Whole (kidsOf t) := by
  have := (chkF_ok t hR h).1
  unfold Whole
  rw [this, kidsOf_len]
/-- a datum, and what is known of it -/
structure Dat (t : List DN) : Prop where
  hR : InR t
  chk : (chkF t).2 = 0
  whole : Whole (kidsOf t)
  pos : 0 < t.length
  l400 : t.length ≤ 400
  nn : ∀ x ∈ t, 0 ≤ x.f1
theorem Dat.mk' {t : List DN} (hR : InR t) (h : (chkF t).2 = 0) : Dat t := by
  obtain ⟨a, b, c, d, _⟩ := chkF_ok t hR h
  exact ⟨hR, h, whole_of' hR h, List.length_pos_iff.mpr c, d, b⟩
theorem Dat.lt {t : List DN} (h : Dat t) {i : Nat} (hi : i < t.length) : i < (kidsOf t).length := by rw [kidsOf_len]; exact hi
theorem Dat.node {t : List DN} (h : Dat t) {i : Nat} (hi : i < t.length) : nodeE t i = 0 := by rw [nodeE_ok2 h.chk, if_neg (by omega)]
theorem Dat.kidN {t : List DN} (h : Dat t) {i : Nat} (hi : i < t.length) : (rd_T51 t i).f1 = (kidN (kidsOf t) i : Nat) := by
  have h0 : 0 ≤ rd (kidsOf t) i := by rw [← rdT_kids t i hi]; simp [rd_T51, List.getD_eq_getElem?_getD, hi]; exact h.nn _ (List.getElem_mem _)
  rw [rdT_kids t i hi]
  unfold Q.kidN; omega
theorem Dat.kid {t : List DN} (h : Dat t) {i j : Nat} (hi : i < t.length) (hj : j < Q.kidN (kidsOf t) i) : i < kth (kidsOf t) (i + 1) j ∧ kth (kidsOf t) (i + 1) j < t.length := by
  have := kth_in h.whole (h.lt hi) hj
  rw [kidsOf_len] at this
  exact ⟨this.1, this.2.2.2⟩
theorem Dat.kids_le {t : List DN} (h : Dat t) {i : Nat} (hi : i < t.length) : Q.kidN (kidsOf t) i ≤ 400 := by
  obtain ⟨m, hm, _, h2⟩ := kid_eat h.whole (h.lt hi)
  have := eat_ge _ _ _ hm
  rw [kidsOf_len] at h2
  have := h.l400
  omega
/-- the children of a node -/
def kidI (t : List DN) (i : Nat) : List Int := (List.range (kidN (kidsOf t) i)).map fun j => (kth (kidsOf t) (i + 1) j : Int)
theorem kidI_len (t : List DN) (i : Nat) : (kidI t i).length = kidN (kidsOf t) i := by simp [kidI]
theorem kidsI_eq {t : List DN} (h : Dat t) {i : Nat} (hi : i < t.length) : kidsI (endsAll (kidsOf t)) i = kidI t i := by
  unfold kidsI
  rw [kidsL_T h.whole (h.lt hi)]
  unfold kidsT kidI
  rw [List.map_map]
  rfl
theorem rd_kidI (t : List DN) (i : Nat) {j : Nat} (hj : j < kidN (kidsOf t) i) : rd (kidI t i) j = (kth (kidsOf t) (i + 1) j : Nat) := by
  simp [rd, kidI, List.getD_eq_getElem?_getD, hj]
theorem kidsF_ok {t : List DN} (h : Dat t) {i : Nat} (hi : i < t.length) : kidsF t i = (kidI t i, 0) := by
  unfold kidsF
  rw [if_neg (fun hh => hh (h.node hi)), Int.toNat_natCast, kidsI_eq h hi]
theorem node_cases {t : List DN} (hR : InR t) (i : Int) (h : nodeE t i = 0) : Dat t ∧ ∃ j : Nat, i = j ∧ j < t.length := by
  obtain ⟨h0, h1⟩ := nodeE_in h
  obtain ⟨j, rfl⟩ := Int.eq_ofNat_of_zero_le h0
  exact ⟨Dat.mk' hR (nodeE_chk h), j, rfl, by omega⟩
/-! ### Parent -/
def parF (t : List DN) (i : Int) : Int × Int := if nodeE t i ≠ 0 then (0, nodeE t i) else if i = 0 then (0, 4) else (par (kidsOf t) i.toNat, 0)
theorem root_rd {t : List DN} (h : Dat t) : rd (endsAll (kidsOf t)) 0 = t.length := by
  have := rd_ends (kidsOf t) 0 (h.lt h.pos)
  rw [end_root h.whole, kidsOf_len] at this
  exact this
theorem dpar_ev (t : List DN) (i : Int) (hR : InR t) : Ev (fun k => data_Parent.f k t i) (parF t i) := by
  unfold parF
  by_cases h : nodeE t i = 0
  · obtain ⟨hD, j, rfl, hj⟩ := node_cases hR i h
    have h4 := hD.l400
    rw [if_neg (fun hh => hh h)]
    refine Ev.bind (node_ev t j hR) ?_
    rw [ofF_ok hD.chk]
    by_cases e : (j : Int) = 0
    · rw [if_pos e]
      exact Ev.congr (f := fun _ => some (0, 4)) (fun k => by rw [if_pos h, if_pos e]) (Ev.now _)
    · rw [if_neg e, Int.toNat_natCast]
      refine Ev.congr (fun k => by rw [if_pos h, if_neg e]) (Ev.bind (above_ev t (endsAll (kidsOf t)) j (by omega) (by rw [endsAll_len]; exact hj) (by rw [root_rd hD]; omega) (by rw [endsAll_len]; exact h4)) (Ev.now _))
  · rw [if_pos h]
    exact Ev.bind (node_ev t i hR) <| Ev.congr (f := fun _ => some (0, nodeE t i)) (fun k => if_neg h) (Ev.now _)
/-! ### Path -/
theorem pathF_ok {t : List DN} (h : Dat t) {i : Nat} (hi : i < t.length) : pathF t i = (pth (kidsOf t) i, 0) := by
  unfold pathF
  rw [if_neg (fun hh => hh (h.node hi)), Int.toNat_natCast]
  rfl
end Go.Proofs.YtgmiekggdgmhkaaDoor.Q
end
section
/- data.List, plainly: what it answers. -/
namespace Go.Proofs.YtgmiekggdgmhkaaDoor.Q
open Go.RowKit Go.Proofs.YtgmiekggdgmhkaaDoorW.PrintWords
set_option linter.unusedVariables false
set_option linter.unusedSimpArgs false
/-- what fits answers -/
def fitsF (t : List DN) : List DN × Int := if (chkF t).2 = 0 then (t, 0) else ([], 3)
theorem dfits_ev (t : List DN) (hR : InR t) : Ev (fun k => data_fits.f k t) (fitsF t) := by
  refine Ev.bind (dchk_ev t hR) ?_
  unfold fitsF
  by_cases h : (chkF t).2 = 0
  · rw [if_pos h, if_pos h]; exact Ev.now _
  · rw [if_neg h, if_neg h]; exact Ev.now _
/-- what List answers, some parts being behind it -/
def listGo : List (List DN) → List DN → List DN × Int
  | [], acc => fitsF acc
  | p :: ps, acc => if (chkF p).2 = 0 then listGo ps (acc ++ p) else ([], (chkF p).2)
def listHead (ps : List (List DN)) : List DN := [(⟨4, (ps.length : Int), 0, (⟨#[]⟩ : ByteArray)⟩ : DN)]
def listF (ps : List (List DN)) : List DN × Int := listGo ps (listHead ps)
theorem inR_app {a b : List DN} (h1 : InR a) (h2 : InR b) : InR (a ++ b) := fun x hx => (List.mem_append.mp hx).elim (h1 x) (h2 x)
theorem rdL_pre (pre r : List (List DN)) (x : List DN) : rd_L3 (pre ++ x :: r) pre.length = x := by simp [rd_L3]
theorem dlist_l0 (ps : List (List DN)) (hRp : ∀ p ∈ ps, InR p) (h60 : ps.length ≤ 1000) : ∀ (r pre : List (List DN)) (acc : List DN), ps = pre ++ r → InR acc → acc.length + (r.map List.length).sum ≤ 501 →
    Ev (fun k => data_List.l0 k acc ps (ps.length : Int) (pre.length : Int)) (listGo r acc)
  | [], pre, acc, e, hR, hl => by
    have hlen : pre.length = ps.length := by rw [e]; simp
    refine Ev.step (fun k => ?_) (Ev.bind (dfits_ev acc hR) (Ev.now (listGo [] acc)))
    simp only [data_List.l0]
    rw [if_neg (by omega)]
  | p :: r, pre, acc, e, hR, hl => by
    have hlt : pre.length < ps.length := by rw [e]; simp
    have hp : rd_L3 ps pre.length = p := by rw [e]; exact rdL_pre pre r p
    have hpm : p ∈ ps := by rw [e]; simp
    have hst : ∀ k, data_List.l0 (k + 1) acc ps (ps.length : Int) (pre.length : Int) = (data_Check.f k p).bind fun b => if b.2 = 0 then (if acc.length + p.length < 3518437208883 then data_List.l0 k (acc ++ p) ps (ps.length : Int) ((pre ++ [p]).length : Nat) else none) else some ([], b.2) := fun k => by
      simp only [data_List.l0]
      rw [if_pos (by omega), if_pos (by omega), if_pos (by omega), hp, wrapS _ (by omega) (by omega)]
      rw [List.length_append]; rfl
    simp at hl
    refine Ev.step hst (Ev.bind (dchk_ev p (hRp p hpm)) ?_)
    unfold listGo
    by_cases h : (chkF p).2 = 0
    · rw [if_pos h]
      refine Ev.congr (fun k => by rw [if_pos h, if_pos (by omega)]) (dlist_l0 ps hRp h60 r (pre ++ [p]) (acc ++ p) (by simp [e]) (inR_app hR (hRp p hpm)) (by simp; omega))
    · rw [if_neg h]
      exact Ev.congr (f := fun _ => some ([], (chkF p).2)) (fun k => if_neg h) (Ev.now _)
theorem inR_head (ps : List (List DN)) (h60 : ps.length ≤ 1000) : InR (listHead ps) := fun x hx => by
  obtain rfl := List.mem_singleton.mp hx
  dsimp only; omega
theorem dlist_ev (ps : List (List DN)) (hRp : ∀ p ∈ ps, InR p) (h60 : ps.length ≤ 1000) (h500 : (ps.map List.length).sum ≤ 500) : Ev (fun k => data_List.f k ps) (listF ps) :=
  dlist_l0 ps hRp h60 ps [] (listHead ps) rfl (inR_head ps h60) (by have : (listHead ps).length = 1 := rfl; omega)
end Go.Proofs.YtgmiekggdgmhkaaDoor.Q
end
section
/- Subtrees of a datum: each is a datum; a list's children, one behind the other, are what is behind its node. Plain laws. -/
namespace Go.Proofs.YtgmiekggdgmhkaaDoor.Q
open Go.RowKit Go.Proofs.YtgmiekggdgmhkaaDoorW.PrintWords
set_option linter.unusedVariables false
set_option linter.unusedSimpArgs false
/-- the one stack is the other one, deeper -/
def Sim (s' s : List Int) : Prop := s' = [] ∨ ∃ a x d base, s' = a ++ [x] ∧ s = a ++ (x + d) :: base ∧ 0 ≤ x ∧ 0 ≤ d
theorem sim_pops : ∀ (a : List Int) (x d : Int) (base : List Int), 0 ≤ x → 0 ≤ d → Sim (pops (a ++ [x])) (pops (a ++ (x + d) :: base))
  | [], x, d, base, hx, hd => by
    by_cases e : x = 0
    · subst e; exact Or.inl rfl
    · have e2 : x + d ≠ 0 := by omega
      refine Or.inr ⟨[], x, d, base, ?_, ?_, hx, hd⟩
      · show pops [x] = [x]
        simp only [pops]; rw [if_neg e]
      · show pops ((x + d) :: base) = (x + d) :: base
        simp only [pops]; rw [if_neg e2]
  | m :: a, x, d, base, hx, hd => by
    by_cases e : m = 0
    · subst e
      exact sim_pops a x d base hx hd
    · refine Or.inr ⟨m :: a, x, d, base, ?_, ?_, hx, hd⟩
      · show pops (m :: (a ++ [x])) = m :: (a ++ [x])
        simp only [pops]; rw [if_neg e]
      · show pops (m :: (a ++ (x + d) :: base)) = m :: (a ++ (x + d) :: base)
        simp only [pops]; rw [if_neg e]
theorem eat_zero_len {l : List Int} {n : Nat} (h : eat l 0 = some n) : n = 0 := by
  rw [eat_zero] at h; exact (Option.some.inj h).symm
/-- a subtree's nodes, with less above them -/
theorem chkGo_sim : ∀ (u v : List DN) (i' i : Int) (s' s : List Int), Sim s' s → StkOk s' → StkOk s → InR (u ++ v) → (chkGo i s (u ++ v)).2 = 0 → eat (kidsOf u) (s'.map Int.toNat).sum = some u.length → (chkGo i' s' u).2 = 0
  | [], v, i', i, s', s, hsim, hs', hs, hR, h, he => by
    have e0 : s' = [] := by
      cases s' with
      | nil => rfl
      | cons m r =>
        have h1 := hs'.1 m (List.mem_cons_self ..)
        have h2 := hs'.2 m r rfl
        obtain ⟨q, hq⟩ : ∃ q, m.toNat = q + 1 := ⟨m.toNat - 1, by omega⟩
        rw [List.map_cons, List.sum_cons, hq, show q + 1 + (r.map Int.toNat).sum = (q + (r.map Int.toNat).sum) + 1 by omega] at he
        cases he
    subst e0
    rfl
  | y :: u, v, i', i, s', s, hsim, hs', hs, hR, h, he => by
    rcases hsim with rfl | ⟨a, x, d, base, rfl, rfl, hx, hd⟩
    · have := eat_zero_len he
      simp at this
    · have hyR : y.f1 ≤ 9223372036854775807 := hR y (by simp)
      have hR' : InR (u ++ v) := fun z hz => hR z (List.mem_cons_of_mem _ hz)
      have step : ∀ (m : Int) (r r' : List Int), a ++ [x] = m :: r → a ++ (x + d) :: base = (m + (if a = [] then d else 0)) :: r' → r.length ≤ r'.length →
          (∀ i' : Int, (aloneF y.f0 y.f1 y.f2 y.f3).1 = 0 → Sim (pops (y.f1 :: (m - 1) :: r)) (pops (y.f1 :: (m + (if a = [] then d else 0) - 1) :: r'))) → (chkGo i' (a ++ [x]) (y :: u)).2 = 0 := by
        intro m r r' e1 e2 hlen hpop
        have hm := hs'.1 m (by rw [e1]; exact List.mem_cons_self ..)
        have hm0 := hs'.2 m r e1
        rw [e1] at he hs' ⊢
        rw [e2] at h hs
        rw [List.cons_append] at h
        simp only [chkGo] at h ⊢
        by_cases h1 : (aloneF y.f0 y.f1 y.f2 y.f3).1 ≠ 0
        · rw [if_pos h1] at h; simp at h
        rw [if_neg h1] at h ⊢
        by_cases h2 : 33 < r'.length + 1
        · rw [if_pos h2] at h; simp at h
        rw [if_neg h2] at h
        rw [if_neg (show ¬ 33 < r.length + 1 by omega)]
        by_cases h3 : (aloneF y.f0 y.f1 y.f2 y.f3).2 ≠ 0
        · rw [if_pos h3] at h; exact absurd h h3
        rw [if_neg h3] at h ⊢
        have hk0 := alone_kids y (Decidable.not_not.mp h1)
        refine chkGo_sim u v (i' + 1) (i + 1) _ _ (hpop i' (Decidable.not_not.mp h1)) (hs'.next hk0 hyR) (hs.next hk0 hyR) hR' h ?_
        rw [pops_sum]
        obtain ⟨q, hq⟩ : ∃ q, m.toNat = q + 1 := ⟨m.toNat - 1, by omega⟩
        rw [List.map_cons, List.sum_cons, hq, show q + 1 + (r.map Int.toNat).sum = (q + (r.map Int.toNat).sum) + 1 by omega] at he
        simp only [kidsOf, List.map_cons, eat] at he
        obtain ⟨z, hz, hz2⟩ := Option.map_eq_some_iff.mp he
        have e4 : (m - 1).toNat = q := by omega
        simp only [List.map_cons, List.sum_cons, e4]
        rw [show y.f1.toNat + (q + (r.map Int.toNat).sum) = q + (r.map Int.toNat).sum + y.f1.toNat by omega]
        simp only [List.length_cons] at hz2
        unfold kidsOf
        rw [hz]; congr 1; omega
      cases a with
      | nil =>
        refine step x [] base rfl (by simp) (by simp) (fun _ ha => ?_)
        have hx1 := hs'.2 x [] rfl
        rw [if_pos rfl]
        have := sim_pops [y.f1] (x - 1) d base (by omega) hd
        rw [show x + d - 1 = x - 1 + d by omega]
        exact this
      | cons m a =>
        refine step m (a ++ [x]) (a ++ (x + d) :: base) rfl (by simp) (by simp) (fun _ ha => ?_)
        rw [if_neg (by simp)]
        have := sim_pops (y.f1 :: (m - 1) :: a) x d base hx hd
        rw [show m + 0 - 1 = m - 1 by omega]
        exact this
theorem chkGo_pre : ∀ (u v : List DN) (i : Int) (s : List Int), StkOk s → InR (u ++ v) → (chkGo i s (u ++ v)).2 = 0 → ∃ s1, StkOk s1 ∧ (chkGo (i + u.length) s1 v).2 = 0 ∧ ∀ x ∈ u, (aloneF x.f0 x.f1 x.f2 x.f3).1 = 0 ∧ (aloneF x.f0 x.f1 x.f2 x.f3).2 = 0
  | [], v, i, s, hs, hR, h => ⟨s, hs, by simpa using h, fun x hx => by simp at hx⟩
  | y :: u, v, i, [], hs, hR, h => by
    rw [List.cons_append] at h
    simp [chkGo] at h
  | y :: u, v, i, m :: s, hs, hR, h => by
    rw [List.cons_append] at h
    simp only [chkGo] at h
    by_cases h1 : (aloneF y.f0 y.f1 y.f2 y.f3).1 ≠ 0
    · rw [if_pos h1] at h; simp at h
    rw [if_neg h1] at h
    by_cases h2 : 33 < s.length + 1
    · rw [if_pos h2] at h; simp at h
    rw [if_neg h2] at h
    by_cases h3 : (aloneF y.f0 y.f1 y.f2 y.f3).2 ≠ 0
    · rw [if_pos h3] at h; exact absurd h h3
    rw [if_neg h3] at h
    have hk0 := alone_kids y (Decidable.not_not.mp h1)
    obtain ⟨s1, a, b, c⟩ := chkGo_pre u v (i + 1) _ (hs.next hk0 (hR y (by simp))) (fun z hz => hR z (List.mem_cons_of_mem _ hz)) h
    refine ⟨s1, a, ?_, fun x hx => ?_⟩
    · rw [List.length_cons, show i + ((u.length + 1 : Nat) : Int) = i + 1 + u.length by omega]; exact b
    · rcases List.mem_cons.mp hx with rfl | hx
      · exact ⟨Decidable.not_not.mp h1, Decidable.not_not.mp h3⟩
      · exact c x hx
theorem eat_take : ∀ {l : List Int} {c m : Nat}, eat l c = some m → eat (l.take m) c = some m
  | l, 0, m, h => by rw [eat_zero] at h ⊢; exact h
  | [], c + 1, m, h => by cases h
  | k :: ks, c + 1, m, h => by
    simp only [eat] at h
    obtain ⟨x, hx, rfl⟩ := Option.map_eq_some_iff.mp h
    rw [List.take_succ_cons]
    simp only [eat]
    rw [eat_take hx]; rfl
theorem whole_of {t : List DN} (hR : InR t) (h : (chkF t).2 = 0) : Whole (kidsOf t) := by
  have := (chkF_ok t hR h).1
  unfold Whole
  rw [this, kidsOf_len]
/-- a datum's nodes, each of its own -/
theorem chkF_alone {t : List DN} (hR : InR t) (h : (chkF t).2 = 0) (x : DN) (hx : x ∈ t) : (aloneF x.f0 x.f1 x.f2 x.f3).1 = 0 ∧ (aloneF x.f0 x.f1 x.f2 x.f3).2 = 0 := by
  have h0 := h
  unfold chkF at h0
  obtain ⟨_, _, hne, h400, _⟩ := chkF_ok t hR h
  rw [if_neg hne, if_neg (by omega)] at h0
  rw [← List.append_nil t] at h0
  obtain ⟨_, _, _, c⟩ := chkGo_pre t [] 0 [1] ⟨by simp, by simp⟩ (by rw [List.append_nil]; exact hR) h0
  exact c x hx
/-- the subtree of a node -/
def subL (t : List DN) (i : Nat) : List DN := (t.take (endAt (kidsOf t) i)).drop i
theorem subL_len {t : List DN} (hR : InR t) (h : (chkF t).2 = 0) {i : Nat} (hi : i < t.length) : (subL t i).length = endAt (kidsOf t) i - i := by
  obtain ⟨a, b⟩ := endAt_bd t hR h i hi
  simp [subL]; omega
theorem inR_sub {t : List DN} (hR : InR t) (i : Nat) : InR (subL t i) := fun x hx => hR x (List.mem_of_mem_take (List.mem_of_mem_drop hx))
theorem kids_sub (t : List DN) (i : Nat) : kidsOf (subL t i) = ((kidsOf t).drop i).take (endAt (kidsOf t) i - i) := by
  unfold kidsOf subL
  rw [List.map_drop, List.map_take, List.drop_take]
  rfl
/-- the subtree of a datum's node is a datum -/
theorem chkF_sub {t : List DN} (hR : InR t) (h : (chkF t).2 = 0) {i : Nat} (hi : i < t.length) : (chkF (subL t i)).2 = 0 := by
  obtain ⟨_, _, hne, h400, _⟩ := chkF_ok t hR h
  have hW := whole_of hR h
  have hik : i < (kidsOf t).length := by rw [kidsOf_len]; exact hi
  obtain ⟨b1, b2⟩ := endAt_bd t hR h i hi
  have hl := subL_len hR h hi
  obtain ⟨m, hm, m1, m2⟩ := eat_at (kidsOf t) hW i hik
  have hend := endAt_some hm
  have h0 := h
  unfold chkF at h0 ⊢
  rw [if_neg hne, if_neg (by omega)] at h0
  rw [if_neg (by intro e; rw [e] at hl; simp at hl; omega), if_neg (by omega)]
  have hcut : t = t.take i ++ (subL t i ++ t.drop (endAt (kidsOf t) i)) := by
    conv => lhs; rw [← List.take_append_drop (endAt (kidsOf t) i) t, ← List.take_append_drop i (t.take (endAt (kidsOf t) i))]
    rw [List.take_take, Nat.min_eq_left (by omega), List.append_assoc]
    rfl
  rw [hcut] at h0
  have hR2 : InR (t.take i ++ (subL t i ++ t.drop (endAt (kidsOf t) i))) := by rw [← hcut]; exact hR
  obtain ⟨s1, g1, g2, _⟩ := chkGo_pre _ _ 0 [1] ⟨by simp, by simp⟩ hR2 h0
  have hR3 : InR (subL t i ++ t.drop (endAt (kidsOf t) i)) := fun x hx => hR2 x (List.mem_append_right _ hx)
  have hne2 : subL t i ++ t.drop (endAt (kidsOf t) i) ≠ [] := by
    intro e
    have := congrArg List.length e
    rw [List.length_append, hl] at this
    simp at this; omega
  cases s1 with
  | nil =>
    cases hc : subL t i ++ t.drop (endAt (kidsOf t) i) with
    | nil => exact absurd hc hne2
    | cons y r => rw [hc] at g2; simp [chkGo] at g2
  | cons q base =>
    have q1 := g1.1 q (List.mem_cons_self ..)
    have q2 := g1.2 q base rfl
    refine chkGo_sim (subL t i) _ 0 _ [1] (q :: base) (Or.inr ⟨[], 1, q - 1, base, rfl, ?_, by omega, by omega⟩) ⟨by simp, by simp⟩ g1 hR3 g2 ?_
    · show q :: base = (1 + (q - 1)) :: base
      rw [show 1 + (q - 1) = q by omega]
    · rw [kids_sub, hl, hend, show i + m - i = m by omega]
      exact eat_take hm
/-- the children's subtrees, one behind the other -/
theorem subs_flat {t : List DN} (hR : InR t) (h : (chkF t).2 = 0) {i : Nat} (hi : i < t.length) : ∀ c, c ≤ kidN (kidsOf t) i → ((List.range c).map fun j => subL t (kth (kidsOf t) (i + 1) j)).flatten = (t.take (kth (kidsOf t) (i + 1) c)).drop (i + 1)
  | 0, _ => by
    simp only [kth, List.range_zero, List.map_nil, List.flatten_nil]
    rw [List.drop_eq_nil_of_le (by simp; omega)]
  | c + 1, hc => by
    have hW := whole_of hR h
    have hik : i < (kidsOf t).length := by rw [kidsOf_len]; exact hi
    obtain ⟨a1, a2, a3, a4⟩ := kth_in hW hik (j := c) (by omega)
    rw [kidsOf_len] at a4
    have hend := end_lt hW hik
    rw [kidsOf_len] at hend
    rw [List.range_succ, List.map_append, List.flatten_append, subs_flat hR h hi c (by omega)]
    simp only [List.map_cons, List.map_nil, List.flatten_cons, List.flatten_nil, List.append_nil]
    unfold subL
    rw [kid_end]
    generalize kth (kidsOf t) (i + 1) c = a at *
    generalize kth (kidsOf t) (i + 1) (c + 1) = b at *
    rw [List.drop_take, List.drop_take, List.drop_take, show b - (i + 1) = (a - (i + 1)) + (b - a) by omega, List.take_add, List.drop_drop, show i + 1 + (a - (i + 1)) = a by omega]
/-- a subtree: its node, and what is below -/
theorem subL_cons {t : List DN} (hR : InR t) (h : (chkF t).2 = 0) {i : Nat} (hi : i < t.length) : subL t i = t[i] :: ((List.range (kidN (kidsOf t) i)).map fun j => subL t (kth (kidsOf t) (i + 1) j)).flatten := by
  have hW := whole_of hR h
  have hik : i < (kidsOf t).length := by rw [kidsOf_len]; exact hi
  obtain ⟨b1, b2⟩ := endAt_bd t hR h i hi
  rw [subs_flat hR h hi _ (Nat.le_refl _), kth_last hW hik]
  unfold subL
  rw [List.drop_eq_getElem_cons (i := i) (by simp; omega)]
  congr 1
  rw [List.getElem_take]
/-- List of parts that are data -/
theorem listGo_ok : ∀ (ps : List (List DN)) (acc : List DN), (∀ p ∈ ps, (chkF p).2 = 0) → listGo ps acc = fitsF (acc ++ ps.flatten)
  | [], acc, _ => by simp [listGo]
  | p :: ps, acc, h => by
    unfold listGo
    rw [if_pos (h p (List.mem_cons_self ..)), listGo_ok ps _ (fun q hq => h q (List.mem_cons_of_mem _ hq)), List.flatten_cons, List.append_assoc]
/-- a subtree put at its own place -/
theorem putL_own {t : List DN} (hR : InR t) (h : (chkF t).2 = 0) {i : Nat} (hi : i < t.length) : putL t i (subL t i) = t := by
  obtain ⟨b1, b2⟩ := endAt_bd t hR h i hi
  show t.take i ++ (subL t i ++ t.drop (endAt (kidsOf t) i)) = t
  conv => rhs; rw [← List.take_append_drop (endAt (kidsOf t) i) t, ← List.take_append_drop i (t.take (endAt (kidsOf t) i))]
  rw [List.take_take, Nat.min_eq_left (by omega), List.append_assoc]
  rfl
end Go.Proofs.YtgmiekggdgmhkaaDoor.Q
end
section
/- DataRound: the printed law comes to true. -/
namespace Go.Proofs.YtgmiekggdgmhkaaDoor.Q
open Go.RowKit Go.Proofs.YtgmiekggdgmhkaaDoorW.PrintWords
set_option linter.unusedVariables false
set_option linter.unusedSimpArgs false
theorem atGo_pth {t : List DN} (h : Dat t) : ∀ i, i < (kidsOf t).length → ∀ r, atGo (endsAll (kidsOf t)) (pth (kidsOf t) i ++ r) 0 = atGo (endsAll (kidsOf t)) r i :=
  tree_ind h.whole (fun r => by rw [pth_zero]; rfl) (fun p j hp hj ih r => by
    rw [pth_kid h.whole hp hj, List.append_assoc, ih]
    show (match (kidsL (endsAll (kidsOf t)) p).find? (fun x => x.1 == (j : Int)) with | none => ((0 : Int), (4 : Int)) | some x => atGo (endsAll (kidsOf t)) r x.2.toNat) = _
    rw [kidsL_T h.whole hp, find_T, if_pos ⟨by omega, by omega⟩]
    simp only [Int.toNat_natCast])
theorem at_pth {t : List DN} (h : Dat t) {i : Nat} (hi : i < t.length) : atF t (pth (kidsOf t) i) = ((i : Int), 0) := by
  have e : atF t (pth (kidsOf t) i) = atGo (endsAll (kidsOf t)) (pth (kidsOf t) i) 0 := if_neg (fun hh => hh h.chk)
  have := atGo_pth h i (h.lt hi) []
  rw [List.append_nil] at this
  rw [e, this]; rfl
theorem subF_L {t : List DN} (h : Dat t) {i : Nat} (hi : i < t.length) : subF t i = (subL t i, 0) := by
  rw [subF_ok (h.node hi), Int.toNat_natCast]; rfl
theorem parF_kid {t : List DN} (h : Dat t) {i j : Nat} (hi : i < t.length) (hj : j < kidN (kidsOf t) i) : parF t (kth (kidsOf t) (i + 1) j : Nat) = ((i : Int), 0) := by
  obtain ⟨a, b⟩ := h.kid hi hj
  unfold parF
  rw [if_neg (fun hh => hh (h.node b)), if_neg (by omega), Int.toNat_natCast, par_kid h.whole (h.lt hi) hj]
theorem putF_own {t : List DN} (h : Dat t) {i : Nat} (hi : i < t.length) : putF t i (subL t i) = (t, 0) := by
  have e : putL t (i : Int) (subL t i) = t := putL_own h.hR h.chk hi
  unfold putF
  rw [if_neg (fun hh => hh h.chk), if_neg (fun hh => hh (chkF_sub h.hR h.chk hi)), if_neg (fun hh => hh (h.node hi)), e, if_neg (fun hh => hh h.chk)]
theorem alone_list (x : DN) (h : (aloneF x.f0 x.f1 x.f2 x.f3).1 = 0) (h4 : x.f0 = 4) : x.f2 = 0 ∧ x.f3 = (⟨#[]⟩ : ByteArray) := by
  unfold aloneF at h
  rw [h4, if_neg (by decide), if_neg (by decide), if_neg (by decide), if_pos rfl] at h
  by_cases e : 0 ≤ x.f1 ∧ x.f2 = 0 ∧ x.f3.size = 0
  · refine ⟨e.2.1, ?_⟩
    have e3 := e.2.2
    cases hx : x.f3 with
    | mk d =>
      rw [hx] at e3
      have : d.size = 0 := e3
      rw [Array.eq_empty_of_size_eq_zero this]
  · rw [if_neg e] at h; cases h
/-- the subtrees of the first j children -/
def subsL (t : List DN) (i j : Nat) : List (List DN) := (List.range j).map fun q => subL t (kth (kidsOf t) (i + 1) q)
theorem subsL_succ (t : List DN) (i j : Nat) : subsL t i (j + 1) = subsL t i j ++ [subL t (kth (kidsOf t) (i + 1) j)] := by
  unfold subsL; rw [List.range_succ, List.map_append]; rfl
theorem round_list {t : List DN} (h : Dat t) {i : Nat} (hi : i < t.length) (h4 : (rd_T51 t i).f0 = 4) : Ev (fun k => data_List.f k (subsL t i (kidN (kidsOf t) i))) (subL t i, 0) := by
  have hcons := subL_cons h.hR h.chk hi
  have hx : rd_T51 t i = t[i] := by simp [rd_T51, List.getD_eq_getElem?_getD, hi]
  have hal := (chkF_alone h.hR h.chk t[i] (List.getElem_mem _)).1
  rw [hx] at h4
  obtain ⟨g2, g3⟩ := alone_list _ hal h4
  have hk := h.kidN hi
  rw [hx] at hk
  have hsum : ((subsL t i (kidN (kidsOf t) i)).map List.length).sum ≤ 400 := by
    have e : ((subsL t i (kidN (kidsOf t) i)).map List.length).sum = (subsL t i (kidN (kidsOf t) i)).flatten.length := by rw [List.length_flatten]
    have hl := subL_len h.hR h.chk hi
    have hb := endAt_bd t h.hR h.chk i hi
    have := h.l400
    rw [hcons, List.length_cons] at hl
    have e2 : (subsL t i (kidN (kidsOf t) i)).flatten.length = ((List.range (kidN (kidsOf t) i)).map fun j => subL t (kth (kidsOf t) (i + 1) j)).flatten.length := rfl
    omega
  have hmem : ∀ p ∈ subsL t i (kidN (kidsOf t) i), InR p ∧ (chkF p).2 = 0 := fun p hp => by
    obtain ⟨q, hq, rfl⟩ := List.mem_map.mp hp
    have hq' := List.mem_range.mp hq
    exact ⟨inR_sub h.hR _, chkF_sub h.hR h.chk (h.kid hi hq').2⟩
  have hlen : (subsL t i (kidN (kidsOf t) i)).length = kidN (kidsOf t) i := by simp [subsL]
  have hev := dlist_ev (subsL t i (kidN (kidsOf t) i)) (fun p hp => (hmem p hp).1) (by rw [hlen]; have := h.kids_le hi; omega) (by omega)
  have hF : listF (subsL t i (kidN (kidsOf t) i)) = (subL t i, 0) := by
    unfold listF
    rw [listGo_ok _ _ (fun p hp => (hmem p hp).2)]
    have e1 : listHead (subsL t i (kidN (kidsOf t) i)) = [t[i]] := by
      unfold listHead
      rw [hlen]
      generalize t[i] = x at *
      cases x
      simp only at g2 g3 h4 hk
      rw [h4, hk, g2, g3]
    rw [e1]
    have e2 : [t[i]] ++ (subsL t i (kidN (kidsOf t) i)).flatten = subL t i := hcons.symm
    rw [e2]
    unfold fitsF
    rw [if_pos (chkF_sub h.hR h.chk hi)]
  rw [hF] at hev
  exact hev
theorem rd_snoc (l : List Int) (v : Int) : rd (l ++ [v]) (l.length : Nat) = v := by simp [rd]
theorem round_end {t : List DN} (h : Dat t) {i : Nat} (hi : i < t.length) :
    Ev (fun k => mummerlaw04_DataRound.l0 k t i (subL t i) (pth (kidsOf t) i) (kidI t i) ((endAt (kidsOf t) i : Nat) - (i : Int)) (subsL t i (kidN (kidsOf t) i)) ((kth (kidsOf t) (i + 1) (kidN (kidsOf t) i) : Nat) - (i : Int)) (kidN (kidsOf t) i : Nat)) true := by
  have hb := endAt_bd t h.hR h.chk i hi
  have h4 := h.l400
  have hlast := kth_last h.whole (h.lt hi)
  have hfin : Ev (fun k => if (rd_T51 t i).f0 = 4 then ((data_List.f k (subsL t i (kidN (kidsOf t) i))).bind fun b => if b.2 = 0 then ((mummerref04_Same.f k b.1 (subL t i)).bind fun c => if c = true then ((mummerlaw04_shown.f k).bind fun x => some x) else none) else none) else ((mummerlaw04_shown.f k).bind fun x => some x)) true := by
    by_cases e : (rd_T51 t i).f0 = 4
    · refine Ev.congr (fun k => if_pos e) (Ev.bind (round_list h hi e) (Ev.congr (fun k => if_pos rfl) (Ev.bind (same_ev _ ?_) (Ev.congr (fun k => if_pos rfl) (Ev.bind shown_ev (Ev.now true))))))
      rw [subL_len h.hR h.chk hi]; omega
    · exact Ev.congr (fun k => if_neg e) (Ev.bind shown_ev (Ev.now true))
  refine Ev.step (fun k => ?_) hfin
  simp only [mummerlaw04_DataRound.l0]
  rw [if_neg (by rw [kidI_len]; omega), hlast, if_pos rfl, if_pos (by omega), if_pos (by omega)]
theorem round_step {t : List DN} (h : Dat t) {i : Nat} (hi : i < t.length) {j : Nat} (hjk : j < kidN (kidsOf t) i)
    (ih : Ev (fun k => mummerlaw04_DataRound.l0 k t i (subL t i) (pth (kidsOf t) i) (kidI t i) ((endAt (kidsOf t) i : Nat) - (i : Int)) (subsL t i (j + 1)) ((kth (kidsOf t) (i + 1) (j + 1) : Nat) - (i : Int)) (j + 1 : Nat)) true) :
    Ev (fun k => mummerlaw04_DataRound.l0 k t i (subL t i) (pth (kidsOf t) i) (kidI t i) ((endAt (kidsOf t) i : Nat) - (i : Int)) (subsL t i j) ((kth (kidsOf t) (i + 1) j : Nat) - (i : Int)) j) true := by
  have h4 := h.l400
  obtain ⟨a, b⟩ := h.kid hi hjk
  have hkl := h.kids_le hi
  have hk := kth_in h.whole (h.lt hi) hjk
  have hlast := end_lt h.whole (h.lt hi)
  rw [kidsOf_len] at hlast
  have hsl := subL_len h.hR h.chk b
  rw [kid_end] at hsl
  have hpl := pth_nn h.whole i (h.lt hi)
  have hpk : pathF t (kth (kidsOf t) (i + 1) j : Nat) = (pth (kidsOf t) i ++ [(j : Int)], 0) := by rw [pathF_ok h b, pth_kid h.whole (h.lt hi) hjk]
  have hpath : data_Path.f t (kth (kidsOf t) (i + 1) j : Nat) = some (pth (kidsOf t) i ++ [(j : Int)], 0) := by
    rw [← hpk]; exact if_pos ((inR_iff t).mpr h.hR)
  have hs := dsub_ev t (kth (kidsOf t) (i + 1) j : Nat) h.hR
  rw [subF_L h b] at hs
  have hp := dpar_ev t (kth (kidsOf t) (i + 1) j : Nat) h.hR
  rw [parF_kid h hi hjk] at hp
  rw [subsL_succ] at ih
  refine Ev.step (f := fun k => (data_Sub.f k t (kth (kidsOf t) (i + 1) j : Nat)).bind _) (fun k => by
    simp only [mummerlaw04_DataRound.l0]
    rw [if_pos (by rw [kidI_len]; omega), if_pos (by omega), rd_kidI t i hjk]) ?_
  refine Ev.bind hs (Ev.bind hp ?_)
  rw [hpath]
  dsimp only [Option.bind_some]
  have e1 : ((pth (kidsOf t) i ++ [(j : Int)]).length : Int) = ((pth (kidsOf t) i).length : Int) + 1 := by simp
  have e3 : (subsL t i j).length = j := by simp [subsL]
  have e8 : (subsL t i j).length < 5864062014805 := by omega
  have c1 : (0 : Int) ≤ ((pth (kidsOf t) i).length : Nat) := by omega
  have c2 : (((pth (kidsOf t) i).length : Nat) : Int) < ((pth (kidsOf t) i ++ [(j : Int)]).length : Int) := by rw [e1]; omega
  have q6 : ((kth (kidsOf t) (i + 1) j : Nat) : Int) - (i : Int) + ((subL t (kth (kidsOf t) (i + 1) j)).length : Nat) = (kth (kidsOf t) (i + 1) (j + 1) : Nat) - (i : Int) := by rw [hsl]; omega
  have q7 : (j : Int) + 1 = ((j + 1 : Nat) : Int) := by omega
  have q2 : ((pth (kidsOf t) i ++ [(j : Int)]).length : Int) - 1 = ((pth (kidsOf t) i).length : Nat) := by rw [e1]; omega
  have w9 : wrap64 (((pth (kidsOf t) i).length : Int) + 1) = ((pth (kidsOf t) i).length : Int) + 1 := wrapS _ (by omega) (by omega)
  have e9 : ((pth (kidsOf t) i ++ [(j : Int)]).length : Int) = wrap64 (((pth (kidsOf t) i).length : Int) + 1) := by rw [w9, e1]
  clear w9
  have d6 : -9223372036854775808 ≤ ((kth (kidsOf t) (i + 1) (j + 1) : Nat) : Int) - (i : Int) ∧ ((kth (kidsOf t) (i + 1) (j + 1) : Nat) : Int) - (i : Int) ≤ 9223372036854775807 := by clear e9; omega
  have d7 : -9223372036854775808 ≤ ((j + 1 : Nat) : Int) ∧ ((j + 1 : Nat) : Int) ≤ 9223372036854775807 := by clear e9; omega
  have d2 : -9223372036854775808 ≤ (((pth (kidsOf t) i).length : Nat) : Int) ∧ (((pth (kidsOf t) i).length : Nat) : Int) ≤ 9223372036854775807 := by clear e9; omega
  have e2 : wrap64 (((pth (kidsOf t) i ++ [(j : Int)]).length : Int) - 1) = ((pth (kidsOf t) i).length : Nat) := by rw [q2]; exact wrapS _ d2.1 d2.2
  have e6 : wrap64 ((kth (kidsOf t) (i + 1) j : Nat) - (i : Int) + ((subL t (kth (kidsOf t) (i + 1) j)).length : Nat)) = (kth (kidsOf t) (i + 1) (j + 1) : Nat) - (i : Int) := by rw [q6]; exact wrapS _ d6.1 d6.2
  have e7 : wrap64 ((j : Int) + 1) = ((j + 1 : Nat) : Int) := by rw [q7]; exact wrapS _ d7.1 d7.2
  refine Ev.congr (fun k => ?_) ih
  rw [if_pos rfl, if_pos rfl, if_pos rfl, if_pos rfl, if_pos e9, e2, if_pos c1, if_pos c2, rd_snoc, if_pos rfl, if_pos e8, e6, e7]
theorem round_l0 {t : List DN} (h : Dat t) {i : Nat} (hi : i < t.length) : ∀ d j : Nat, j + d = kidN (kidsOf t) i →
    Ev (fun k => mummerlaw04_DataRound.l0 k t i (subL t i) (pth (kidsOf t) i) (kidI t i) ((endAt (kidsOf t) i : Nat) - (i : Int)) (subsL t i j) ((kth (kidsOf t) (i + 1) j : Nat) - (i : Int)) j) true
  | 0, j, hj => by
    obtain rfl : j = kidN (kidsOf t) i := by omega
    exact round_end h hi
  | d + 1, j, hj => round_step h hi (by omega) (round_l0 h hi d (j + 1) (by omega))
theorem round_j {t : List DN} (h : Dat t) (a : Int) (ha0 : 0 ≤ a) (ha1 : a ≤ 65535) : Ev (fun k => mummerlaw04_DataRound.j0 k t a false) true := by
  have h4 := h.l400
  have hpos := h.pos
  obtain ⟨i, hi⟩ : ∃ i : Nat, Int.tmod (wrap64 a) (t.length : Int) = i := by
    rw [wrapS _ (by omega) (by omega)]
    exact ⟨(a.toNat % t.length), by
      rw [show a = ((a.toNat : Nat) : Int) by omega]
      simp [Int.tmod]⟩
  have hil : i < t.length := by
    have : Int.tmod (wrap64 a) (t.length : Int) < t.length := Int.tmod_lt_of_pos _ (by omega)
    omega
  have hin : inR t = true := (inR_iff t).mpr h.hR
  have hsub := dsub_ev t i h.hR
  rw [subF_L h hil] at hsub
  have hput : data_Put.f t i (subL t i) = some (t, 0) := by rw [← putF_own h hil]; exact if_pos ⟨hin, (inR_iff _).mpr (inR_sub h.hR i)⟩
  have hpath : data_Path.f t i = some (pth (kidsOf t) i, 0) := by rw [← pathF_ok h hil]; exact if_pos hin
  have hat : data_At.f t (pth (kidsOf t) i) = some ((i : Int), 0) := by rw [← at_pth h hil]; exact if_pos hin
  have hkids : data_Kids.f t i = some (kidI t i, 0) := by rw [← kidsF_ok h hil]; exact if_pos hin
  have hsize := dsize_ev t i h.hR
  rw [sizeF_ok (h.node hil), Int.toNat_natCast] at hsize
  have hsl := subL_len h.hR h.chk hil
  have hb := endAt_bd t h.hR h.chk i hil
  have hl0 := round_l0 h hil (kidN (kidsOf t) i) 0 (by omega)
  have hl0' : Ev (fun k => mummerlaw04_DataRound.l0 k t i (subL t i) (pth (kidsOf t) i) (kidI t i) ((endAt (kidsOf t) i : Nat) - (i : Int)) [] 1 0) true := by
    have e : ((kth (kidsOf t) (i + 1) 0 : Nat) : Int) - i = 1 := by simp only [kth]; omega
    rw [e] at hl0
    exact hl0
  refine Ev.step (f := fun k => (data_Sub.f k t (i : Int)).bind _) (fun k => by
    simp only [mummerlaw04_DataRound.j0, hi]
    rw [if_neg (by simp), if_neg (by omega)]) ?_
  refine Ev.bind hsub ?_
  simp only [hput, Option.bind_some, hpath, hat, if_true, hkids]
  refine Ev.bind (same_ev t (by omega)) (Ev.congr (fun k => by rw [if_pos rfl]) ?_)
  refine Ev.bind hsize ?_
  refine Ev.congr (fun k => ?_) hl0'
  rw [if_pos rfl, if_pos (by omega), if_pos (by omega), if_pos (by rw [kidI_len, h.kidN hil]), if_pos (by rw [hsl]; omega)]
theorem round_jt (t : List DN) (a : Int) : Ev (fun k => mummerlaw04_DataRound.j0 k t a true) true :=
  Ev.step (fun k => by simp only [mummerlaw04_DataRound.j0]; exact if_pos trivial) (Ev.bind shown_ev (Ev.now true))
theorem round_pure (t : List DN) (a : Int) (wt : WfT t) (wa : (Lit.int .u16 a).wf = true) : Ev (fun k => mummerlaw04_DataRound.f k t a) true := by
  have ha : 0 ≤ a ∧ a ≤ 65535 := by simpa [Lit.wf, IntKind.min, IntKind.max, IntKind.signed, IntKind.bits] using wa
  refine Ev.bind (dchk_ev t (inR_of wt)) (Ev.bind (far_ev t) ?_)
  cases hf : farB t with
  | true => exact Ev.congr (fun k => if_pos rfl) (round_jt t a)
  | false =>
    refine Ev.congr (fun k => if_neg (by decide)) ?_
    by_cases h : (chkF t).2 = 0
    · have hD := Dat.mk' (inR_of wt) h
      refine Ev.congr (fun k => if_pos h) ?_
      have : ((t.length : Int) == 0) = false := by have := hD.pos; rw [beq_eq_false_iff_ne]; omega
      rw [this]
      exact round_j hD a ha.1 ha.2
    · exact Ev.congr (fun k => if_neg h) (round_jt t a)
end Go.Proofs.YtgmiekggdgmhkaaDoor.Q
end
