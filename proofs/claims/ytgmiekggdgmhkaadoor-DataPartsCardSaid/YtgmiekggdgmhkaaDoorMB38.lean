import Derived.Test.YtgmiekggdgmhkaaDoorMB17
import Derived.Test.YtgmiekggdgmhkaaDoorMB22
import Derived.Test.YtgmiekggdgmhkaaDoorMB34
import Derived.Test.YtgmiekggdgmhkaaDoorMB36
import Derived.Test.YtgmiekggdgmhkaaDoorMB37
section
/- DataParts: the printed law comes to true. -/
namespace Go.Proofs.YtgmiekggdgmhkaaDoor.Q
open Go.RowKit Go.Proofs.YtgmiekggdgmhkaaDoorW.PrintWords
set_option linter.unusedVariables false
set_option linter.unusedSimpArgs false
/-- what fits answers -/
def fitsF (t : List DN) : List DN × Int := if (chkF t).2 = 0 then (t, 0) else ([], 3)
theorem dfits_ev (t : List DN) (hR : InR t) : Ev (fun k => data_fits.f k t) (fitsF t) := by
  refine Ev.bind (dchk_ev t hR) ?_
  unfold fitsF
  by_cases h : (chkF t).2 = 0
  · rw [if_pos h, if_pos h]; exact Ev.now _
  · rw [if_neg h, if_neg h]; exact Ev.now _
theorem rfits_ev (t : List DN) (hR : InR t) : Ev (fun k => mummerref04_fits.f k t) (fitsF t) := by
  refine Ev.bind (rchk_ev t hR) ?_
  unfold fitsF
  by_cases h : (chkF t).2 = 0
  · rw [if_pos h, if_pos h]; exact Ev.now _
  · rw [if_neg h, if_neg h]; exact Ev.now _
/-- what List answers, some parts being behind it -/
def listGo : List (List DN) → List DN → List DN × Int
  | [], acc => fitsF acc
  | p :: ps, acc => if (chkF p).2 = 0 then listGo ps (acc ++ p) else ([], (chkF p).2)
def listHead (ps : List (List DN)) : List DN := [(⟨4, (ps.length : Int), 0, (⟨#[]⟩ : ByteArray)⟩ : DN)]
def listF (ps : List (List DN)) : List DN × Int := listGo ps (listHead ps)
theorem fitsF_len (t : List DN) : (fitsF t).1.length ≤ t.length := by
  unfold fitsF
  split
  · exact Nat.le_refl _
  · exact Nat.zero_le _
theorem listGo_len : ∀ (ps : List (List DN)) (acc : List DN), (listGo ps acc).1.length ≤ acc.length + (ps.map List.length).sum
  | [], acc => by simpa [listGo] using fitsF_len acc
  | p :: ps, acc => by
    unfold listGo
    split
    · have := listGo_len ps (acc ++ p)
      simp at this ⊢; omega
    · simp
theorem listF_len (ps : List (List DN)) (h : (ps.map List.length).sum ≤ 500) : (listF ps).1.length ≤ 501 := by
  have := listGo_len ps (listHead ps)
  have e : (listHead ps).length = 1 := rfl
  unfold listF
  omega
theorem inR_app {a b : List DN} (h1 : InR a) (h2 : InR b) : InR (a ++ b) := fun x hx => (List.mem_append.mp hx).elim (h1 x) (h2 x)
theorem rdL_pre (pre r : List (List DN)) (x : List DN) : rd_L3 (pre ++ x :: r) pre.length = x := by simp [rd_L3]
theorem dlist_l0 (ps : List (List DN)) (hRp : ∀ p ∈ ps, InR p) (h60 : ps.length ≤ 60) : ∀ (r pre : List (List DN)) (acc : List DN), ps = pre ++ r → InR acc → acc.length + (r.map List.length).sum ≤ 501 →
    Ev (fun k => data_List.l0 k acc ps (ps.length : Int) (pre.length : Int)) (listGo r acc)
  | [], pre, acc, e, hR, hl => by
    have hlen : pre.length = ps.length := by rw [e]; simp
    refine Ev.step (fun k => ?_) (Ev.bind (dfits_ev acc hR) (Ev.now (listGo [] acc)))
    simp only [data_List.l0]
    rw [if_neg (by omega)]
  | p :: r, pre, acc, e, hR, hl => by
    have hlt : pre.length < ps.length := by rw [e]; simp
    have hp : rd_L3 ps pre.length = p := by rw [e]; exact rdL_pre pre r p
    have hpm : p ∈ ps := by rw [e]; simp
    have hst : ∀ k, data_List.l0 (k + 1) acc ps (ps.length : Int) (pre.length : Int) = (data_Check.f k p).bind fun b => if b.2 = 0 then (if acc.length + p.length < 3518437208883 then data_List.l0 k (acc ++ p) ps (ps.length : Int) ((pre ++ [p]).length : Nat) else none) else some ([], b.2) := fun k => by
      simp only [data_List.l0]
      rw [if_pos (by omega), if_pos (by omega), if_pos (by omega), hp, wrapS _ (by omega) (by omega)]
      rw [List.length_append]; rfl
    simp at hl
    refine Ev.step hst (Ev.bind (dchk_ev p (hRp p hpm)) ?_)
    unfold listGo
    by_cases h : (chkF p).2 = 0
    · rw [if_pos h]
      refine Ev.congr (fun k => by rw [if_pos h, if_pos (by omega)]) (dlist_l0 ps hRp h60 r (pre ++ [p]) (acc ++ p) (by simp [e]) (inR_app hR (hRp p hpm)) (by simp; omega))
    · rw [if_neg h]
      exact Ev.congr (f := fun _ => some ([], (chkF p).2)) (fun k => if_neg h) (Ev.now _)
theorem rlist_l0 (ps : List (List DN)) (hRp : ∀ p ∈ ps, InR p) (h60 : ps.length ≤ 60) : ∀ (r pre : List (List DN)) (acc : List DN), ps = pre ++ r → InR acc → acc.length + (r.map List.length).sum ≤ 501 →
    Ev (fun k => mummerref04_List.l0 k ps acc (pre.length : Int)) (listGo r acc)
  | [], pre, acc, e, hR, hl => by
    have hlen : pre.length = ps.length := by rw [e]; simp
    refine Ev.step (fun k => ?_) (Ev.bind (rfits_ev acc hR) (Ev.now (listGo [] acc)))
    simp only [mummerref04_List.l0]
    rw [if_neg (by omega)]
  | p :: r, pre, acc, e, hR, hl => by
    have hlt : pre.length < ps.length := by rw [e]; simp
    have hp : rd_L3 ps pre.length = p := by rw [e]; exact rdL_pre pre r p
    have hpm : p ∈ ps := by rw [e]; simp
    have hst : ∀ k, mummerref04_List.l0 (k + 1) ps acc (pre.length : Int) = (mummerref04_Check.f k p).bind fun b => if b.2 = 0 then (if acc.length + p.length < 3518437208883 then mummerref04_List.l0 k ps (acc ++ p) ((pre ++ [p]).length : Nat) else none) else some ([], b.2) := fun k => by
      simp only [mummerref04_List.l0]
      rw [if_pos (by omega), if_pos (by omega), hp, wrapS _ (by omega) (by omega)]
      rw [List.length_append]; rfl
    simp at hl
    refine Ev.step hst (Ev.bind (rchk_ev p (hRp p hpm)) ?_)
    unfold listGo
    by_cases h : (chkF p).2 = 0
    · rw [if_pos h]
      refine Ev.congr (fun k => by rw [if_pos h, if_pos (by omega)]) (rlist_l0 ps hRp h60 r (pre ++ [p]) (acc ++ p) (by simp [e]) (inR_app hR (hRp p hpm)) (by simp; omega))
    · rw [if_neg h]
      exact Ev.congr (f := fun _ => some ([], (chkF p).2)) (fun k => if_neg h) (Ev.now _)
theorem inR_head (ps : List (List DN)) (h60 : ps.length ≤ 60) : InR (listHead ps) := fun x hx => by
  obtain rfl := List.mem_singleton.mp hx
  dsimp only; omega
theorem dlist_ev (ps : List (List DN)) (hRp : ∀ p ∈ ps, InR p) (h60 : ps.length ≤ 60) (h500 : (ps.map List.length).sum ≤ 500) : Ev (fun k => data_List.f k ps) (listF ps) :=
  dlist_l0 ps hRp h60 ps [] (listHead ps) rfl (inR_head ps h60) (by have : (listHead ps).length = 1 := rfl; omega)
theorem rlist_ev (ps : List (List DN)) (hRp : ∀ p ∈ ps, InR p) (h60 : ps.length ≤ 60) (h500 : (ps.map List.length).sum ≤ 500) : Ev (fun k => mummerref04_List.f k ps) (listF ps) :=
  rlist_l0 ps hRp h60 ps [] (listHead ps) rfl (inR_head ps h60) (by have : (listHead ps).length = 1 := rfl; omega)
theorem putF_len (t : List DN) (i : Int) (s : List DN) : (putF t i s).1.length ≤ 2 * t.length + s.length := by
  unfold putF
  split
  · simp
  · split
    · simp
    · split
      · simp
      · split
        · simp
        · simp [putL]; omega
theorem subF_len (t : List DN) (i : Int) (h : t.length ≤ 410) : (subF t i).1.length ≤ 410 := by
  unfold subF
  split
  · simp
  · simp; omega
theorem len_le_sum : ∀ (ps : List (List DN)) (p : List DN), p ∈ ps → p.length ≤ (ps.map List.length).sum
  | [], _, h => by simp at h
  | q :: ps, p, h => by
    rcases List.mem_cons.mp h with rfl | h
    · simp
    · have := len_le_sum ps p h
      simp; omega
theorem rput_j1 (t : List DN) (i : Int) (s : List DN) (hR : InR t) (hRs : InR s) (h : (chkF t).2 = 0) (hs : (chkF s).2 = 0) : Ev (fun k => mummerref04_Put.j1 k t i s (nodeE t i)) (putF t i s) := by
  by_cases hn : nodeE t i = 0
  · obtain ⟨h0, h1⟩ := nodeE_in hn
    obtain ⟨j, rfl⟩ := Int.eq_ofNat_of_zero_le h0
    have hj : j < t.length := by omega
    obtain ⟨b1, b2⟩ := endAt_bd t hR h j hj
    obtain ⟨_, _, _, h400, _⟩ := chkF_ok t hR h
    obtain ⟨_, _, _, h400s, _⟩ := chkF_ok s hRs hs
    have hF : putF t j s = fitsF (putL t j s) := by
      unfold putF fitsF
      rw [if_neg (fun hh => hh h), if_neg (fun hh => hh hs), if_neg (fun hh => hh hn)]
      by_cases e : (chkF (putL t j s)).2 = 0
      · rw [if_neg (fun hh => hh e), if_pos e]
      · rw [if_pos e, if_neg e]
    rw [hF]
    have hfit := rfits_ev (putL t j s) (inR_put t s j hR hRs)
    have hfin : Ev (fun k => (mummerref04_end.f k t j).bind fun b => if 0 ≤ b then (if b ≤ (t.length : Int) then (if ((t.take j ++ s).length + (t.drop b.toNat).length < 3518437208883) then (mummerref04_fits.f k ((t.take j ++ s) ++ t.drop b.toNat)).bind fun x => some (x.1, x.2) else none) else none) else none) (fitsF (putL t j s)) := by
      refine Ev.bind (rend_ev t hR h j hj) ?_
      refine Ev.congr (fun k => by rw [if_pos (by omega), if_pos (by omega), if_pos (by simp; omega)]) ?_
      rw [Int.toNat_natCast, List.append_assoc]
      exact Ev.bind hfit (Ev.now _)
    refine Ev.step (fun k => ?_) hfin
    simp only [mummerref04_Put.j1, Option.bind_some, List.nil_append, Int.toNat_natCast, List.length_nil]
    rw [if_pos hn, if_pos (by omega), if_pos (by omega), if_pos (by simp; omega), if_pos (by simp; omega)]
  · have hF : putF t i s = ([], nodeE t i) := by
      unfold putF
      rw [if_neg (fun hh => hh h), if_neg (fun hh => hh hs), if_pos hn]
    rw [hF]
    refine Ev.step (f := fun _ => some ([], nodeE t i)) (fun k => ?_) (Ev.now _)
    simp only [mummerref04_Put.j1]
    exact if_neg hn
theorem rput_no (t : List DN) (i : Int) (s : List DN) (q : Int) (hq : q ≠ 0) : Ev (fun k => mummerref04_Put.j0 k t i s q) ([], q) := by
  refine Ev.step (f := fun k => mummerref04_Put.j1 k t i s q) (fun k => by simp only [mummerref04_Put.j0]; exact if_neg hq) (Ev.step (f := fun _ => some ([], q)) (fun k => by simp only [mummerref04_Put.j1]; exact if_neg hq) (Ev.now _))
theorem rput_ev (t : List DN) (i : Int) (s : List DN) (hR : InR t) (hRs : InR s) : Ev (fun k => mummerref04_Put.f k t i s) (putF t i s) := by
  refine Ev.bind (rchk_ev t hR) ?_
  by_cases h : (chkF t).2 = 0
  · refine Ev.congr (fun k => if_pos h) (Ev.bind (rchk_ev s hRs) ?_)
    by_cases hs : (chkF s).2 = 0
    · rw [hs]
      exact Ev.step (fun k => by simp only [mummerref04_Put.j0]; exact if_pos trivial) (Ev.bind (rat_ev t i hR) (rput_j1 t i s hR hRs h hs))
    · have hF : putF t i s = ([], (chkF s).2) := by
        unfold putF
        rw [if_neg (fun hh => hh h), if_pos hs]
      rw [hF]
      exact rput_no t i s _ hs
  · have hF : putF t i s = ([], (chkF t).2) := if_pos h
    rw [hF]
    exact Ev.congr (fun k => if_neg h) (rput_no t i s _ h)
theorem sum_snoc (pre : List (List DN)) (p : List DN) : ((pre ++ [p]).map List.length).sum = (pre.map List.length).sum + p.length := by simp
theorem parts_j3 (t : List DN) (i : Int) (ps : List (List DN)) (hR : InR t) (hRp : ∀ p ∈ ps, InR p) (hfl : t.length ≤ 410) (hsum : (ps.map List.length).sum ≤ 500) : Ev (fun k => mummerlaw04_DataParts.j3 k t i ps false) true := by
  refine Ev.step (fun k => by simp only [mummerlaw04_DataParts.j3]; exact if_neg (by simp)) ?_
  have hnil : ([] : List DN) ++ t = t := List.nil_append t
  by_cases h0 : (ps.length : Int) > 0
  · refine Ev.congr (fun k => if_pos h0) (Ev.congr (fun k => if_pos (by omega)) ?_)
    simp only [Option.bind_some]
    have hs0 : rd_L3 ps 0 ∈ ps := by
      have : 0 < ps.length := by omega
      simp [rd_L3, List.getD_eq_getElem?_getD, this]
    have hl0 : (rd_L3 ps 0).length ≤ 500 := Nat.le_trans (len_le_sum ps _ hs0) hsum
    have hput : data_Put.f t i (rd_L3 ps 0) = some (putF t i (rd_L3 ps 0)) := if_pos ⟨(inR_iff t).mpr hR, (inR_iff _).mpr (hRp _ hs0)⟩
    have hpl := putF_len t i (rd_L3 ps 0)
    refine Ev.congr (fun k => if_pos (by simp; omega)) ?_
    rw [hput, hnil]
    simp only [Option.bind_some]
    refine Ev.bind (rput_ev t i _ hR (hRp _ hs0)) (Ev.bind (same_ev _ (by omega)) (Ev.congr (fun k => if_pos rfl) (Ev.congr (fun k => if_pos rfl) (Ev.bind (same_ev t (by omega)) (Ev.congr (fun k => if_pos rfl) (Ev.bind shown_ev (Ev.now true)))))))
  · refine Ev.congr (fun k => if_neg h0) ?_
    simp only [Option.bind_some]
    have hput : data_Put.f t i [] = some (putF t i []) := if_pos ⟨(inR_iff t).mpr hR, rfl⟩
    have hpl := putF_len t i []
    refine Ev.congr (fun k => if_pos (by simp; omega)) ?_
    rw [hput, hnil]
    simp only [Option.bind_some]
    refine Ev.bind (rput_ev t i _ hR (fun x hx => by simp at hx)) (Ev.bind (same_ev _ (by simp at hpl; omega)) (Ev.congr (fun k => if_pos rfl) (Ev.congr (fun k => if_pos rfl) (Ev.bind (same_ev t (by omega)) (Ev.congr (fun k => if_pos rfl) (Ev.bind shown_ev (Ev.now true)))))))
theorem parts_j2t (t : List DN) (i : Int) (ps : List (List DN)) : Ev (fun k => mummerlaw04_DataParts.j2 k t i ps true) true :=
  Ev.step (fun k => by simp only [mummerlaw04_DataParts.j2]; exact if_pos trivial) (Ev.bind shown_ev (Ev.now true))
theorem parts_j2 (t : List DN) (i : Int) (ps : List (List DN)) (hR : InR t) (hRp : ∀ p ∈ ps, InR p) (hfl : t.length ≤ 410) (h60 : ps.length ≤ 60) (hsum : (ps.map List.length).sum ≤ 500) : Ev (fun k => mummerlaw04_DataParts.j2 k t i ps false) true := by
  refine Ev.step (fun k => by simp only [mummerlaw04_DataParts.j2]; exact if_neg (by simp)) ?_
  have hsub : (subF t i).1.length ≤ 410 := subF_len t i hfl
  have hlst : (listF ps).1.length ≤ 501 := listF_len ps hsum
  refine Ev.bind (dsub_ev t i hR) (Ev.bind (rsub_ev t i hR) (Ev.bind (dlist_ev ps hRp h60 hsum) (Ev.bind (rlist_ev ps hRp h60 hsum) (Ev.bind (same_ev (subF t i).1 (by omega)) ?_))))
  refine Ev.congr (fun k => if_pos rfl) (Ev.congr (fun k => if_pos rfl) (Ev.bind (same_ev (listF ps).1 (by omega)) (Ev.congr (fun k => if_pos rfl) ?_)))
  simp only [bne_self_eq_false]
  exact parts_j3 t i ps hR hRp hfl hsum
theorem parts_j1 (t : List DN) (i : Int) (ps : List (List DN)) (hR : InR t) (hRp : ∀ p ∈ ps, InR p) (n : Nat) (x : Int) (hn : ps.length ≤ 60 → (ps.map List.length).sum = n) : Ev (fun k => mummerlaw04_DataParts.j1 k t i ps n x false) true := by
  refine Ev.step (fun k => by simp only [mummerlaw04_DataParts.j1]; exact if_neg (by simp)) ?_
  refine Ev.bind (far_ev t) ?_
  cases hf : farB t with
  | true => exact Ev.congr (fun k => if_pos rfl) (parts_j2t t i ps)
  | false =>
    refine Ev.congr (fun k => if_neg (by decide)) ?_
    by_cases h60 : (ps.length : Int) > 60
    · exact Ev.congr (fun k => if_pos h60) (parts_j2t t i ps)
    refine Ev.congr (fun k => if_neg h60) ?_
    by_cases h500 : (n : Int) > 500
    · rw [decide_eq_true h500]; exact parts_j2t t i ps
    · rw [decide_eq_false h500]
      exact parts_j2 t i ps hR hRp (farB_len hf) (by omega) (by have := hn (by omega); omega)
theorem parts_l0 (t : List DN) (i : Int) (ps : List (List DN)) (hR : InR t) (hRp : ∀ p ∈ ps, InR p) : ∀ (d : Nat) (r pre : List (List DN)) (n : Nat), ps = pre ++ r → pre.length + d = 100 → n = (pre.map List.length).sum → n ≤ 410 * pre.length →
    Ev (fun k => mummerlaw04_DataParts.l0 k t i ps n (pre.length : Int)) true
  | 0, r, pre, n, e, hd, hns, hnl => by
    have hlp : ps.length = pre.length + r.length := by rw [e, List.length_append]
    by_cases hr : (pre.length : Int) < ps.length
    · refine Ev.step (fun k => by simp only [mummerlaw04_DataParts.l0]; rw [if_pos hr, decide_eq_false (by omega)]) ?_
      exact parts_j1 t i ps hR hRp n _ (fun h => by omega)
    · refine Ev.step (fun k => by simp only [mummerlaw04_DataParts.l0]; rw [if_neg hr]) ?_
      exact parts_j1 t i ps hR hRp n _ (fun h => by omega)
  | d + 1, [], pre, n, e, hd, hns, hnl => by
    have hlp : ps.length = pre.length := by rw [e]; simp
    refine Ev.step (fun k => by simp only [mummerlaw04_DataParts.l0]; rw [if_neg (by omega)]) ?_
    exact parts_j1 t i ps hR hRp n _ (fun h => by rw [hns, e]; simp)
  | d + 1, p :: r, pre, n, e, hd, hns, hnl => by
    have hlt : pre.length < ps.length := by rw [e]; simp
    have hp : rd_L3 ps pre.length = p := by rw [e]; exact rdL_pre pre r p
    refine Ev.step (fun k => by simp only [mummerlaw04_DataParts.l0]; rw [if_pos (by omega), decide_eq_true (by omega)]) ?_
    have hst : ∀ k, mummerlaw04_DataParts.j1 (k + 1) t i ps n (pre.length : Int) true = (mummerlaw04_Far.f k p).bind fun b => if b = true then (mummerlaw04_shown.f k).bind fun x => some x else mummerlaw04_DataParts.l0 k t i ps (wrap64 ((n : Int) + (p.length : Int))) ((pre ++ [p]).length : Nat) := fun k => by
      simp only [mummerlaw04_DataParts.j1]
      rw [if_pos trivial, if_pos (by omega), if_pos (by omega), hp, wrapS ((pre.length : Int) + 1) (by omega) (by omega)]
      rw [List.length_append]; rfl
    refine Ev.step hst (Ev.bind (far_ev p) ?_)
    cases hf : farB p with
    | true => exact Ev.congr (fun k => if_pos rfl) (Ev.bind shown_ev (Ev.now true))
    | false =>
      have hpl := farB_len hf
      rw [wrapS _ (by omega) (by omega)]
      refine Ev.congr (fun k => if_neg (by decide)) ?_
      have := parts_l0 t i ps hR hRp d r (pre ++ [p]) (n + p.length) (by simp [e]) (by simp; omega) (by rw [sum_snoc, hns]) (by simp; omega)
      exact this
theorem parts_pure (t : List DN) (i : Int) (ps : List (List DN)) (wt : WfT t) (wi : (Lit.int .i64 i).wf = true) (wp : WfL WfT ps) : Ev (fun k => mummerlaw04_DataParts.f k t i ps) true :=
  parts_l0 t i ps (inR_of wt) (fun p hp => inR_of (wp.2 p hp)) 100 ps [] 0 rfl rfl rfl (by simp)
end Go.Proofs.YtgmiekggdgmhkaaDoor.Q
end
