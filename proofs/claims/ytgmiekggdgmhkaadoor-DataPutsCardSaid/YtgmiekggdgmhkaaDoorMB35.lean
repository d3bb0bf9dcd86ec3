import Derived.Test.YtgmiekggdgmhkaaDoorMB22
import Derived.Test.YtgmiekggdgmhkaaDoorMB31
import Derived.Test.YtgmiekggdgmhkaaDoorMB34
section
/- DataPuts: the printed law comes to true. -/
namespace Go.Proofs.YtgmiekggdgmhkaaDoor.Q
open Go.RowKit Go.Proofs.YtgmiekggdgmhkaaDoorW.PrintWords
set_option linter.unusedVariables false
set_option linter.unusedSimpArgs false
theorem eat_append : ∀ (l r : List Int) (c m : Nat), eat l c = some m → eat (l ++ r) c = some m
  | l, r, 0, m, h => by rw [eat_zero] at h ⊢; exact h
  | [], r, c + 1, m, h => by cases h
  | k :: ks, r, c + 1, m, h => by
    simp only [eat, List.cons_append] at h ⊢
    obtain ⟨x, hx, rfl⟩ := Option.map_eq_some_iff.mp h
    rw [eat_append ks r _ x hx]
    rfl
theorem kidsOf_append (a b : List DN) : kidsOf (a ++ b) = kidsOf a ++ kidsOf b := by simp [kidsOf]
/-- the end of what was put -/
theorem endAt_put (t s r : List DN) (hs : eat (kidsOf s) 1 = some s.length) : endAt (kidsOf (t ++ (s ++ r))) t.length = t.length + s.length := by
  apply endAt_some
  rw [kidsOf_append, List.drop_append_of_le_length (by rw [kidsOf_len]; exact Nat.le_refl _), List.drop_eq_nil_of_le (by rw [kidsOf_len]; exact Nat.le_refl _), List.nil_append, kidsOf_append]
  exact eat_append _ _ _ _ hs
theorem puts_j (t s : List DN) (a : Int) (ha0 : 0 ≤ a) (ha1 : a ≤ 65535) (hR : InR t) (hRs : InR s) (h : (chkF t).2 = 0) (hs4 : s.length ≤ 410) : Ev (fun k => mummerlaw04_DataPuts.j0 k t s a false) true := by
  obtain ⟨hall, hnn, hne, h400, _⟩ := chkF_ok t hR h
  have hpos : 0 < t.length := List.length_pos_iff.mpr hne
  obtain ⟨i, hi⟩ : ∃ i : Nat, Int.tmod (wrap64 a) (t.length : Int) = i := by
    rw [wrapS _ (by omega) (by omega)]
    exact ⟨(a.toNat % t.length), by
      rw [show a = ((a.toNat : Nat) : Int) by omega]
      simp [Int.tmod]⟩
  have hil : i < t.length := by
    have : Int.tmod (wrap64 a) (t.length : Int) < t.length := Int.tmod_lt_of_pos _ (by omega)
    omega
  have hnode : nodeE t i = 0 := by
    rw [nodeE_ok2 h, if_neg (by omega)]
  have hin : inR t = true ∧ inR s = true := ⟨(inR_iff t).mpr hR, (inR_iff s).mpr hRs⟩
  have hput : data_Put.f t i s = some (putF t i s) := if_pos hin
  refine Ev.step (f := fun k => (some (putF t i s)).bind _) (fun k => by
    simp only [mummerlaw04_DataPuts.j0, hi]
    rw [if_neg (by simp), if_neg (by omega), hput]) ?_
  simp only [Option.bind_some]
  have hsn := dsize_ev t i hR
  rw [sizeF_ok hnode, Int.toNat_natCast] at hsn
  obtain ⟨b1, b2⟩ := endAt_bd t hR h i hil
  by_cases e2 : (chkF s).2 = 0
  · by_cases e3 : (chkF (putL t i s)).2 = 0
    · have hF : putF t i s = (putL t i s, 0) := by
        unfold putF
        rw [if_neg (fun hh => hh h), if_neg (fun hh => hh e2), if_neg (fun hh => hh hnode), if_neg (fun hh => hh e3)]
      rw [hF]
      have hRu := inR_put t s i hR hRs
      obtain ⟨halls, _, hnes, h400s, _⟩ := chkF_ok s hRs e2
      have hposs : 0 < s.length := List.length_pos_iff.mpr hnes
      have hlu : (putL t i s).length = i + s.length + (t.length - endAt (kidsOf t) i) := by
        simp [putL]; omega
      have hnu : nodeE (putL t i s) i = 0 := by
        rw [nodeE_ok2 e3, if_neg (by rw [hlu]; omega)]
      have hti : (t.take i).length = i := by rw [List.length_take]; omega
      have hend : endAt (kidsOf (putL t i s)) i = i + s.length := by
        have := endAt_put (t.take i) s (t.drop (endAt (kidsOf t) i)) halls
        rw [hti] at this
        exact this
      have hsub : subF (putL t i s) i = (s, 0) := by
        rw [subF_ok hnu, Int.toNat_natCast, hend]
        congr 1
        show ((t.take i ++ (s ++ t.drop (endAt (kidsOf t) i))).take (i + s.length)).drop i = s
        rw [List.take_append, hti, List.drop_append, List.length_take, hti]
        rw [List.take_of_length_le (by rw [hti]; omega), List.drop_eq_nil_of_le (by rw [hti]; exact Nat.le_refl _)]
        rw [show i - min (i + s.length) i = 0 by omega, List.nil_append, List.drop_zero, show i + s.length - i = s.length by omega, List.take_append_of_le_length (Nat.le_refl _), List.take_length]
      have hds := dsub_ev (putL t i s) i hRu
      rw [hsub] at hds
      have hdc := dchk_ev (putL t i s) hRu
      have htake : (putL t i s).take i = t.take i := by
        show (t.take i ++ (s ++ t.drop (endAt (kidsOf t) i))).take i = t.take i
        rw [List.take_append_of_le_length (by rw [hti]; exact Nat.le_refl _), List.take_of_length_le (by rw [hti]; exact Nat.le_refl _)]
      simp only [if_true]
      refine Ev.bind hds (Ev.bind hsn (Ev.bind hdc ?_))
      simp only [if_true, e3]
      refine Ev.bind (same_ev s (by omega)) ?_
      have c1 : ((putL t i s).length : Int) = wrap64 (wrap64 ((t.length : Int) - ((endAt (kidsOf t) i : Int) - i)) + (s.length : Int)) := by
        rw [wrapS ((t.length : Int) - _) (by omega) (by omega), wrapS _ (by omega) (by omega), hlu]
        omega
      simp only [if_true]
      have hfin : Ev (fun k => (mummerref04_Same.f k (t.take i) (t.take i)).bind fun b => if b = true then (mummerlaw04_shown.f k).bind fun x => some x else none) true :=
        Ev.bind (same_ev (t.take i) (by rw [hti]; omega)) (Ev.congr (fun k => if_pos rfl) (Ev.bind shown_ev (Ev.now true)))
      refine Ev.congr (fun k => ?_) hfin
      rw [if_pos c1, if_pos (by rw [hlu]; omega), if_pos (by omega), if_pos (by rw [hlu]; omega), if_pos (by omega)]
      simp only [Int.toNat_natCast, htake]
    · have hF : putF t i s = ([], 3) := by
        unfold putF
        rw [if_neg (fun hh => hh h), if_neg (fun hh => hh e2), if_neg (fun hh => hh hnode), if_pos e3]
      rw [hF]
      exact Ev.congr (fun k => by rw [if_neg (by decide)]; exact if_pos rfl) (Ev.bind shown_ev (Ev.now true))
  · have hF : putF t i s = ([], (chkF s).2) := by
      unfold putF
      rw [if_neg (fun hh => hh h), if_pos e2]
    rw [hF]
    exact Ev.congr (fun k => by rw [if_neg e2]; exact if_pos rfl) (Ev.bind shown_ev (Ev.now true))
theorem puts_jt (t s : List DN) (a : Int) : Ev (fun k => mummerlaw04_DataPuts.j0 k t s a true) true :=
  Ev.step (fun k => by simp only [mummerlaw04_DataPuts.j0]; exact if_pos trivial) (Ev.bind shown_ev (Ev.now true))
theorem puts_pure (t s : List DN) (a : Int) (wt : WfT t) (ws : WfT s) (wa : (Lit.int .u16 a).wf = true) : Ev (fun k => mummerlaw04_DataPuts.f k t s a) true := by
  have ha : 0 ≤ a ∧ a ≤ 65535 := by simpa [Lit.wf, IntKind.min, IntKind.max, IntKind.signed, IntKind.bits] using wa
  refine Ev.bind (dchk_ev t (inR_of wt)) (Ev.bind (far_ev t) ?_)
  cases hf : farB t with
  | true => exact Ev.congr (fun k => if_pos rfl) (puts_jt t s a)
  | false =>
    refine Ev.congr (fun k => if_neg (by decide)) (Ev.bind (far_ev s) ?_)
    cases hg : farB s with
    | true => exact Ev.congr (fun k => if_pos rfl) (puts_jt t s a)
    | false =>
      refine Ev.congr (fun k => if_neg (by decide)) ?_
      by_cases h : (chkF t).2 = 0
      · refine Ev.congr (fun k => if_pos h) ?_
        have hne := (chkF_ok t (inR_of wt) h).2.2.1
        have : ((t.length : Int) == 0) = false := by simp; exact hne
        rw [this]
        exact puts_j t s a ha.1 ha.2 (inR_of wt) (inR_of ws) h (farB_len hg)
      · exact Ev.congr (fun k => if_neg h) (puts_jt t s a)
end Go.Proofs.YtgmiekggdgmhkaaDoor.Q
end
