import Derived.Test.YtgmiekggdgmhkaaDoorMB24
import Derived.Test.YtgmiekggdgmhkaaDoorMB27
import Derived.Test.YtgmiekggdgmhkaaDoorMB6
section
/- The reference's Shape, plainly; DataShapes: the printed law comes to true. -/
namespace Go.Proofs.YtgmiekggdgmhkaaDoor.Q
open Go.RowKit Go.Proofs.YtgmiekggdgmhkaaDoorW.PrintWords
set_option linter.unusedVariables false
set_option linter.unusedSimpArgs false
/-- out, with the ends of the nodes from a on, m of them -/
def setEnds (l out : List Int) (a m : Nat) : List Int := (List.range out.length).map fun j => if a ≤ j ∧ j < a + m then (endAt l j : Int) else out.getD j 0
theorem setEnds_len (l out : List Int) (a m : Nat) : (setEnds l out a m).length = out.length := by simp [setEnds]
theorem setEnds_get (l out : List Int) (a m j : Nat) (h : j < out.length) : (setEnds l out a m).getD j 0 = if a ≤ j ∧ j < a + m then (endAt l j : Int) else out.getD j 0 := by
  unfold setEnds
  simp [List.getD_eq_getElem?_getD, h]
theorem ext_getD {a b : List Int} (hl : a.length = b.length) (h : ∀ j, j < a.length → a.getD j 0 = b.getD j 0) : a = b := by
  apply List.ext_getElem hl
  intro j h1 h2
  have := h j h1
  simpa [List.getD_eq_getElem?_getD, h1, h2] using this
theorem setEnds_zero (l out : List Int) (a : Nat) : setEnds l out a 0 = out := by
  refine ext_getD (setEnds_len _ _ _ _) (fun j hj => ?_)
  rw [setEnds_len] at hj
  rw [setEnds_get _ _ _ _ _ hj, if_neg (by omega)]
theorem setEnds_add (l out : List Int) (a m m' : Nat) : setEnds l (setEnds l out a m) (a + m) m' = setEnds l out a (m + m') := by
  refine ext_getD (by simp [setEnds_len]) (fun j hj => ?_)
  rw [setEnds_len, setEnds_len] at hj
  rw [setEnds_get _ _ _ _ _ (by rw [setEnds_len]; exact hj), setEnds_get _ _ _ _ _ hj, setEnds_get _ _ _ _ _ hj]
  by_cases h1 : a ≤ j ∧ j < a + m
  · rw [if_neg (by omega), if_pos h1, if_pos (by omega)]
  · by_cases h2 : a + m ≤ j ∧ j < a + m + m'
    · rw [if_pos h2, if_pos (by omega)]
    · rw [if_neg h2, if_neg h1, if_neg (by omega)]
theorem setEnds_set (l out : List Int) (i m : Nat) (hi : i < out.length) (he : endAt l i = i + 1 + m) : (setEnds l out (i + 1) m).set i ((i + 1 + m : Nat) : Int) = setEnds l out i (m + 1) := by
  refine ext_getD (by simp [setEnds_len]) (fun j hj => ?_)
  rw [List.length_set, setEnds_len] at hj
  rw [setEnds_get _ _ _ _ _ hj]
  by_cases h : j = i
  · subst h
    rw [if_pos (by omega), he]
    simp [List.getD_eq_getElem?_getD, List.getElem?_set, setEnds_len, hj]
  · have h2 : ((setEnds l out (i + 1) m).set i ((i + 1 + m : Nat) : Int)).getD j 0 = (setEnds l out (i + 1) m).getD j 0 := by
      simp [List.getD_eq_getElem?_getD, List.getElem?_set, Ne.symm h]
    rw [h2, setEnds_get _ _ _ _ _ hj]
    by_cases h1 : i + 1 ≤ j ∧ j < i + 1 + m
    · rw [if_pos h1, if_pos (by omega)]
    · rw [if_neg h1, if_neg (by omega)]
theorem setEnds_all (l : List Int) : setEnds l (List.replicate l.length 0) 0 l.length = endsAll l := by
  unfold setEnds endsAll
  rw [List.length_replicate]
  refine List.map_congr_left (fun j hj => ?_)
  rw [if_pos ⟨Nat.zero_le _, by have := List.mem_range.1 hj; omega⟩]
/-- what 'ends' answers at node i -/
def EndsAt (l : List Int) (i : Nat) : Prop := ∀ out : List Int, out.length = l.length →
  (∀ m, eat (l.drop i) 1 = some m → Ev (fun k => mummerref04_ends.f k l i out) (((i + m : Nat) : Int), true, setEnds l out i m)) ∧
  (eat (l.drop i) 1 = none → ∃ out', Ev (fun k => mummerref04_ends.f k l i out) (0, false, out'))
theorem rd_cast (l : List Int) (j : Nat) (h : j < l.length) : rd l j = l[j] := by simp [rd, List.getD_eq_getElem?_getD, h]
theorem ends_l (l : List Int) (h2 : l.length ≤ 2000) (hnn : ∀ x ∈ l, 0 ≤ x) (hmx : ∀ x ∈ l, x ≤ 9223372036854775807) (i : Nat) (hi : i < l.length) (ih : ∀ j, i < j → j ≤ l.length → EndsAt l j) : ∀ (c next : Nat) (out : List Int), i < next → next ≤ l.length → out.length = l.length → (c : Int) ≤ rd l i →
    (∀ m, eat (l.drop next) c = some m → Ev (fun k => mummerref04_ends.l0 k l i out next (rd l i - c)) (((next + m : Nat) : Int), true, (setEnds l out next m).set i ((next + m : Nat) : Int))) ∧
    (eat (l.drop next) c = none → ∃ out', Ev (fun k => mummerref04_ends.l0 k l i out next (rd l i - c)) (0, false, out'))
  | 0, next, out, h1, hn, ho, hc => by
    rw [eat_zero]
    refine ⟨fun m hm => ?_, fun h => by cases h⟩
    obtain rfl := Option.some.inj hm
    rw [setEnds_zero]
    refine Ev.step (f := fun _ => some _) (fun k => ?_) (Ev.now _)
    simp only [mummerref04_ends.l0]
    rw [if_pos (by omega), if_pos (by omega), if_neg (by omega), if_pos (by omega)]
    rw [Int.toNat_natCast]
    simp
  | c + 1, next, out, h1, hn, ho, hc => by
    have hx0 : 0 ≤ rd l i := by rw [rd_cast l i hi]; exact hnn _ (List.getElem_mem _)
    have hx1 : rd l i ≤ 9223372036854775807 := by rw [rd_cast l i hi]; exact hmx _ (List.getElem_mem _)
    have hst : ∀ k, mummerref04_ends.l0 (k + 1) l i out next (rd l i - (c + 1 : Nat)) = (mummerref04_ends.f k l next out).bind fun b => if b.2.1 = true then mummerref04_ends.l0 k l i b.2.2 b.1 (rd l i - c) else some (0, false, b.2.2) := fun k => by
      simp only [mummerref04_ends.l0]
      rw [if_pos (by omega), if_pos (by omega), if_pos (by omega), wrapS _ (by omega) (by omega)]
      rw [show rd l i - ((c + 1 : Nat) : Int) + 1 = rd l i - c by omega]
    have hadd : eat (l.drop next) (c + 1) = (eat (l.drop next) 1).bind fun m => (eat ((l.drop next).drop m) c).map (m + ·) := by
      rw [show c + 1 = 1 + c by omega]; exact eat_add _ 1 c
    rw [hadd]
    obtain ⟨hy, hnone⟩ := ih next h1 hn out ho
    cases he : eat (l.drop next) 1 with
    | none =>
      refine ⟨fun m hm => (by cases hm), fun _ => ?_⟩
      obtain ⟨out', ho'⟩ := hnone he
      exact ⟨out', Ev.step hst (Ev.bind ho' (Ev.congr (f := fun _ => some (0, false, out')) (fun k => if_neg (by simp)) (Ev.now _)))⟩
    | some m1 =>
      have hle := eat_le _ _ _ he
      have hge := eat_ge _ _ _ he
      rw [List.length_drop] at hle
      have hf := hy m1 he
      have hrec := ends_l l h2 hnn hmx i hi ih c (next + m1) (setEnds l out next m1) (by omega) (by omega) (by rw [setEnds_len, ho]) (by omega)
      simp only [Option.bind_some, List.drop_drop]
      refine ⟨fun m hm => ?_, fun hno => ?_⟩
      · obtain ⟨m2, hm2, rfl⟩ := Option.map_eq_some_iff.mp hm
        have := hrec.1 m2 hm2
        rw [setEnds_add, Nat.add_assoc] at this
        exact Ev.step hst (Ev.bind hf (Ev.congr (fun k => if_pos rfl) this))
      · simp only [Option.map_eq_none_iff] at hno
        obtain ⟨out', ho'⟩ := hrec.2 hno
        exact ⟨out', Ev.step hst (Ev.bind hf (Ev.congr (fun k => if_pos rfl) ho'))⟩
theorem ends_all (l : List Int) (h2 : l.length ≤ 2000) (hnn : ∀ x ∈ l, 0 ≤ x) (hmx : ∀ x ∈ l, x ≤ 9223372036854775807) : ∀ d i, i ≤ l.length → l.length - i ≤ d → EndsAt l i := by
  intro d
  induction d with
  | zero =>
    intro i hi hd out ho
    have e : l.drop i = [] := List.drop_eq_nil_of_le (by omega)
    rw [e]
    refine ⟨fun m hm => (by cases hm), fun _ => ⟨out, Ev.step (f := fun _ => some (0, false, out)) (fun k => ?_) (Ev.now _)⟩⟩
    simp only [mummerref04_ends.f]
    exact if_pos (by omega)
  | succ d ih =>
    intro i hi hd out ho
    by_cases hlt : i < l.length
    · have hst : ∀ k, mummerref04_ends.f (k + 1) l i out = mummerref04_ends.l0 k l i out ((i + 1 : Nat) : Int) (rd l i - ((rd l i).toNat : Int)) := fun k => by
        have hx0 : 0 ≤ rd l i := by rw [rd_cast l i hlt]; exact hnn _ (List.getElem_mem _)
        simp only [mummerref04_ends.f]
        rw [if_neg (by omega), wrapS _ (by omega) (by omega), show rd l i - ((rd l i).toNat : Int) = 0 by omega]
        rfl
      have hx0 : 0 ≤ rd l i := by rw [rd_cast l i hlt]; exact hnn _ (List.getElem_mem _)
      have hL := ends_l l h2 hnn hmx i hlt (fun j h1 h2 => ih j h2 (by omega)) (rd l i).toNat (i + 1) out (by omega) (by omega) ho (by omega)
      rw [eat_one l i hlt]
      refine ⟨fun m hm => ?_, fun hno => ?_⟩
      · obtain ⟨m', hm', rfl⟩ := Option.map_eq_some_iff.mp hm
        have hend : endAt l i = i + 1 + m' := by
          unfold endAt
          rw [eat_one l i hlt, hm']
          simp; omega
        have := hL.1 m' hm'
        rw [setEnds_set l out i m' (by omega) hend, show i + 1 + m' = i + (m' + 1) by omega] at this
        exact Ev.step hst this
      · obtain ⟨out', ho'⟩ := hL.2 (Option.map_eq_none_iff.mp hno)
        exact ⟨out', Ev.step hst ho'⟩
    · have e : l.drop i = [] := List.drop_eq_nil_of_le (by omega)
      rw [e]
      refine ⟨fun m hm => (by cases hm), fun _ => ⟨out, Ev.step (f := fun _ => some (0, false, out)) (fun k => ?_) (Ev.now _)⟩⟩
      simp only [mummerref04_ends.f]
      exact if_pos (by omega)
theorem rshape_l0 (l : List Int) (h2 : l.length ≤ 2000) (hmx : ∀ x ∈ l, x ≤ 9223372036854775807) : ∀ r pre : List Int, l = pre ++ r → (pre.any fun x => decide (x < 0)) = false → Ev (fun k => mummerref04_Shape.l0 k l (pre.length : Int)) (shapeF l)
  | [], pre, e, hp => by
    rw [List.append_nil] at e
    subst e
    have hnn : ∀ x ∈ l, 0 ≤ x := fun x hx => by
      have := List.any_eq_false.mp hp x hx
      simpa using this
    have hs : shapeF l = if eat l 1 = some l.length then (endsAll l, 0) else ([], 6) := by
      unfold shapeF
      rw [if_neg (by omega), if_neg (by rw [hp]; decide)]
    obtain ⟨hy, hno⟩ := ends_all l h2 hnn hmx l.length 0 (by omega) (by omega) (List.replicate l.length 0) (by simp)
    rw [List.drop_zero] at hy hno
    have hst : ∀ k, mummerref04_Shape.l0 (k + 1) l (l.length : Int) = (mummerref04_ends.f k l ((0 : Nat) : Int) (List.replicate l.length 0)).bind fun b => if b.2.1 = true then (if b.1 = (l.length : Int) then some (b.2.2, 0) else some ([], 6)) else some ([], 6) := fun k => by
      simp only [mummerref04_Shape.l0]
      rw [if_neg (by omega), if_pos (by omega), if_pos (by rw [Int.toNat_natCast]; omega), Int.toNat_natCast]
      rfl
    rw [hs]
    cases he : eat l 1 with
    | none =>
      rw [if_neg (by simp)]
      obtain ⟨out', ho'⟩ := hno he
      exact Ev.step hst (Ev.bind ho' (Ev.congr (f := fun _ => some ([], 6)) (fun k => if_neg (by simp)) (Ev.now _)))
    | some m =>
      have hf := hy m he
      by_cases hm : m = l.length
      · subst hm
        rw [if_pos rfl]
        rw [setEnds_all] at hf
        exact Ev.step hst (Ev.bind hf (Ev.congr (f := fun _ => some (endsAll l, 0)) (fun k => by simp) (Ev.now _)))
      · rw [if_neg (by simp [hm])]
        exact Ev.step hst (Ev.bind hf (Ev.congr (f := fun _ => some ([], 6)) (fun k => by simp; omega) (Ev.now _)))
  | x :: r, pre, e, hp => by
    have h1 : pre.length < l.length := by rw [e]; simp
    have hx : rd l pre.length = x := by rw [e]; simp [rd]
    have hst : ∀ k, mummerref04_Shape.l0 (k + 1) l (pre.length : Int) = if x < 0 then some ([], 7) else mummerref04_Shape.l0 k l ((pre ++ [x]).length : Nat) := fun k => by
      simp only [mummerref04_Shape.l0]
      rw [if_pos (by omega), if_pos (by omega), hx, wrapS _ (by omega) (by omega)]
      rw [List.length_append]; rfl
    by_cases h : x < 0
    · have hs : shapeF l = ([], 7) := by
        unfold shapeF
        rw [if_neg (by omega), if_pos (by rw [e]; simp [h])]
      rw [hs]
      exact Ev.step (f := fun _ => some ([], 7)) (fun k => by rw [hst, if_pos h]) (Ev.now _)
    · exact Ev.step (fun k => by rw [hst, if_neg h]) (rshape_l0 l h2 hmx r (pre ++ [x]) (by simp [e]) (by rw [List.any_append, hp]; simpa using h))
theorem rshape_ev (l : List Int) (hmx : ∀ x ∈ l, x ≤ 9223372036854775807) : Ev (fun k => mummerref04_Shape.f k l) (shapeF l) := by
  by_cases h : 2000 < l.length
  · have hs : shapeF l = ([], 3) := if_pos h
    rw [hs]
    exact Ev.congr (f := fun _ => some ([], 3)) (fun k => if_pos (by omega)) (Ev.now _)
  · exact Ev.congr (fun k => if_neg (by omega)) (rshape_l0 l (by omega) hmx l [] rfl rfl)
theorem shapeF_len (l : List Int) : (shapeF l).1.length ≤ 2000 := by
  unfold shapeF
  by_cases h1 : 2000 < l.length
  · rw [if_pos h1]; simp
  · rw [if_neg h1]
    split
    · simp
    · split
      · simp [endsAll]; omega
      · simp
theorem shapes_pure (l : List Int) (wl : WfL (WfI .i64) l) : Ev (fun k => mummerlaw04_DataShapes.f k l) true := by
  by_cases h : (l.length : Int) > 2010
  · exact Ev.congr (fun k => if_pos h) (Ev.bind shown_ev (Ev.now true))
  · refine Ev.congr (fun k => if_neg h) ?_
    have e1 : data_Shape.f l = some (shapeF l) := rfl
    rw [e1]
    simp only [Option.bind_some]
    refine Ev.bind (rshape_ev l (fun x hx => (i64_max (wl.2 x hx)).2)) ?_
    have hI := ints_ev (shapeF l).1 (shapeF l).1 (by have := shapeF_len l; omega)
    rw [decide_eq_true rfl] at hI
    refine Ev.bind hI ?_
    simp only [if_true]
    exact Ev.bind shown_ev (Ev.now true)
end Go.Proofs.YtgmiekggdgmhkaaDoor.Q
end
