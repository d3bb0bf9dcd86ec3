import Derived.Test.YtgmiekggdgmhkaaDoorMC18
import Derived.Test.YtgmiekggdgmhkaaDoorMC21
import Derived.Test.YtgmiekggdgmhkaaDoorMC26
import Derived.Test.YtgmiekggdgmhkaaDoorMC28
import Derived.Test.YtgmiekggdgmhkaaDoorMC29
section
/- DataBack: the printed law comes to true. -/
namespace Go.Proofs.YtgmiekggdgmhkaaDoor.Q
open Go.RowKit Go.Proofs.YtgmiekggdgmhkaaDoorW.PrintWords
set_option linter.unusedVariables false
set_option linter.unusedSimpArgs false
def manyB (l : List ByteArray) : Bool := decide (50 < l.length) || l.any fun s => decide (100 < s.size)
theorem rdS_pre (pre r : List ByteArray) (x : ByteArray) : rdOf ByteArray.empty (pre ++ x :: r) (pre.length : Nat) = x := by simp [rdOf]
theorem wrap_succ (pre : List ByteArray) (x : ByteArray) (h : pre.length ≤ 1000000) : wrap64 ((pre.length : Nat) + 1) = ((pre ++ [x]).length : Nat) := by
  have e1 : ((pre ++ [x]).length : Int) = (pre.length : Int) + 1 := by simp
  have e2 : -9223372036854775808 ≤ (pre.length : Int) + 1 ∧ (pre.length : Int) + 1 ≤ 9223372036854775807 := by omega
  rw [e1]
  exact wrapS _ e2.1 e2.2
theorem many_l0 (l : List ByteArray) (hl : l.length ≤ 50) : ∀ r pre : List ByteArray, l = pre ++ r → Ev (fun k => mummerlaw04_many.l0 k l (pre.length : Nat)) (r.any fun s => decide (100 < s.size))
  | [], pre, e => by
    refine Ev.step (f := fun _ => some false) (fun k => ?_) (Ev.now _)
    simp only [mummerlaw04_many.l0]
    exact if_neg (by rw [e]; simp)
  | x :: r, pre, e => by
    have h1 : pre.length < l.length := by rw [e]; simp
    have hx : rdOf ByteArray.empty l (pre.length : Nat) = x := by rw [e]; exact rdS_pre pre r x
    have hst : ∀ k, mummerlaw04_many.l0 (k + 1) l (pre.length : Nat) = if (x.size : Int) > 100 then some true else mummerlaw04_many.l0 k l ((pre ++ [x]).length : Nat) := fun k => by
      simp only [mummerlaw04_many.l0]
      rw [if_pos (by omega), if_pos (by omega), hx, wrap_succ pre x (by omega)]
    by_cases h : (x.size : Int) > 100
    · rw [List.any_cons, decide_eq_true (show 100 < x.size by omega), Bool.true_or]
      exact Ev.step (f := fun _ => some true) (fun k => by rw [hst, if_pos h]) (Ev.now _)
    · rw [List.any_cons, decide_eq_false (show ¬ 100 < x.size by omega), Bool.false_or]
      exact Ev.step (fun k => by rw [hst, if_neg h]) (many_l0 l hl r (pre ++ [x]) (by simp [e]))
theorem many_ev (l : List ByteArray) : Ev (fun k => mummerlaw04_many.f k l) (manyB l) := by
  unfold manyB
  by_cases h : 50 < l.length
  · rw [decide_eq_true h, Bool.true_or]
    exact Ev.congr (f := fun _ => some true) (fun k => if_pos (by omega)) (Ev.now _)
  · rw [decide_eq_false h, Bool.false_or]
    exact Ev.congr (fun k => if_neg (by omega)) (many_l0 l (by omega) l [] rfl)
theorem manyB_len {l : List ByteArray} (h : manyB l = false) : l.length ≤ 50 := by
  unfold manyB at h
  simp at h
  exact h.1
/-! ### names in lists -/
theorem compactUpTo_mem {α : Type} [Inhabited α] [DecidableEq α] (d : Array α) : ∀ m i, i < m → d[i]! ∈ Lib.compactUpTo d m
  | m + 1, i, hi => by
    rw [Lib.compactUpTo_succ, List.mem_append]
    by_cases h : i < m
    · exact Or.inl (compactUpTo_mem d m i h)
    · obtain rfl : i = m := by omega
      by_cases hk : Lib.keeps d i = true
      · rw [if_pos hk]; exact Or.inr (List.mem_singleton.mpr rfl)
      · have h2 : i ≠ 0 ∧ d[i]! = d[i - 1]! := by
          unfold Lib.keeps at hk
          simp only [decide_eq_true_eq, not_or, Decidable.not_not] at hk
          exact hk
        rw [h2.2]
        exact Or.inl (compactUpTo_mem d i (i - 1) (by omega))
theorem mem_compact {α : Type} [Inhabited α] [DecidableEq α] (l : List α) (x : α) (h : x ∈ l) : x ∈ Lib.compact l := by
  obtain ⟨i, hi, rfl⟩ := List.getElem_of_mem h
  have := compactUpTo_mem l.toArray l.length i hi
  have e : l.toArray[i]! = l[i] := by simp [hi]
  rw [e] at this
  exact this
theorem mem_tidy {l : List ByteArray} {s : ByteArray} (h : s ∈ l) : s ∈ tidy l := by
  unfold tidy
  have h1 : s.data.toList ∈ (l.map (·.data.toList)).mergeSort fun x y => decide (x ≤ y) := (List.mem_mergeSort ..).mpr (List.mem_map.mpr ⟨s, h, rfl⟩)
  have h2 := mem_compact _ _ h1
  exact List.mem_map.mpr ⟨_, h2, by cases s; simp⟩
/-- each name once -/
def Once (l : List ByteArray) : Prop := ∀ i k : Nat, k < i → i < l.length → strAt l k ≠ strAt l i
theorem placeGo_none (x : ByteArray) : ∀ (l : List ByteArray) (i : Int), x ∉ l → placeGo x l i = -1
  | [], i, _ => rfl
  | y :: l, i, h => by
    unfold placeGo
    rw [if_neg (fun e => h (by rw [e]; exact List.mem_cons_self ..)), placeGo_none x l (i + 1) (fun hh => h (List.mem_cons_of_mem _ hh))]
theorem placeI_none {l : List ByteArray} {x : ByteArray} (h : x ∉ l) : placeI l x = -1 := placeGo_none x l 0 h
theorem placeGo_at (x : ByteArray) : ∀ (l : List ByteArray) (i : Int) (k : Nat) (hk : k < l.length), l[k] = x → (∀ j (hj : j < l.length), j < k → l[j] ≠ x) → placeGo x l i = i + k
  | y :: l, i, 0, hk, e, _ => by
    unfold placeGo
    have e' : y = x := e
    rw [if_pos e'.symm]; simp
  | y :: l, i, k + 1, hk, e, hn => by
    unfold placeGo
    have h0 := hn 0 (by simp) (by omega)
    have h0' : y ≠ x := h0
    rw [if_neg (fun e => h0' e.symm), placeGo_at x l (i + 1) k (by simpa using hk) e (fun j hj hjk => by
      have := hn (j + 1) (by simp; omega) (by omega)
      simpa using this)]
    omega
theorem placeI_at {l : List ByteArray} (h : Once l) {k : Nat} (hk : k < l.length) : placeI l (strAt l k) = k := by
  unfold placeI
  rw [placeGo_at (strAt l k) l 0 k hk (strAt_eq l k hk).symm (fun j hj hjk e => h k j hjk hk (by rw [strAt_eq l j hj, e])), Int.zero_add]
theorem placeI_has {l : List ByteArray} {x : ByteArray} (h : 0 ≤ placeI l x) : (placeI l x).toNat < l.length ∧ strAt l (placeI l x).toNat = x := by
  rcases placeGo_range x l 0 with e | ⟨a, b, c⟩
  · unfold placeI at h; omega
  · have e : (placeGo x l 0 - 0).toNat = (placeI l x).toNat := by unfold placeI; rw [Int.sub_zero]
    rw [e] at c
    obtain ⟨h1, h2⟩ := List.getElem?_eq_some_iff.mp c
    exact ⟨h1, by rw [strAt_eq l _ h1, h2]⟩
theorem dupTo_once {l : List ByteArray} (h : Once l) : dupTo l l.length = false := by
  unfold dupTo
  rw [List.any_eq_false]
  intro i hi
  have hi' := List.mem_range.mp hi
  rw [placeI_at h hi']
  simp
theorem badB_app (a b : List ByteArray) : badB (a ++ b) = (badB a || badB b) := by unfold badB; rw [List.any_append]
theorem badB_sym {l : List ByteArray} (h : badB l = false) {i : Nat} (hi : i < l.length) : symB (strAt l i) = true := by
  unfold badB at h
  have := List.any_eq_false.mp h (strAt l i) (by rw [strAt_eq l i hi]; exact List.getElem_mem _)
  simpa using this
/-! ### a datum with other names is a datum -/
theorem renN_f1 (fr tt : List ByteArray) (x : DN) : (renN fr tt x).f1 = x.f1 ∧ (renN fr tt x).f0 = x.f0 := by
  unfold renN; split <;> exact ⟨rfl, rfl⟩
theorem renN_alone (fr tt : List ByteArray) (he : fr.length = tt.length) (hb : badB tt = false) (x : DN) (h1 : (aloneF x.f0 x.f1 x.f2 x.f3).1 = 0) (h2 : (aloneF x.f0 x.f1 x.f2 x.f3).2 = 0) :
    (aloneF (renN fr tt x).f0 (renN fr tt x).f1 (renN fr tt x).f2 (renN fr tt x).f3).1 = 0 ∧ (aloneF (renN fr tt x).f0 (renN fr tt x).f1 (renN fr tt x).f2 (renN fr tt x).f3).2 = 0 := by
  unfold renN
  by_cases h : x.f0 = 3 ∧ 0 ≤ placeI fr x.f3
  · rw [if_pos h]
    have hs := badB_sym hb (i := (placeI fr x.f3).toNat) (by have := placeI_lt fr x.f3; omega)
    dsimp only
    unfold aloneF at h1 ⊢
    rw [if_neg (by omega), if_neg (by omega), if_pos h.1] at h1 ⊢
    rw [hs]
    exact ⟨h1, rfl⟩
  · rw [if_neg h]; exact ⟨h1, h2⟩
theorem chkGo_ren (fr tt : List ByteArray) (he : fr.length = tt.length) (hb : badB tt = false) : ∀ (r : List DN) (i : Int) (s : List Int), (chkGo i s r).2 = 0 → (chkGo i s (r.map (renN fr tt))).2 = 0
  | [], i, s, h => h
  | x :: r, i, [], h => by simp [chkGo] at h
  | x :: r, i, m :: s, h => by
    rw [List.map_cons]
    simp only [chkGo] at h ⊢
    by_cases h1 : (aloneF x.f0 x.f1 x.f2 x.f3).1 ≠ 0
    · rw [if_pos h1] at h; simp at h
    rw [if_neg h1] at h
    by_cases h2 : 33 < s.length + 1
    · rw [if_pos h2] at h; simp at h
    rw [if_neg h2] at h
    by_cases h3 : (aloneF x.f0 x.f1 x.f2 x.f3).2 ≠ 0
    · rw [if_pos h3] at h; exact absurd h h3
    rw [if_neg h3] at h
    obtain ⟨a, b⟩ := renN_alone fr tt he hb x (Decidable.not_not.mp h1) (Decidable.not_not.mp h3)
    rw [if_neg (fun hh => hh a), if_neg h2, if_neg (fun hh => hh b), (renN_f1 fr tt x).1]
    exact chkGo_ren fr tt he hb r _ _ h
theorem chkF_ren (fr tt : List ByteArray) (he : fr.length = tt.length) (hb : badB tt = false) {t : List DN} (h : (chkF t).2 = 0) : (chkF (t.map (renN fr tt))).2 = 0 := by
  unfold chkF at h ⊢
  by_cases h0 : t = []
  · rw [if_pos h0] at h; simp at h
  rw [if_neg h0] at h
  rw [if_neg (by simpa using h0), List.length_map]
  by_cases h1 : 400 < t.length
  · rw [if_pos h1] at h; simp at h
  rw [if_neg h1] at h ⊢
  exact chkGo_ren fr tt he hb t 0 [1] h
theorem inR_ren (fr tt : List ByteArray) {t : List DN} (h : InR t) : InR (t.map (renN fr tt)) := fun x hx => by
  obtain ⟨y, hy, rfl⟩ := List.mem_map.mp hx
  rw [(renN_f1 fr tt y).1]; exact h y hy
/-- a name there and back -/
theorem renN_back (fr tt : List ByteArray) (he : fr.length = tt.length) (ho : Once tt) (x : DN) (hx : x.f0 = 3 → x.f3 ∉ tt) : renN tt fr (renN fr tt x) = x := by
  unfold renN
  by_cases h : x.f0 = 3 ∧ 0 ≤ placeI fr x.f3
  · rw [if_pos h]
    obtain ⟨p1, p2⟩ := placeI_has h.2
    dsimp only
    rw [placeI_at ho (by omega), if_pos ⟨h.1, by omega⟩, Int.toNat_natCast, p2]
  · rw [if_neg h]
    by_cases h3 : x.f0 = 3
    · rw [placeI_none (hx h3), if_neg (by omega)]
    · rw [if_neg (fun hh => h3 hh.1)]
/-- what Rename did is undone -/
theorem ren_back (fr tt : List ByteArray) {t : List DN} (hR : InR t) (h : (renF t fr tt).2 = 0) (ho : Once tt) (hx : ∀ s ∈ symsOf t, s ∉ tt) : renF (renF t fr tt).1 tt fr = (t, 0) := by
  unfold renF at h
  by_cases e1 : (chkF t).2 = 0
  · by_cases e2 : fr.length = tt.length
    · by_cases e3 : badB (fr ++ tt) = true
      · rw [if_neg (fun hh => hh e1), if_neg (fun hh => hh e2), if_pos e3] at h; simp at h
      · by_cases e4 : dupTo fr fr.length = true
        · rw [if_neg (fun hh => hh e1), if_neg (fun hh => hh e2), if_neg e3, if_pos e4] at h; simp at h
        · have hF : renF t fr tt = (t.map (renN fr tt), 0) := by
            unfold renF
            rw [if_neg (fun hh => hh e1), if_neg (fun hh => hh e2), if_neg e3, if_neg e4]
          have e3' : badB fr = false ∧ badB tt = false := by
            rw [badB_app] at e3
            simpa using e3
          rw [hF]
          unfold renF
          rw [if_neg (fun hh => hh (chkF_ren fr tt e2 e3'.2 e1)), if_neg (fun hh => hh e2.symm), if_neg (by rw [badB_app, e3'.1, e3'.2]; decide), if_neg (by rw [dupTo_once ho]; decide)]
          congr 1
          rw [List.map_map]
          have : ∀ x ∈ t, (renN tt fr ∘ renN fr tt) x = x := fun x hxt => renN_back fr tt e2 ho x (fun h3 => hx _ (by
            unfold symsOf
            exact List.mem_map.mpr ⟨x, List.mem_filter.mpr ⟨hxt, by simp [h3]⟩, rfl⟩))
          rw [List.map_congr_left this, List.map_id'']
          intro x; rfl
    · rw [if_neg (fun hh => hh e1), if_pos e2] at h; simp at h
  · rw [if_pos e1] at h; exact absurd h e1
/-! ### the law's loops -/
theorem wrap_nat (k : Nat) (h : k ≤ 1000000) : wrap64 ((k : Int) + 1) = ((k + 1 : Nat) : Int) := by
  have e1 : -9223372036854775808 ≤ (k : Int) + 1 ∧ (k : Int) + 1 ≤ 9223372036854775807 := by omega
  rw [wrapS _ e1.1 e1.2]; omega
theorem back_l2 (t : List DN) (L : List ByteArray) (u : List DN) (fr tt : List ByteArray) (i : Nat) (hi : i < tt.length) (hl : tt.length ≤ 50)
    (hn : (∀ k, k < i → strAt tt k ≠ strAt tt i) → Ev (fun k => mummerlaw04_DataBack.l0 k t L u ((i + 1 : Nat) : Int) fr tt) true) : ∀ d j : Nat, j + d = i → (∀ k, k < j → strAt tt k ≠ strAt tt i) →
    Ev (fun k => mummerlaw04_DataBack.l2 k t L u i j fr tt) true
  | 0, j, hj, hk => by
    obtain rfl : j = i := by omega
    refine Ev.step (fun k => ?_) (hn hk)
    simp only [mummerlaw04_DataBack.l2]
    rw [if_neg (by omega), wrap_nat j (by omega)]
  | d + 1, j, hj, hk => by
    have hst : ∀ k, mummerlaw04_DataBack.l2 (k + 1) t L u i j fr tt = if (strAt tt j).toList = (strAt tt i).toList then ((mummerlaw04_shown.f k).bind fun x => some x) else mummerlaw04_DataBack.l2 k t L u i ((j + 1 : Nat) : Int) fr tt := fun k => by
      simp only [mummerlaw04_DataBack.l2]
      rw [if_pos (by omega), if_pos (by omega), if_pos (by omega), if_pos (by omega), if_pos (by omega), wrap_nat j (by omega)]
      rfl
    by_cases e : strAt tt j = strAt tt i
    · exact Ev.step (fun k => by rw [hst, if_pos (by rw [e])]) (Ev.bind shown_ev (Ev.now true))
    · exact Ev.step (fun k => by rw [hst, if_neg (fun hh => e (toList_inj.mp hh))]) (back_l2 t L u fr tt i hi hl hn d (j + 1) (by omega) (fun k hk2 => by
        by_cases e2 : k = j
        · rw [e2]; exact e
        · exact hk k (by omega)))
theorem back_l1 (t : List DN) (L : List ByteArray) (u : List DN) (fr tt : List ByteArray) (i : Nat) (hi : i < tt.length) (hl : tt.length ≤ 50) (hL : L.length ≤ 1000)
    (hn : (∀ k, k < L.length → strAt L k ≠ strAt tt i) → Ev (fun k => mummerlaw04_DataBack.l2 k t L u i 0 fr tt) true) : ∀ d j : Nat, j + d = L.length → (∀ k, k < j → strAt L k ≠ strAt tt i) →
    Ev (fun k => mummerlaw04_DataBack.l1 k t L u i j fr tt) true
  | 0, j, hj, hk => by
    obtain rfl : j = L.length := by omega
    refine Ev.step (fun k => ?_) (hn hk)
    simp only [mummerlaw04_DataBack.l1]
    rw [if_neg (by omega)]
  | d + 1, j, hj, hk => by
    have hst : ∀ k, mummerlaw04_DataBack.l1 (k + 1) t L u i j fr tt = if (strAt L j).toList = (strAt tt i).toList then ((mummerlaw04_shown.f k).bind fun x => some x) else mummerlaw04_DataBack.l1 k t L u i ((j + 1 : Nat) : Int) fr tt := fun k => by
      simp only [mummerlaw04_DataBack.l1]
      rw [if_pos (by omega), if_pos (by omega), if_pos (by omega), if_pos (by omega), wrap_nat j (by omega)]
      rfl
    by_cases e : strAt L j = strAt tt i
    · exact Ev.step (fun k => by rw [hst, if_pos (by rw [e])]) (Ev.bind shown_ev (Ev.now true))
    · exact Ev.step (fun k => by rw [hst, if_neg (fun hh => e (toList_inj.mp hh))]) (back_l1 t L u fr tt i hi hl hL hn d (j + 1) (by omega) (fun k hk2 => by
        by_cases e2 : k = j
        · rw [e2]; exact e
        · exact hk k (by omega)))
theorem back_l0 (t : List DN) (fr tt : List ByteArray) (hR : InR t) (hf : fr.length ≤ 50) (hl : tt.length ≤ 50) (hF : (renF t fr tt).2 = 0) (L : List ByteArray) (hL : L = tidy (symsOf t)) (hLl : L.length ≤ 1000) : ∀ d i : Nat, i + d = tt.length →
    (∀ a, a < i → (∀ k, k < L.length → strAt L k ≠ strAt tt a) ∧ ∀ k, k < a → strAt tt k ≠ strAt tt a) → Ev (fun k => mummerlaw04_DataBack.l0 k t L (renF t fr tt).1 i fr tt) true
  | 0, i, hi, ha => by
    obtain rfl : i = tt.length := by omega
    have hO : Once tt := fun a k hk hal => (ha a hal).2 k hk
    have hx : ∀ s ∈ symsOf t, s ∉ tt := fun s hs hst => by
      have h1 := mem_tidy hs
      rw [← hL] at h1
      obtain ⟨k, hk, e⟩ := List.getElem_of_mem h1
      obtain ⟨a, hal, e2⟩ := List.getElem_of_mem hst
      exact (ha a hal).1 k hk (by rw [strAt_eq L k hk, strAt_eq tt a hal, e, e2])
    have hb := ren_back fr tt hR hF hO hx
    have hRu : InR (renF t fr tt).1 := by
      unfold renF
      split
      · intro x hx; simp at hx
      · split
        · intro x hx; simp at hx
        · split
          · intro x hx; simp at hx
          · split
            · intro x hx; simp at hx
            · exact inR_ren fr tt hR
    have hcall : data_Rename.f (renF t fr tt).1 tt fr = some (t, 0) := by
      rw [← hb]; exact if_pos ⟨(inR_iff _).mpr hRu, by omega, by omega⟩
    have hlen : t.length ≤ 400 := by
      unfold renF at hF
      by_cases e1 : (chkF t).2 = 0
      · exact (chkF_ok t hR e1).2.2.2.1
      · rw [if_pos e1] at hF; exact absurd hF e1
    refine Ev.step (f := fun k => (some (t, (0 : Int))).bind _) (fun k => by
      simp only [mummerlaw04_DataBack.l0]
      rw [if_neg (by omega), hcall]) ?_
    dsimp only [Option.bind_some]
    exact Ev.congr (fun k => if_pos rfl) (Ev.bind (same_ev t (by omega)) (Ev.congr (fun k => if_pos rfl) (Ev.bind shown_ev (Ev.now true))))
  | d + 1, i, hi, ha => by
    have hil : i < tt.length := by omega
    have hst : ∀ k, mummerlaw04_DataBack.l0 (k + 1) t L (renF t fr tt).1 i fr tt = mummerlaw04_DataBack.l1 k t L (renF t fr tt).1 i 0 fr tt := fun k => by
      simp only [mummerlaw04_DataBack.l0]
      rw [if_pos (by omega)]
    refine Ev.step hst ?_
    refine back_l1 t L (renF t fr tt).1 fr tt i hil hl hLl (fun h1 => ?_) L.length 0 (by omega) (fun k hk => by omega)
    refine back_l2 t L (renF t fr tt).1 fr tt i hil hl (fun h2 => ?_) i 0 (by omega) (fun k hk => by omega)
    exact back_l0 t fr tt hR hf hl hF L hL hLl d (i + 1) (by omega) (fun a haa => by
      by_cases e : a = i
      · subst e; exact ⟨h1, h2⟩
      · exact ha a (by omega))
theorem tidy_len (l : List ByteArray) : (tidy l).length ≤ l.length := by
  unfold tidy
  rw [List.length_map]
  have := Lib.compact_length_le ((l.map (·.data.toList)).mergeSort fun x y => decide (x ≤ y))
  rw [List.length_mergeSort, List.length_map] at this
  exact this
theorem back_j1t (t : List DN) (L : List ByteArray) (u : List DN) (fr tt : List ByteArray) : Ev (fun k => mummerlaw04_DataBack.j1 k t L u true fr tt) true :=
  Ev.step (fun k => by simp only [mummerlaw04_DataBack.j1]; exact if_pos trivial) (Ev.bind shown_ev (Ev.now true))
theorem back_j0t (t : List DN) (fr tt : List ByteArray) : Ev (fun k => mummerlaw04_DataBack.j0 k t true fr tt) true :=
  Ev.step (fun k => by simp only [mummerlaw04_DataBack.j0]; exact if_pos trivial) (Ev.bind shown_ev (Ev.now true))
theorem back_j0 (t : List DN) (fr tt : List ByteArray) (hR : InR t) (hf : fr.length ≤ 50) (hl : tt.length ≤ 50) : Ev (fun k => mummerlaw04_DataBack.j0 k t false fr tt) true := by
  have e1 : data_Symbols.f t = some (symF t) := if_pos ((inR_iff t).mpr hR)
  have e2 : data_Rename.f t fr tt = some (renF t fr tt) := if_pos ⟨(inR_iff t).mpr hR, by omega, by omega⟩
  refine Ev.step (f := fun k => (some (symF t)).bind _) (fun k => by simp only [mummerlaw04_DataBack.j0]; rw [if_neg (by decide), e1]) ?_
  dsimp only [Option.bind_some]
  rw [e2]
  dsimp only [Option.bind_some]
  by_cases h1 : (symF t).2 = 0
  · refine Ev.congr (fun k => if_pos h1) ?_
    by_cases h2 : (renF t fr tt).2 = 0
    · rw [h2]
      have hc : (chkF t).2 = 0 := by
        by_cases e : (chkF t).2 = 0
        · exact e
        · have e3 : symF t = ([], (chkF t).2) := if_pos e
          rw [e3] at h1; exact absurd h1 e
      have e3 : symF t = (tidy (symsOf t), 0) := if_neg (fun hh => hh hc)
      have h400 := (chkF_ok t hR hc).2.2.2.1
      have hll := tidy_len (symsOf t)
      have hsl := symsOf_len t
      rw [e3]
      have hgo := back_l0 t fr tt hR hf hl h2 (tidy (symsOf t)) rfl (by omega) tt.length 0 (by omega) (fun a ha => by omega)
      exact Ev.step (fun k => by simp only [mummerlaw04_DataBack.j1]; exact if_neg (by decide)) hgo
    · have e : ((renF t fr tt).2 != 0) = true := bne_iff_ne.mpr h2
      rw [e]
      exact back_j1t _ _ _ _ _
  · exact Ev.congr (fun k => if_neg h1) (back_j1t _ _ _ _ _)
theorem back_pure (t : List DN) (fr tt : List ByteArray) (wt : WfT t) (wf : WfL WfS fr ∧ WfL WfS tt) : Ev (fun k => mummerlaw04_DataBack.f k t fr tt) true := by
  refine Ev.bind (far_ev t) ?_
  cases farB t with
  | true => exact Ev.congr (fun k => if_pos rfl) (back_j0t t fr tt)
  | false =>
    refine Ev.congr (fun k => if_neg (by decide)) (Ev.bind (many_ev fr) ?_)
    cases h1 : manyB fr with
    | true => exact Ev.congr (fun k => if_pos rfl) (back_j0t t fr tt)
    | false =>
      refine Ev.congr (fun k => if_neg (by decide)) (Ev.bind (many_ev tt) ?_)
      cases h2 : manyB tt with
      | true => exact back_j0t t fr tt
      | false => exact back_j0 t fr tt (inR_of wt) (manyB_len h1) (manyB_len h2)
end Go.Proofs.YtgmiekggdgmhkaaDoor.Q
end
