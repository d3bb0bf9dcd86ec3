import Derived.Test.YtgmiekggdgmhkaaDoorMO18
import Derived.Test.YtgmiekggdgmhkaaDoorMO23
import Derived.Test.YtgmiekggdgmhkaaDoorMO24
import Derived.Test.YtgmiekggdgmhkaaDoorMO29
import Derived.Test.YtgmiekggdgmhkaaDoorMO30
section
/- data's order, plainly: two data stand as their nodes do, one behind the other, each list's end being less than any node. -/
namespace Go.Proofs.YtgmiekggdgmhkaaDoor.Q
open Go.RowKit Go.Proofs.YtgmiekggdgmhkaaDoorW.PrintWords
set_option linter.unusedVariables false
set_option linter.unusedSimpArgs false
theorem cmpI_Z (a b : Int) : U.cmpI a b = cmpZ a b := rfl
theorem cmpS_T (a b : ByteArray) : U.cmpS a b = cmpT a b := by
  unfold U.cmpS
  by_cases h : Op.bytesLess a.toList b.toList = true
  · rw [if_pos h]
    have h1 := (less_T a b).mp h
    have h2 := cmpT_cmp.lo a b
    omega
  · rw [if_neg h]
    have h1 : ¬ cmpT a b < 0 := fun hh => h ((less_T a b).mpr hh)
    by_cases e : (a.toList == b.toList) = true
    · rw [if_pos e]
      exact ((cmpT_zero a b).mpr (bytes_inj (by simpa using e))).symm
    · rw [if_neg e]
      have h2 := cmpT_cmp.hi a b
      have h3 : cmpT a b ≠ 0 := fun hh => e (by rw [(cmpT_zero a b).mp hh]; simp)
      omega
/-- how two nodes stand -/
def cmpM (x y : DN) : Int := if cmpZ x.f0 y.f0 ≠ 0 then cmpZ x.f0 y.f0 else (fun x y : DN => if cmpZ x.f2 y.f2 ≠ 0 then cmpZ x.f2 y.f2 else cmpT x.f3 y.f3) x y
theorem cmpN_M (x y : DN) : cmpN x y = cmpM x y := by
  unfold cmpN cmpM U.or3
  rw [cmpI_Z, cmpI_Z, cmpS_T]
  dsimp only
  by_cases h : cmpZ x.f0 y.f0 = 0
  · rw [if_pos h, if_neg (show ¬ cmpZ x.f0 y.f0 ≠ 0 from fun hh => hh h)]
    by_cases h2 : cmpZ x.f2 y.f2 = 0
    · rw [if_pos h2, if_neg (show ¬ cmpZ x.f2 y.f2 ≠ 0 from fun hh => hh h2)]
    · rw [if_neg h2, if_pos h2]
  · rw [if_neg h, if_pos h]
theorem cmpM_cmp : Cmp cmpM := cmpZ_cmp.both (cmpZ_cmp.both cmpT_cmp (fun x : DN => x.f2) (fun x : DN => x.f3)) (fun x : DN => x.f0) id
theorem cmpM_zero (x y : DN) : cmpM x y = 0 ↔ x.f0 = y.f0 ∧ x.f2 = y.f2 ∧ x.f3 = y.f3 := by
  unfold cmpM
  dsimp only
  rw [← cmpZ_zero x.f0, ← cmpZ_zero x.f2, ← cmpT_zero]
  by_cases h : cmpZ x.f0 y.f0 = 0
  · rw [if_neg (show ¬ cmpZ x.f0 y.f0 ≠ 0 from fun hh => hh h)]
    by_cases h2 : cmpZ x.f2 y.f2 = 0
    · rw [if_neg (show ¬ cmpZ x.f2 y.f2 ≠ 0 from fun hh => hh h2)]; simp [h, h2]
    · rw [if_pos h2]; simp [h2]
  · rw [if_pos h]; simp [h]
/-- a node, or a list's end -/
def cmpO : Option DN → Option DN → Int
  | none, none => 0
  | none, some _ => -1
  | some _, none => 1
  | some x, some y => cmpM x y
theorem cmpO_cmp : Cmp cmpO where
  lo a b := by
    cases a <;> cases b <;> simp only [cmpO] <;> first | omega | exact cmpM_cmp.lo _ _
  hi a b := by
    cases a <;> cases b <;> simp only [cmpO] <;> first | omega | exact cmpM_cmp.hi _ _
  anti a b := by
    cases a <;> cases b <;> simp only [cmpO] <;> first | omega | exact cmpM_cmp.anti _ _
  tr a b d h1 h2 := by
    cases a <;> cases b <;> cases d <;> simp only [cmpO] at h1 h2 ⊢ <;> first | omega | exact cmpM_cmp.tr _ _ _ h1 h2
/-- the nodes, and where lists end; the stack has how many are still to come -/
def tok : List Nat → List DN → List (Option DN)
  | [], _ => []
  | 0 :: s, l => none :: tok s l
  | (_ + 1) :: _, [] => []
  | (c + 1) :: s, x :: l => some x :: tok (x.f1.toNat :: c :: s) l
termination_by s l => 2 * l.length + s.length
decreasing_by all_goals simp_wf; (try omega)
theorem tok_zero (s : List Nat) (l : List DN) : tok (0 :: s) l = none :: tok s l := by rw [tok]
theorem tok_succ (c : Nat) (s : List Nat) (x : DN) (l : List DN) : tok ((c + 1) :: s) (x :: l) = some x :: tok (x.f1.toNat :: c :: s) l := by rw [tok]
theorem drop_at {t : List DN} {i : Nat} (hi : i < t.length) : t.drop i = rd_T51 t i :: t.drop (i + 1) := by
  rw [List.drop_eq_getElem_cons hi]
  congr 1
  simp [rd_T51, List.getD_eq_getElem?_getD, hi]
theorem rdT_N {t : List DN} {i : Nat} (hi : i < t.length) : (rd_T51 t i).f1.toNat = kidN (kidsOf t) i := by
  unfold kidN; rw [rdT_kids t i hi]
/-- what is left to compare of two lists of children -/
def restT (ks : List Int) (i j c : Nat) : List (Int × Int) := (List.range' j c).map fun j : Nat => ((j : Int), (kth ks (i + 1) j : Int))
theorem ordK_tok (t1 t2 : List DN) (h1 : Whole (kidsOf t1)) (h2 : Whole (kidsOf t2)) (o : Int → Int → Int) (i k : Nat) (hi : i < t1.length) (hk : k < t2.length)
    (ho : ∀ p q : Nat, i < p → p < t1.length → q < t2.length → ∀ c1 s1 c2 s2, lexC cmpO (tok ((c1 + 1) :: s1) (t1.drop p)) (tok ((c2 + 1) :: s2) (t2.drop q)) = if o p q ≠ 0 then o p q else lexC cmpO (tok (c1 :: s1) (t1.drop (endAt (kidsOf t1) p))) (tok (c2 :: s2) (t2.drop (endAt (kidsOf t2) q))))
    (S1 S2 : List Nat) (x y : Int) : ∀ (c j d : Nat), j + c = kidN (kidsOf t1) i → j + d = kidN (kidsOf t2) k → x = (j + c : Nat) → y = (j + d : Nat) →
    lexC cmpO (tok (c :: S1) (t1.drop (kth (kidsOf t1) (i + 1) j))) (tok (d :: S2) (t2.drop (kth (kidsOf t2) (k + 1) j))) =
      if (ordK o (endsAll (kidsOf t2)) (rd (endsAll (kidsOf t2)) k) (restT (kidsOf t1) i j c) (kth (kidsOf t2) (k + 1) j : Nat)).getD (cmpZ x y) ≠ 0 then (ordK o (endsAll (kidsOf t2)) (rd (endsAll (kidsOf t2)) k) (restT (kidsOf t1) i j c) (kth (kidsOf t2) (k + 1) j : Nat)).getD (cmpZ x y)
      else lexC cmpO (tok S1 (t1.drop (endAt (kidsOf t1) i))) (tok S2 (t2.drop (endAt (kidsOf t2) k))) := by
  have hik : i < (kidsOf t1).length := by rw [kidsOf_len]; exact hi
  have hkk : k < (kidsOf t2).length := by rw [kidsOf_len]; exact hk
  have hlim : rd (endsAll (kidsOf t2)) k = (kth (kidsOf t2) (k + 1) (kidN (kidsOf t2) k) : Nat) := by rw [rd_ends _ k hkk, kth_last h2 hkk]
  intro c
  induction c with
  | zero =>
    intro j d hc hd hx hy
    have e1 : kth (kidsOf t1) (i + 1) j = endAt (kidsOf t1) i := by rw [← kth_last h1 hik]; congr 1
    have e2 : ordK o (endsAll (kidsOf t2)) (rd (endsAll (kidsOf t2)) k) (restT (kidsOf t1) i j 0) (kth (kidsOf t2) (k + 1) j : Nat) = none := rfl
    rw [e2, Option.getD_none, tok_zero, e1]
    cases d with
    | zero =>
      have e3 : kth (kidsOf t2) (k + 1) j = endAt (kidsOf t2) k := by rw [← kth_last h2 hkk]; congr 1
      have e4 : cmpZ x y = 0 := (cmpZ_zero x y).mpr (by omega)
      rw [tok_zero, lexC_cons, e3, e4]
      rfl
    | succ d =>
      obtain ⟨_, _, _, g⟩ := kth_in h2 hkk (j := j) (by omega)
      rw [kidsOf_len] at g
      have e4 : cmpZ x y = -1 := by unfold cmpZ; rw [if_pos (by omega)]
      rw [drop_at g, tok_succ, lexC_cons, e4]
      rfl
  | succ c ih =>
    intro j d hc hd hx hy
    obtain ⟨g1, g2, g3, g4⟩ := kth_in h1 hik (j := j) (by omega)
    rw [kidsOf_len] at g4
    have e0 : restT (kidsOf t1) i j (c + 1) = ((j : Int), (kth (kidsOf t1) (i + 1) j : Int)) :: restT (kidsOf t1) i (j + 1) c := by unfold restT; rw [List.range'_succ]; rfl
    rw [e0]
    generalize hR : (ordK o (endsAll (kidsOf t2)) (rd (endsAll (kidsOf t2)) k) (((j : Int), (kth (kidsOf t1) (i + 1) j : Int)) :: restT (kidsOf t1) i (j + 1) c) (kth (kidsOf t2) (k + 1) j : Nat)).getD (cmpZ x y) = R
    simp only [ordK] at hR
    cases d with
    | zero =>
      have hle : rd (endsAll (kidsOf t2)) k ≤ (kth (kidsOf t2) (k + 1) j : Nat) := by
        have e1 : j = kidN (kidsOf t2) k := by omega
        rw [hlim, ← e1]; exact Int.le_refl _
      rw [if_pos hle, Option.getD_some] at hR
      subst hR
      rw [tok_zero, drop_at g4, tok_succ, lexC_cons]
      rfl
    | succ d =>
      obtain ⟨q1, q2, q3, q4⟩ := kth_in h2 hkk (j := j) (by omega)
      rw [kidsOf_len] at q4
      have hll := kth_lt h2 hkk (a := j) (b := kidN (kidsOf t2) k) (by omega) (Nat.le_refl _)
      have hle : ¬ rd (endsAll (kidsOf t2)) k ≤ (kth (kidsOf t2) (k + 1) j : Nat) := by rw [hlim]; omega
      rw [if_neg hle] at hR
      rw [ho _ _ g1 g4 q4]
      by_cases e5 : o (kth (kidsOf t1) (i + 1) j : Nat) (kth (kidsOf t2) (k + 1) j : Nat) = 0
      · rw [if_neg (show ¬ o (kth (kidsOf t1) (i + 1) j : Nat) (kth (kidsOf t2) (k + 1) j : Nat) ≠ 0 from fun hh => hh e5)] at hR ⊢
        rw [rd_ends (kidsOf t2) (kth (kidsOf t2) (k + 1) j) (by rw [kidsOf_len]; exact q4)] at hR
        have := ih (j + 1) d (by omega) (by omega) (by omega) (by omega)
        have hR' : (ordK o (endsAll (kidsOf t2)) (rd (endsAll (kidsOf t2)) k) (restT (kidsOf t1) i (j + 1) c) (kth (kidsOf t2) (k + 1) (j + 1) : Nat)).getD (cmpZ x y) = R := hR
        rw [hR'] at this
        exact this
      · rw [if_pos e5, Option.getD_some] at hR
        subst hR
        rw [if_pos e5, if_pos e5]
theorem ordG_tok (t1 t2 : List DN) (h1 : Whole (kidsOf t1)) (h2 : Whole (kidsOf t2)) (n1 : ∀ x ∈ t1, 0 ≤ x.f1) (n2 : ∀ x ∈ t2, 0 ≤ x.f1) : ∀ (f i k : Nat), i < t1.length → k < t2.length → t1.length - i < f → ∀ c1 s1 c2 s2,
    lexC cmpO (tok ((c1 + 1) :: s1) (t1.drop i)) (tok ((c2 + 1) :: s2) (t2.drop k)) =
      if ordG t1 (endsAll (kidsOf t1)) t2 (endsAll (kidsOf t2)) f i k ≠ 0 then ordG t1 (endsAll (kidsOf t1)) t2 (endsAll (kidsOf t2)) f i k else lexC cmpO (tok (c1 :: s1) (t1.drop (endAt (kidsOf t1) i))) (tok (c2 :: s2) (t2.drop (endAt (kidsOf t2) k))) := by
  intro f
  induction f with
  | zero => intro i k hi hk hf; omega
  | succ f ih =>
    intro i k hi hk hf c1 s1 c2 s2
    have hik : i < (kidsOf t1).length := by rw [kidsOf_len]; exact hi
    rw [drop_at hi, drop_at hk, tok_succ, tok_succ, lexC_cons]
    have ec : cmpO (some (rd_T51 t1 i)) (some (rd_T51 t2 k)) = cmpN (rd_T51 t1 i) (rd_T51 t2 k) := (cmpN_M _ _).symm
    rw [ec]
    generalize hg : ordG t1 (endsAll (kidsOf t1)) t2 (endsAll (kidsOf t2)) (f + 1) i k = g
    simp only [ordG] at hg
    by_cases e : cmpN (rd_T51 t1 i) (rd_T51 t2 k) = 0
    · rw [if_neg (show ¬ cmpN (rd_T51 t1 i) (rd_T51 t2 k) ≠ 0 from fun hh => hh e)] at hg ⊢
      rw [rdT_N hi, rdT_N hk]
      rw [cmpI_Z, rdT_kids t1 i hi, rdT_kids t2 k hk] at hg
      have m1 : 0 ≤ rd (kidsOf t1) i := by rw [← rdT_kids t1 i hi]; simp [rd_T51, List.getD_eq_getElem?_getD, hi]; exact n1 _ (List.getElem_mem _)
      have m2 : 0 ≤ rd (kidsOf t2) k := by rw [← rdT_kids t2 k hk]; simp [rd_T51, List.getD_eq_getElem?_getD, hk]; exact n2 _ (List.getElem_mem _)
      have hkey := ordK_tok t1 t2 h1 h2 (ordG t1 (endsAll (kidsOf t1)) t2 (endsAll (kidsOf t2)) f) i k hi hk (fun p q hp hp2 hq c1 s1 c2 s2 => ih p q hp2 hq (by omega) c1 s1 c2 s2) (c1 :: s1) (c2 :: s2) (rd (kidsOf t1) i) (rd (kidsOf t2) k) (kidN (kidsOf t1) i) 0 (kidN (kidsOf t2) k) (by omega) (by omega) (by unfold kidN; omega) (by unfold kidN; omega)
      have er : restT (kidsOf t1) i 0 (kidN (kidsOf t1) i) = kidsL (endsAll (kidsOf t1)) i := by rw [kidsL_T h1 hik]; unfold restT kidsT; rw [List.range_eq_range']
      rw [er] at hkey
      rw [Int.toNat_natCast] at hg
      have hg2 : (ordK (ordG t1 (endsAll (kidsOf t1)) t2 (endsAll (kidsOf t2)) f) (endsAll (kidsOf t2)) (rd (endsAll (kidsOf t2)) k) (kidsL (endsAll (kidsOf t1)) i) (kth (kidsOf t2) (k + 1) 0 : Nat)).getD (cmpZ (rd (kidsOf t1) i) (rd (kidsOf t2) k)) = g := hg
      rw [hg2] at hkey
      exact hkey
    · rw [if_pos e] at hg ⊢
      rw [← hg, if_pos e]
/-- a datum's nodes and ends -/
def tokT (t : List DN) : List (Option DN) := tok [1] t
def cmpD (a b : List DN) : Int := lexC cmpO (tokT a) (tokT b)
theorem cmpD_cmp : Cmp cmpD := cmpO_cmp.lex.on tokT
theorem ordG_D {t1 t2 : List DN} (hR1 : InR t1) (hR2 : InR t2) (h1 : (chkF t1).2 = 0) (h2 : (chkF t2).2 = 0) : ordG t1 (endsAll (kidsOf t1)) t2 (endsAll (kidsOf t2)) (t1.length + 1) 0 0 = cmpD t1 t2 := by
  have w1 := whole_of hR1 h1
  have w2 := whole_of hR2 h2
  obtain ⟨_, n1, e1, _, _⟩ := chkF_ok t1 hR1 h1
  obtain ⟨_, n2, e2, _, _⟩ := chkF_ok t2 hR2 h2
  have := ordG_tok t1 t2 w1 w2 n1 n2 (t1.length + 1) 0 0 (List.length_pos_iff.mpr e1) (List.length_pos_iff.mpr e2) (by omega) 0 [] 0 []
  rw [List.drop_zero, List.drop_zero, tok_zero, tok_zero, lexC_cons, end_root w1, end_root w2] at this
  have e3 : ∀ l : List DN, tok [] l = [] := fun l => by rw [tok]
  have e4 : cmpO none none = 0 := rfl
  rw [e3, e3, e4] at this
  unfold cmpD tokT
  rw [this]
  have e5 : lexC cmpO ([] : List (Option DN)) [] = 0 := rfl
  rw [if_neg (show ¬ (0 : Int) ≠ 0 by decide), e5]
  by_cases e : ordG t1 (endsAll (kidsOf t1)) t2 (endsAll (kidsOf t2)) (t1.length + 1) ((0 : Nat) : Int) ((0 : Nat) : Int) = 0
  · rw [if_neg (fun hh => hh e)]; exact e
  · rw [if_pos e]; rfl
/-- equal nodes and ends come of equal data -/
theorem tok_inj : ∀ (n : Nat) (s s' : List Nat) (l l' : List DN), 2 * l.length + s.length ≤ n → eat (kidsOf l) s.sum = some l.length → eat (kidsOf l') s'.sum = some l'.length → (∀ x ∈ l, 0 ≤ x.f1) → (∀ x ∈ l', 0 ≤ x.f1) → s.length = s'.length →
    lexC cmpO (tok s l) (tok s' l') = 0 → s = s' ∧ l = l' := by
  intro n
  induction n with
  | zero =>
    intro s s' l l' hn he he' hl hl' hs hc
    have : s = [] := List.length_eq_zero_iff.mp (by omega)
    subst this
    have : s' = [] := List.length_eq_zero_iff.mp (by simp at hs; omega)
    subst this
    have : l = [] := List.length_eq_zero_iff.mp (by omega)
    subst this
    have : l' = [] := List.length_eq_zero_iff.mp (eat_zero_len he')
    subst this
    exact ⟨rfl, rfl⟩
  | succ n ih =>
    intro s s' l l' hn he he' hl hl' hs hc
    match s, s', hs with
    | [], [], _ =>
      obtain rfl : l = [] := List.length_eq_zero_iff.mp (eat_zero_len he)
      obtain rfl : l' = [] := List.length_eq_zero_iff.mp (eat_zero_len he')
      exact ⟨rfl, rfl⟩
    | 0 :: s, 0 :: s', hs =>
      rw [tok_zero, tok_zero, lexC_cons] at hc
      obtain ⟨a, b⟩ := ih s s' l l' (by simp at hn; omega) (by simpa using he) (by simpa using he') hl hl' (by simpa using hs) hc
      exact ⟨by rw [a], b⟩
    | 0 :: s, (c' + 1) :: s', hs =>
      cases l' with
      | nil => simp [List.sum_cons, Nat.add_right_comm, kidsOf, eat] at he'
      | cons x' l' => rw [tok_zero, tok_succ, lexC_cons] at hc; simp [cmpO] at hc
    | (c + 1) :: s, 0 :: s', hs =>
      cases l with
      | nil => simp [List.sum_cons, Nat.add_right_comm, kidsOf, eat] at he
      | cons x l => rw [tok_zero, tok_succ, lexC_cons] at hc; simp [cmpO] at hc
    | (c + 1) :: s, (c' + 1) :: s', hs =>
      cases l with
      | nil => simp [List.sum_cons, Nat.add_right_comm, kidsOf, eat] at he
      | cons x l =>
        cases l' with
        | nil => simp [List.sum_cons, Nat.add_right_comm, kidsOf, eat] at he'
        | cons x' l' =>
          rw [tok_succ, tok_succ, lexC_cons] at hc
          have ec : cmpO (some x) (some x') = cmpM x x' := rfl
          rw [ec] at hc
          by_cases e : cmpM x x' = 0
          · rw [if_neg (fun hh => hh e)] at hc
            have hx := hl x (List.mem_cons_self ..)
            have hx' := hl' x' (List.mem_cons_self ..)
            have step : ∀ (c : Nat) (s : List Nat) (x : DN) (l : List DN), eat (kidsOf (x :: l)) ((c + 1) :: s).sum = some (x :: l).length → eat (kidsOf l) (x.f1.toNat :: c :: s).sum = some l.length := fun c s x l h => by
              rw [List.sum_cons, show c + 1 + s.sum = (c + s.sum) + 1 by omega] at h
              simp only [kidsOf, List.map_cons, eat] at h
              obtain ⟨z, hz, hz2⟩ := Option.map_eq_some_iff.mp h
              simp only [List.sum_cons]
              rw [show x.f1.toNat + (c + s.sum) = c + s.sum + x.f1.toNat by omega]
              unfold kidsOf
              rw [hz]; congr 1; simp at hz2; omega
            obtain ⟨a, b⟩ := ih (x.f1.toNat :: c :: s) (x'.f1.toNat :: c' :: s') l l' (by simp at hn ⊢; omega) (step c s x l he) (step c' s' x' l' he') (fun y hy => hl y (List.mem_cons_of_mem _ hy)) (fun y hy => hl' y (List.mem_cons_of_mem _ hy)) (by simp at hs ⊢; omega) hc
            obtain ⟨a1, a2⟩ := List.cons.inj a
            obtain ⟨a2, a3⟩ := List.cons.inj a2
            obtain ⟨k0, k2, k3⟩ := (cmpM_zero x x').mp e
            have k1 : x.f1 = x'.f1 := by omega
            have : x = x' := by cases x; cases x'; simp at k0 k1 k2 k3; simp [k0, k1, k2, k3]
            exact ⟨by rw [a2, a3], by rw [this, b]⟩
          · rw [if_pos e] at hc; exact absurd hc e
theorem cmpD_zero {a b : List DN} (hRa : InR a) (hRb : InR b) (ha : (chkF a).2 = 0) (hb : (chkF b).2 = 0) : cmpD a b = 0 ↔ a = b := by
  obtain ⟨w1, n1, _, _, _⟩ := chkF_ok a hRa ha
  obtain ⟨w2, n2, _, _, _⟩ := chkF_ok b hRb hb
  constructor
  · intro h
    exact (tok_inj _ [1] [1] a b (Nat.le_refl _) (by simpa using w1) (by simpa using w2) n1 n2 rfl h).2
  · rintro rfl
    have := cmpD_cmp.anti a a
    omega
end Go.Proofs.YtgmiekggdgmhkaaDoor.Q
end
section
/- data.Compare, plainly, and what is the same. -/
namespace Go.Proofs.YtgmiekggdgmhkaaDoor.Q
open Go.RowKit Go.Proofs.YtgmiekggdgmhkaaDoorW.PrintWords
set_option linter.unusedVariables false
set_option linter.unusedSimpArgs false
def cmpF (a b : List DN) : Int × Int := if (chkF a).2 ≠ 0 then (0, (chkF a).2) else if (chkF b).2 ≠ 0 then (0, (chkF b).2) else (cmpD a b, 0)
theorem ordOk_dat {t : List DN} (h : Dat t) : ordOk t (endsAll (kidsOf t)) = true := by
  have hl := endsAll_len t
  have h4 := h.l400
  unfold ordOk
  simp only [Bool.and_eq_true, beq_iff_eq, decide_eq_true_eq, List.all_eq_true, List.mem_range]
  refine ⟨⟨hl, by omega⟩, fun j hj => ?_⟩
  rw [hl] at hj
  have := endAt_bd t h.hR h.chk j hj
  rw [rd_ends (kidsOf t) j (h.lt hj), hl]
  omega
theorem dcmp_ev (a b : List DN) (ha : InR a) (hb : InR b) : Ev (fun k => data_Compare.f k a b) (cmpF a b) := by
  unfold cmpF
  refine Ev.bind (of_ev a ha) ?_
  by_cases h : (chkF a).2 = 0
  · have hA := Dat.mk' ha h
    rw [if_neg (fun hh => hh h), ofF_ok h]
    refine Ev.congr (fun k => if_pos rfl) (Ev.bind (of_ev b hb) ?_)
    by_cases h2 : (chkF b).2 = 0
    · have hB := Dat.mk' hb h2
      rw [if_neg (show ¬ (chkF b).2 ≠ 0 from fun hh => hh h2), ofF_ok h2]
      have e : data_order.f a (endsAll (kidsOf a)) b (endsAll (kidsOf b)) 0 0 = some (cmpD a b) := by
        have h1 := hA.pos
        have h3 := hB.pos
        unfold data_order.f
        rw [if_pos ⟨ordOk_dat hA, ordOk_dat hB, by decide, by rw [endsAll_len]; omega, by decide, by rw [endsAll_len]; omega⟩, endsAll_len]
        have := ordG_D ha hb h h2
        rw [← this]
      exact Ev.congr (f := fun _ => some (cmpD a b, 0)) (fun k => by rw [if_pos rfl, e]; rfl) (Ev.now _)
    · have e : ofF b = ([], [], (chkF b).2) := if_neg h2
      rw [if_pos h2, e]
      exact Ev.congr (f := fun _ => some (0, (chkF b).2)) (fun k => if_neg h2) (Ev.now _)
  · have e : ofF a = ([], [], (chkF a).2) := if_neg h
    rw [if_pos h, e]
    exact Ev.congr (f := fun _ => some (0, (chkF a).2)) (fun k => if_neg h) (Ev.now _)
/-- whether two nodes are not the same -/
def neN (x y : DN) : Bool := !(x.f0 == y.f0) || (!(x.f1 == y.f1) || (!(x.f2 == y.f2) || (!(x.f3.toList == y.f3.toList))))
theorem neN_iff (x y : DN) : neN x y = false ↔ x = y := by
  unfold neN
  simp only [Bool.or_eq_false_iff, Bool.not_eq_eq_eq_not, Bool.not_false, beq_iff_eq]
  constructor
  · rintro ⟨a, b, c, d⟩
    have := bytes_inj d
    cases x; cases y; simp at a b c this; simp [a, b, c, this]
  · rintro rfl; exact ⟨rfl, rfl, rfl, rfl⟩
theorem same2_l0 (a b : List DN) (hab : a.length = b.length) (hl : a.length ≤ 9223372036854775807) : ∀ r s pre qre : List DN, a = pre ++ r → b = qre ++ s → pre.length = qre.length → ∃ res, Ev (fun k => mummerref04_Same.l0 k a b (pre.length : Int)) res ∧ (res = true ↔ r = s)
  | [], s, pre, qre, e, f, hq => by
    have : s = [] := by
      have h1 := congrArg List.length e
      have h2 := congrArg List.length f
      simp at h1 h2
      exact List.length_eq_zero_iff.mp (by omega)
    subst this
    refine ⟨true, Ev.step (f := fun _ => some true) (fun k => ?_) (Ev.now _), by simp⟩
    simp only [mummerref04_Same.l0]
    rw [if_neg (by rw [e]; simp)]
  | x :: r, s, pre, qre, e, f, hq => by
    cases s with
    | nil =>
      have h1 := congrArg List.length e
      have h2 := congrArg List.length f
      simp at h1 h2
      omega
    | cons y s =>
      have h1 : pre.length < a.length := by rw [e]; simp
      have hx : rd_T51 a pre.length = x := by rw [e]; exact rd_pre pre r x
      have hy : rd_T51 b pre.length = y := by rw [f, hq]; exact rd_pre qre s y
      have hst : ∀ k, mummerref04_Same.l0 (k + 1) a b (pre.length : Int) = if neN x y = true then some false else mummerref04_Same.l0 k a b ((pre ++ [x]).length : Nat) := fun k => by
        simp only [mummerref04_Same.l0]
        rw [if_pos (by omega), if_pos (by omega), if_pos (by omega), hx, hy, wrapS _ (by omega) (by omega)]
        rw [List.length_append]; rfl
      cases hn : neN x y with
      | true =>
        refine ⟨false, Ev.step (f := fun _ => some false) (fun k => by rw [hst, hn]; rfl) (Ev.now _), ?_⟩
        constructor
        · intro h; cases h
        · intro h
          have := (neN_iff x y).mpr (List.cons.inj h).1
          rw [hn] at this; cases this
      | false =>
        obtain ⟨res, h3, h4⟩ := same2_l0 a b hab hl r s (pre ++ [x]) (qre ++ [y]) (by simp [e]) (by simp [f]) (by simp [hq])
        refine ⟨res, Ev.step (fun k => by rw [hst, hn]; rfl) h3, ?_⟩
        rw [h4, (neN_iff x y).mp hn]
        simp
theorem same2_ev (a b : List DN) (hl : a.length ≤ 9223372036854775807) : ∃ res, Ev (fun k => mummerref04_Same.f k a b) res ∧ (res = true ↔ a = b) := by
  by_cases h : a.length = b.length
  · obtain ⟨res, h1, h2⟩ := same2_l0 a b h hl a b [] [] rfl rfl rfl
    exact ⟨res, Ev.congr (fun k => if_pos (by omega)) h1, h2⟩
  · refine ⟨false, Ev.congr (f := fun _ => some false) (fun k => if_neg (by omega)) (Ev.now _), ?_⟩
    constructor
    · intro hh; cases hh
    · intro hh; exact absurd (congrArg List.length hh) h
end Go.Proofs.YtgmiekggdgmhkaaDoor.Q
end
section
/- DataOrder: the printed law comes to true. -/
namespace Go.Proofs.YtgmiekggdgmhkaaDoor.Q
open Go.RowKit Go.Proofs.YtgmiekggdgmhkaaDoorW.PrintWords
set_option linter.unusedVariables false
set_option linter.unusedSimpArgs false
theorem order_j1t (a b : List DN) (x y z w : Int) : Ev (fun k => mummerlaw04_DataOrder.j1 k a b x y z w true) true :=
  Ev.step (fun k => by simp only [mummerlaw04_DataOrder.j1]; exact if_pos trivial) (Ev.bind shown_ev (Ev.now true))
theorem order_j1 {a b c : List DN} (ha : Dat a) (hb : Dat b) (hc : Dat c) : Ev (fun k => mummerlaw04_DataOrder.j1 k a b (cmpD a b) (cmpD b a) (cmpD b c) (cmpD a c) false) true := by
  have hT := cmpD_cmp
  have x1 := hT.lo a b
  have x2 := hT.hi a b
  have x3 := hT.anti a b
  obtain ⟨x4, x5⟩ := (fun h1 h2 => hT.tr a b c h1 h2 : cmpD a b ≤ 0 → cmpD b c ≤ 0 → _) |> fun h => (⟨fun h1 h2 => (h h1 h2).1, fun h1 h2 => (h h1 h2).2⟩ : (cmpD a b ≤ 0 → cmpD b c ≤ 0 → cmpD a c ≤ 0) ∧ (cmpD a b ≤ 0 → cmpD b c ≤ 0 → cmpD a b < 0 ∨ cmpD b c < 0 → cmpD a c < 0))
  have x6 := cmpD_zero ha.hR hb.hR ha.chk hb.chk
  obtain ⟨res, h1, h2⟩ := same2_ev a b (by have := ha.l400; omega)
  have h3 : ((cmpD a b == 0) == res) = true := by
    rw [beq_iff_eq, Bool.eq_iff_iff, beq_iff_eq, h2, x6]
  refine Ev.step (f := fun k => (mummerref04_Same.f k a b).bind _) (fun k => by
    simp only [mummerlaw04_DataOrder.j1]
    rw [if_neg (by simp), if_pos (by rw [wrapS _ (by omega) (by omega)]; exact x3), if_pos (by omega), if_pos (by omega)]) ?_
  refine Ev.bind h1 (Ev.congr (fun k => ?_) (Ev.bind shown_ev (Ev.now true)))
  rw [if_pos h3]
  generalize cmpD a b = x at *
  generalize cmpD b c = z at *
  generalize cmpD a c = w at *
  clear h1 h2 h3 x6
  have x7 : x ≤ 0 → z ≤ 0 → x < 0 → w < 0 := fun p q r => x5 p q (Or.inl r)
  have x8 : x ≤ 0 → z ≤ 0 → z < 0 → w < 0 := fun p q r => x5 p q (Or.inr r)
  clear x5
  repeat' split
  all_goals first
    | rfl
    | (exfalso
       have := x4 (by omega) (by omega)
       by_cases g1 : x < 0
       · have := x7 (by omega) (by omega) g1; omega
       · by_cases g2 : z < 0
         · have := x8 (by omega) (by omega) g2; omega
         · omega)
theorem order_j0t (a b c : List DN) : Ev (fun k => mummerlaw04_DataOrder.j0 k a b c true) true :=
  Ev.step (fun k => by simp only [mummerlaw04_DataOrder.j0]; exact if_pos trivial) (Ev.bind shown_ev (Ev.now true))
theorem cmpF_ok {a b : List DN} (ha : (chkF a).2 = 0) (hb : (chkF b).2 = 0) : cmpF a b = (cmpD a b, 0) := by
  unfold cmpF; rw [if_neg (fun hh => hh ha), if_neg (fun hh => hh hb)]
theorem cmpF_err {a b : List DN} (h : (cmpF a b).2 = 0) : (chkF a).2 = 0 ∧ (chkF b).2 = 0 := by
  unfold cmpF at h
  by_cases ha : (chkF a).2 = 0
  · rw [if_neg (fun hh => hh ha)] at h
    by_cases hb : (chkF b).2 = 0
    · exact ⟨ha, hb⟩
    · rw [if_pos hb] at h; exact absurd h hb
  · rw [if_pos ha] at h; exact absurd h ha
theorem order_j0 (a b c : List DN) (ha : InR a) (hb : InR b) (hc : InR c) : Ev (fun k => mummerlaw04_DataOrder.j0 k a b c false) true := by
  refine Ev.step (fun k => by simp only [mummerlaw04_DataOrder.j0]; exact if_neg (by simp)) ?_
  refine Ev.bind (dcmp_ev a b ha hb) (Ev.bind (dcmp_ev b a hb ha) (Ev.bind (dcmp_ev b c hb hc) (Ev.bind (dcmp_ev a c ha hc) ?_)))
  by_cases h1 : (cmpF a b).2 = 0
  · refine Ev.congr (fun k => if_pos h1) ?_
    by_cases h2 : (cmpF b a).2 = 0
    · refine Ev.congr (fun k => if_pos h2) ?_
      by_cases h3 : (cmpF b c).2 = 0
      · refine Ev.congr (fun k => if_pos h3) ?_
        obtain ⟨ka, kb⟩ := cmpF_err h1
        obtain ⟨_, kc⟩ := cmpF_err h3
        rw [cmpF_ok ka kb, cmpF_ok kb ka, cmpF_ok kb kc, cmpF_ok ka kc]
        simp only [bne_self_eq_false]
        exact order_j1 (Dat.mk' ha ka) (Dat.mk' hb kb) (Dat.mk' hc kc)
      · exact Ev.congr (fun k => if_neg h3) (order_j1t _ _ _ _ _ _)
    · exact Ev.congr (fun k => if_neg h2) (order_j1t _ _ _ _ _ _)
  · exact Ev.congr (fun k => if_neg h1) (order_j1t _ _ _ _ _ _)
theorem order_pure (a b c : List DN) (wa : WfT a) (wb : WfT b) (wc : WfT c) : Ev (fun k => mummerlaw04_DataOrder.f k a b c) true := by
  refine Ev.bind (far_ev a) ?_
  cases farB a with
  | true => exact Ev.congr (fun k => if_pos rfl) (order_j0t a b c)
  | false =>
    refine Ev.congr (fun k => if_neg (by decide)) (Ev.bind (far_ev b) ?_)
    cases farB b with
    | true => exact Ev.congr (fun k => if_pos rfl) (order_j0t a b c)
    | false =>
      refine Ev.congr (fun k => if_neg (by decide)) (Ev.bind (far_ev c) ?_)
      cases farB c with
      | true => exact order_j0t a b c
      | false => exact order_j0 a b c (inR_of wa) (inR_of wb) (inR_of wc)
end Go.Proofs.YtgmiekggdgmhkaaDoor.Q
end
