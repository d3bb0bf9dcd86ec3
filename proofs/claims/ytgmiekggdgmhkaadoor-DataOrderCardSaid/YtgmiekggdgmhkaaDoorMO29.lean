import Derived.Test.YtgmiekggdgmhkaaDoorMO13
import Derived.Test.YtgmiekggdgmhkaaDoorMO15
import Derived.Test.YtgmiekggdgmhkaaDoorMO18
import Derived.Test.YtgmiekggdgmhkaaDoorMO19
import Derived.Test.YtgmiekggdgmhkaaDoorMO27
import Derived.Test.YtgmiekggdgmhkaaDoorMO28
import Derived.Test.YtgmiekggdgmhkaaDoorMO5
section
/- The reference's functions on nodes, plainly; Sub and Size of both sides. -/
namespace Go.Proofs.YtgmiekggdgmhkaaDoor.Q
open Go.RowKit Go.Proofs.YtgmiekggdgmhkaaDoorW.PrintWords
set_option linter.unusedVariables false
set_option linter.unusedSimpArgs false
theorem rdT_kids (t : List DN) (j : Nat) (h : j < t.length) : (rd_T51 t j).f1 = rd (kidsOf t) j := by
  simp [rd_T51, rd, kidsOf, List.getD_eq_getElem?_getD, h]
theorem endAt_bd (t : List DN) (hR : InR t) (h : (chkF t).2 = 0) (i : Nat) (hi : i < t.length) : i < endAt (kidsOf t) i ∧ endAt (kidsOf t) i ≤ t.length := by
  obtain ⟨hall, hnn, hne, h400, _⟩ := chkF_ok t hR h
  obtain ⟨m, hm, h1, h2⟩ := eat_at (kidsOf t) (by rw [kidsOf_len]; exact hall) i (by rw [kidsOf_len]; exact hi)
  rw [endAt_some hm]
  rw [kidsOf_len] at h2
  omega
theorem ofF_ok {t : List DN} (h : (chkF t).2 = 0) : ofF t = (t, endsAll (kidsOf t), 0) := if_pos h
theorem endsAll_len (t : List DN) : (endsAll (kidsOf t)).length = t.length := by simp [endsAll, kidsOf]
end Go.Proofs.YtgmiekggdgmhkaaDoor.Q
end
section
/- Subtrees of a datum: each is a datum; a list's children, one behind the other, are what is behind its node. Plain laws. -/
namespace Go.Proofs.YtgmiekggdgmhkaaDoor.Q
open Go.RowKit Go.Proofs.YtgmiekggdgmhkaaDoorW.PrintWords
set_option linter.unusedVariables false
set_option linter.unusedSimpArgs false
theorem eat_zero_len {l : List Int} {n : Nat} (h : eat l 0 = some n) : n = 0 := by
  rw [eat_zero] at h; exact (Option.some.inj h).symm
theorem whole_of {t : List DN} (hR : InR t) (h : (chkF t).2 = 0) : Whole (kidsOf t) := by
  have := (chkF_ok t hR h).1
  unfold Whole
  rw [this, kidsOf_len]
end Go.Proofs.YtgmiekggdgmhkaaDoor.Q
end
section
/- Kids, Parent, Depth, Path and At of the reference, plainly. -/
namespace Go.Proofs.YtgmiekggdgmhkaaDoor.Q
open Go.RowKit Go.Proofs.YtgmiekggdgmhkaaDoorW.PrintWords
set_option linter.unusedVariables false
set_option linter.unusedSimpArgs false
theorem whole_of' {t : List DN} (hR : InR t) (h : (chkF t).2 = 0) : Whole (kidsOf t) := by
  have := (chkF_ok t hR h).1
  unfold Whole
  rw [this, kidsOf_len]
/-- a datum, and what is known of it -/
structure Dat (t : List DN) : Prop where
  hR : InR t
  chk : (chkF t).2 = 0
  whole : Whole (kidsOf t)
  pos : 0 < t.length
  l400 : t.length ≤ 400
  nn : ∀ x ∈ t, 0 ≤ x.f1
theorem Dat.mk' {t : List DN} (hR : InR t) (h : (chkF t).2 = 0) : Dat t := by
  obtain ⟨a, b, c, d, _⟩ := chkF_ok t hR h
  exact ⟨hR, h, whole_of' hR h, List.length_pos_iff.mpr c, d, b⟩
theorem Dat.lt {t : List DN} (h : Dat t) {i : Nat} (hi : i < t.length) : i < (kidsOf t).length := by rw [kidsOf_len]; exact hi
theorem Dat.kidN {t : List DN} (h : Dat t) {i : Nat} (hi : i < t.length) : (rd_T51 t i).f1 = (kidN (kidsOf t) i : Nat) := by
  have h0 : 0 ≤ rd (kidsOf t) i := by rw [← rdT_kids t i hi]; simp [rd_T51, List.getD_eq_getElem?_getD, hi]; exact h.nn _ (List.getElem_mem _)
  rw [rdT_kids t i hi]
  unfold Q.kidN; omega
end Go.Proofs.YtgmiekggdgmhkaaDoor.Q
end
