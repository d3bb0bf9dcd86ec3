import Derived.Test.YtgmiekggdgmhkaaDoorMC13
import Derived.Test.YtgmiekggdgmhkaaDoorMC15
import Derived.Test.YtgmiekggdgmhkaaDoorMC16
import Derived.Test.YtgmiekggdgmhkaaDoorMC17
import Derived.Test.YtgmiekggdgmhkaaDoorMC24
import Derived.Test.YtgmiekggdgmhkaaDoorMC25
import Derived.Test.YtgmiekggdgmhkaaDoorMC28
import Derived.Test.YtgmiekggdgmhkaaDoorMC5
section
/- Plain laws of what the chapter's statements compare by: Far, Ints, Same. -/
namespace Go.Proofs.YtgmiekggdgmhkaaDoor.Q
open Go.RowKit Go.Proofs.YtgmiekggdgmhkaaDoorW.PrintWords
set_option linter.unusedVariables false
set_option linter.unusedSimpArgs false
theorem i64_max {n : Int} (h : WfI .i64 n) : -9223372036854775808 ≤ n ∧ n ≤ 9223372036854775807 := by simpa [WfI, Lit.wf, IntKind.min, IntKind.max, IntKind.signed, IntKind.bits] using h
abbrev DN := S51
abbrev WfT (t : List DN) : Prop := WfL Wf51 t
theorem inR_of {t : List DN} (h : WfT t) : InR t := fun x hx => (i64_max (h.2 x hx).2.1).2
def farB (t : List DN) : Bool := decide (410 < t.length) || t.any fun x => decide (100 < x.f3.size)
theorem far_l0 (t : List DN) (ht : t.length ≤ 410) : ∀ r pre : List DN, t = pre ++ r → Ev (fun k => mummerlaw04_Far.l0 k t (pre.length : Int)) (r.any fun x => decide (100 < x.f3.size))
  | [], pre, e => Ev.step (f := fun _ => some false) (fun k => by
      simp only [mummerlaw04_Far.l0]
      rw [if_neg (by rw [e]; simp)]) (Ev.now _)
  | x :: r, pre, e => by
    have hl : pre.length < t.length := by rw [e]; simp
    have hx : rd_T51 t pre.length = x := by rw [e]; exact rd_pre pre r x
    have hst : ∀ k, mummerlaw04_Far.l0 (k + 1) t (pre.length : Int) = if (x.f3.size : Int) > 100 then some true else mummerlaw04_Far.l0 k t ((pre ++ [x]).length : Nat) := fun k => by
      simp only [mummerlaw04_Far.l0]
      rw [if_pos (by omega), if_pos (by omega), hx, wrapS _ (by omega) (by omega)]
      rw [List.length_append]; rfl
    by_cases h : (x.f3.size : Int) > 100
    · have h' : 100 < x.f3.size := by omega
      simp only [List.any_cons, decide_eq_true h', Bool.true_or]
      exact Ev.step (f := fun _ => some true) (fun k => by rw [hst, if_pos h]) (Ev.now _)
    · have h' : ¬ 100 < x.f3.size := by omega
      simp only [List.any_cons, decide_eq_false h', Bool.false_or]
      exact Ev.step (fun k => by rw [hst, if_neg h]) (far_l0 t ht r (pre ++ [x]) (by simp [e]))
theorem far_ev (t : List DN) : Ev (fun k => mummerlaw04_Far.f k t) (farB t) := by
  unfold farB
  by_cases h : 410 < t.length
  · rw [decide_eq_true h, Bool.true_or]
    exact Ev.congr (f := fun _ => some true) (fun k => if_pos (by omega)) (Ev.now _)
  · rw [decide_eq_false h, Bool.false_or]
    exact Ev.congr (fun k => if_neg (by omega)) (far_l0 t (by omega) t [] rfl)
end Go.Proofs.YtgmiekggdgmhkaaDoor.Q
end
section
/- The reference's functions on nodes, plainly; Sub and Size of both sides. -/
namespace Go.Proofs.YtgmiekggdgmhkaaDoor.Q
open Go.RowKit Go.Proofs.YtgmiekggdgmhkaaDoorW.PrintWords
set_option linter.unusedVariables false
set_option linter.unusedSimpArgs false
/-- what is the same list is the same -/
theorem same_l0 (a : List DN) (hl : a.length ≤ 9223372036854775807) : ∀ r pre : List DN, a = pre ++ r → Ev (fun k => mummerref04_Same.l0 k a a (pre.length : Int)) true
  | [], pre, e => Ev.step (f := fun _ => some true) (fun k => by
      simp only [mummerref04_Same.l0]
      rw [if_neg (by rw [e]; simp)]) (Ev.now _)
  | x :: r, pre, e => by
    have h1 : pre.length < a.length := by rw [e]; simp
    refine Ev.step (fun k => ?_) (same_l0 a hl r (pre ++ [x]) (by simp [e]))
    simp only [mummerref04_Same.l0]
    rw [if_pos (by omega), if_pos (by omega), if_pos (by omega), if_neg (by simp), wrapS _ (by omega) (by omega)]
    rw [List.length_append]; rfl
theorem same_ev (a : List DN) (hl : a.length ≤ 9223372036854775807) : Ev (fun k => mummerref04_Same.f k a a) true :=
  Ev.congr (fun k => if_pos rfl) (same_l0 a hl a [] rfl)
end Go.Proofs.YtgmiekggdgmhkaaDoor.Q
end
section
/- Kids, Parent, Depth, Path and At of the reference, plainly. -/
namespace Go.Proofs.YtgmiekggdgmhkaaDoor.Q
open Go.RowKit Go.Proofs.YtgmiekggdgmhkaaDoorW.PrintWords
set_option linter.unusedVariables false
set_option linter.unusedSimpArgs false
/-- a datum, and what is known of it -/
structure Dat (t : List DN) : Prop where
  hR : InR t
  chk : (chkF t).2 = 0
  whole : Whole (kidsOf t)
  pos : 0 < t.length
  l400 : t.length ≤ 400
  nn : ∀ x ∈ t, 0 ≤ x.f1
theorem Dat.lt {t : List DN} (h : Dat t) {i : Nat} (hi : i < t.length) : i < (kidsOf t).length := by rw [kidsOf_len]; exact hi
end Go.Proofs.YtgmiekggdgmhkaaDoor.Q
end
