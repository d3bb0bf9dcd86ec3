import Derived.Lib.RowBridge
import Derived.Test.YtgmiekggdgmhkaaDoorMK23
import Derived.Test.YtgmiekggdgmhkaaDoorMK24
section
/- data.Symbols of any datum. -/
namespace Go.Proofs.YtgmiekggdgmhkaaDoor.Q
open Go.RowKit Go.Proofs.YtgmiekggdgmhkaaDoorW.PrintWords Go.Proofs.YtgmiekggdgmhkaaDoorW.PrintLast Go.Proofs.YtgmiekggdgmhkaaDoorW.PrintMore Go.Shelf Go.Sort
set_option linter.unusedVariables false
set_option linter.unusedSimpArgs false
/-- slices.Sort of a row of the call's own -/
theorem sort_own : SortSaid := by
  intro base v ss W hrow hlen
  obtain ⟨h1, h2⟩ := hrow
  rcases h2 with ⟨rfl, h0⟩ | ⟨g, cap, cur, rfl, hb, hg, hnc, hcm, hcs, ht⟩
  · have e : ss = [] := List.length_eq_zero_iff.mp h0
    subst e
    exact (Any.slices_Sort_string_none Tryd.lays190 none 0 W).mono fun e w' ⟨he, hw⟩ => by
      subst hw
      have e0 : (([] : List (List UInt8)).mergeSort fun x y => decide (x ≤ y)) = [] := by simp
      rw [e0]
      exact ⟨he, own_nil _ _ _ _, Below.refl _ _⟩
  · refine (Any.slices_Sort_string Tryd.lays190 g 0 cap ss W (holds_of_block hg (by simpa using ht)) (Array.getElem?_eq_some_iff.1 hg).1 (by omega)).mono ?_
    rintro e w' ⟨he, n, os, rfl⟩
    refine ⟨he, ownsRow_sorted (by simp) hb hg hnc hcm hcs, ?_⟩
    obtain ⟨s1, s2, s3, s4, s5⟩ := grownBy_sorted (w := W) (g := g) (n := n) (os := os) (ss.mergeSort fun x y => decide (x ≤ y)).toArray
    refine ⟨s1, s2, s3, s4, fun k hk => s5 k ?_ ?_⟩
    · have := (Array.getElem?_eq_some_iff.1 hg).1; omega
    · intro e; injection e with e; omega
/-- slices.Compact of a row of the call's own -/
theorem compact_own : CompactSaid := by
  intro base v ss W hrow hlen
  obtain ⟨h1, h2⟩ := hrow
  rcases h2 with ⟨rfl, h0⟩ | ⟨g, cap, cur, rfl, hb, hg, hnc, hcm, hcs, ht⟩
  · have e : ss = [] := List.length_eq_zero_iff.mp h0
    subst e
    exact (Any.slices_Compact_string_empty Tryd.lays194 none 0 W).mono fun e w' ⟨he, hw⟩ => by
      subst hw
      exact ⟨_, he, own_nil _ _ _ _, Below.refl _ _⟩
  · refine (Any.slices_Compact_string Tryd.lays194 g 0 cap ss W (holds_of_block hg (by simpa using ht)) (by omega) hnc).mono ?_
    rintro e w' ⟨he, n, rfl⟩
    have hle := Lib.compact_length_le ss
    have hl : (Lib.compact ss ++ List.replicate (ss.length - (Lib.compact ss).length) []).length = ss.length := by simp; omega
    have e0 : ∀ V : World, Sort.grow V #[] = V := fun V => by cases V; simp [Sort.grow]
    have hown := ownsRow_sorted (os := #[]) (n := n) (w := W) (base := base) (e := 9) hl hb hg hnc hcm hcs
    obtain ⟨s1, s2, s3, s4, s5⟩ := grownBy_sorted (w := W) (g := g) (n := n) (os := #[]) (Lib.compact ss ++ List.replicate (ss.length - (Lib.compact ss).length) []).toArray
    rw [e0] at hown s1 s2 s3 s4 s5
    refine ⟨_, he, ?_, ⟨s1, s2, s3, s4, fun k hk => s5 k ?_ ?_⟩⟩
    · obtain ⟨_, q⟩ := hown
      rcases q with ⟨q, _⟩ | ⟨g', cap', cur', q, p1, p2, p3, p4, p5, p6⟩
      · cases q
      · cases q
        refine ⟨by simp, .inr ⟨g, cap, cur', rfl, p1, p2, by omega, p4, p5, ?_⟩⟩
        rw [Nat.mul_one] at p6 ⊢
        have := congrArg (List.take (Lib.compact ss).length) p6
        have e5 : ((Lib.compact ss ++ List.replicate (ss.length - (Lib.compact ss).length) []).map encStr).take (Lib.compact ss).length = (Lib.compact ss).map encStr := by
          rw [List.map_append]; exact List.take_left' (by simp)
        rw [List.take_take, Nat.min_eq_left hle, e5] at this
        exact this
    · have := (Array.getElem?_eq_some_iff.1 hg).1; omega
    · intro e; injection e with e; omega
theorem data_Symbols.calls (A0 : Option Addr) (c0 : Nat) (l0 : List (S51)) (r1 : List ByteArray) (r2 : Int) (w : World) (hr0 : Kd.C k51 w A0 l0.length l0) (hc0 : l0.length ≤ c0) (hG : G0 w) (h : data_Symbols.f l0 = some (r1, r2)) :
    Calls Tryd.prog 42 #[.slice A0 l0.length c0] w fun e w' => ∃ v0_ : Value, e = .returned (.tuple #[v0_, .int .i64 r2]) ∧ Kd.R Kd.string 9 w' w.heap.size (fun _ => True) v0_ r1 ∧ Below w.heap.size w w' :=
  syms_calls sort_own compact_own A0 c0 l0 r1 r2 w hr0 hc0 hG h
end Go.Proofs.YtgmiekggdgmhkaaDoor.Q
end
