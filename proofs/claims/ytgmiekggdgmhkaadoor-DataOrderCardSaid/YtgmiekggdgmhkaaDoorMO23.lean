import Derived.BigRegion
import Derived.BigRegionIn
import Derived.Deep.Cut
import Derived.Deep.CutRange
import Derived.Deep.RegionHeld3
import Derived.Test.YtgmiekggdgmhkaaDoorMO11
import Derived.Test.YtgmiekggdgmhkaaDoorMO15
import Derived.Test.YtgmiekggdgmhkaaDoorMO18
import Derived.Test.YtgmiekggdgmhkaaDoorMO22
import Derived.Test.YtgmiekggdgmhkaaDoorMO5
import Derived.Test.YtgmiekggdgmhkaaDoorMO6
section
/- data.order of two data. -/
namespace Go.Proofs.YtgmiekggdgmhkaaDoor.Q
open Go.RowKit Go.Proofs.YtgmiekggdgmhkaaDoorW.PrintWords Go.Proofs.YtgmiekggdgmhkaaDoorW.PrintLast Go.Proofs.YtgmiekggdgmhkaaDoorW.PrintMore Go.Shelf
set_option linter.unusedVariables false
set_option linter.unusedSimpArgs false
attribute [local go_sem] Oper.semAt_some
/-- how two nodes stand, their children aside -/
def cmpN (x y : S51) : Int := U.or3 (U.cmpI x.f0 y.f0) (U.cmpI x.f2 y.f2) (U.cmpS x.f3 y.f3)
/-- the children, one beside the other: what stops the walk -/
def ordK (o : Int → Int → Int) (es : List Int) (lim : Int) : List (Int × Int) → Int → Option Int
  | [], _ => none
  | m :: ms, a => if lim ≤ a then some 1 else if o m.2 a ≠ 0 then some (o m.2 a) else ordK o es lim ms (rd es a)
/-- how two data stand -/
def ordG (t1 : List S51) (es1 : List Int) (t2 : List S51) (es2 : List Int) : Nat → Int → Int → Int
  | 0, _, _ => 0
  | f + 1, i, k => if cmpN (rd_T51 t1 i) (rd_T51 t2 k) ≠ 0 then cmpN (rd_T51 t1 i) (rd_T51 t2 k)
    else (ordK (ordG t1 es1 t2 es2 f) es2 (rd es2 k) (kidsL es1 i.toNat) (k + 1)).getD (U.cmpI (rd_T51 t1 i).f1 (rd_T51 t2 k).f1)
/-- two data in memory, as order reads them -/
structure OrdIn (w : World) (A1 : Option Addr) (t1 : List S51) (e1 : Addr) (es1 : List Int) (d1 : Nat) (A2 : Option Addr) (t2 : List S51) (e2 : Addr) (es2 : List Int) (d2 : Nat) : Prop where
  r1 : Kd.C k51 w A1 t1.length t1
  r2 : Kd.C k51 w A2 t2.length t2
  s1 : Kd.C (Kd.int .i64) w (some e1) es1.length es1
  s2 : Kd.C (Kd.int .i64) w (some e2) es2.length es2
  b1 : e1.block < w.heap.size
  b2 : e2.block < w.heap.size
  l1 : es1.length = t1.length
  l2 : es2.length = t2.length
  g1 : GoodEnds es1
  g2 : GoodEnds es2
  h1 : es1.length ≤ 2000
  h2 : es2.length ≤ 2000
  p1 : es1.length ≤ d1
  p2 : es2.length ≤ d2
theorem cell_lat {w wx : World} {a : Addr} {v : Value} (hb : Below w.heap.size w wx) (h : w.cell? a = some v) : wx.cell? a = some v :=
  (hb.cell (World.block_lt_of_cell? _ _ h)).trans h
theorem keeps_of_below {W V : World} (h : Below W.heap.size W V) : KeepsOthers W V := ⟨h.size, fun k o hk _ => (h.block k (Array.getElem?_eq_some_iff.1 hk).1).trans hk⟩
theorem new2 (w : World) (a b : Obj) : ((w.alloc a).alloc b).heap[w.heap.size]? = some a ∧ ((w.alloc a).alloc b).heap[w.heap.size + 1]? = some b := by
  have h1 := World.alloc_heap_new w a
  have h2 := World.alloc_heap_new (w.alloc a) b
  simp only [World.size_alloc] at h2
  exact ⟨(Below.heap_alloc _ _ _ (by simp only [World.size_alloc]; omega)).trans h1, h2⟩
theorem new3 (w : World) (a b c : Obj) : (((w.alloc a).alloc b).alloc c).heap[w.heap.size]? = some a ∧ (((w.alloc a).alloc b).alloc c).heap[w.heap.size + 1]? = some b ∧ (((w.alloc a).alloc b).alloc c).heap[w.heap.size + 1 + 1]? = some c := by
  have h := new2 w a b
  have h3 := World.alloc_heap_new ((w.alloc a).alloc b) c
  simp only [World.size_alloc] at h3
  exact ⟨(Below.heap_alloc _ _ _ (by simp only [World.size_alloc]; omega)).trans h.1, (Below.heap_alloc _ _ _ (by simp only [World.size_alloc]; omega)).trans h.2, h3⟩
theorem new4 (w : World) (a b c d : Obj) : let W := (((w.alloc a).alloc b).alloc c).alloc d
    W.heap[w.heap.size]? = some a ∧ W.heap[w.heap.size + 1]? = some b ∧ W.heap[w.heap.size + 1 + 1]? = some c ∧ W.heap[w.heap.size + 1 + 1 + 1]? = some d := by
  have h1 := World.alloc_heap_new w a
  have h2 := World.alloc_heap_new (w.alloc a) b
  have h3 := World.alloc_heap_new ((w.alloc a).alloc b) c
  have h4 := World.alloc_heap_new (((w.alloc a).alloc b).alloc c) d
  simp only [World.size_alloc] at h2 h3 h4
  refine ⟨?_, ?_, ?_, h4⟩
  · exact (Below.heap_alloc _ _ _ (by simp only [World.size_alloc]; omega)).trans ((Below.heap_alloc _ _ _ (by simp only [World.size_alloc]; omega)).trans ((Below.heap_alloc _ _ _ (by simp only [World.size_alloc]; omega)).trans h1))
  · exact (Below.heap_alloc _ _ _ (by simp only [World.size_alloc]; omega)).trans ((Below.heap_alloc _ _ _ (by simp only [World.size_alloc]; omega)).trans h2)
  · exact (Below.heap_alloc _ _ _ (by simp)).trans h3
/-- two data lie there still -/
theorem OrdIn.below {w w' : World} {A1 : Option Addr} {t1 : List S51} {e1 : Addr} {es1 : List Int} {d1 : Nat} {A2 : Option Addr} {t2 : List S51} {e2 : Addr} {es2 : List Int} {d2 : Nat} (h : OrdIn w A1 t1 e1 es1 d1 A2 t2 e2 es2 d2) (hb : Below w.heap.size w w') : OrdIn w' A1 t1 e1 es1 d1 A2 t2 e2 es2 d2 := by
  have hz := hb.size
  exact ⟨Kd.C_below h.r1 hb, Kd.C_below h.r2 hb, Kd.C_below h.s1 hb, Kd.C_below h.s2 hb, by have := h.b1; omega, by have := h.b2; omega, h.l1, h.l2, h.g1, h.g2, h.h1, h.h2, h.p1, h.p2⟩
/-- a way out by a return: the result's box, all else from base on -/
structure Stp (n₀ : Nat) (W0 : World) (bn : Nat) (t : TypeId) (cur : Array Value) (W : World) : Prop where
  box : W.heap[bn]? = some (.cells cur t (0, 0))
  below : Below n₀ W0 W
theorem Stp.own {β : Type} {n₀ : Nat} {W0 : World} {bn : Nat} {t : TypeId} {f : β → Array Value} {B : Nat} (hB : W0.heap.size ≤ B) (hn : n₀ ≤ W0.heap.size) :
    OwnFrom B (fun (s : β) W => Stp n₀ W0 bn t (f s) W) := by
  rintro s X Y row h hg hrow
  have hne : some bn ≠ row := fun e' => by
    obtain ⟨_, o', ho', hc'⟩ := hrow bn e'.symm
    rw [h.box] at ho'; cases ho'; cases hc'
  exact ⟨(hg.block bn (Array.getElem?_eq_some_iff.1 h.box).1 hne).trans h.box, ownFrom_below (β := Unit) hn (Nat.le_trans hn hB) () X Y row h.below hg hrow⟩
/-- a round's start: so far nothing has stopped the walk, and it stands at a -/
structure OrdAt (o : Int → Int → Int) (es : List Int) (lim : Int) (i k : Int) (pre : List (Int × Int)) (a : Int) : Prop where
  run : ∀ rest, ordK o es lim (pre ++ rest) (k + 1) = ordK o es lim rest a
  lo : k < a
  hi : a ≤ es.length
theorem OrdAt.start {o : Int → Int → Int} {es : List Int} {lim i k : Int} (h : k < es.length) : OrdAt o es lim i k [] (k + 1) := ⟨fun _ => rfl, by omega, by omega⟩
theorem OrdAt.step {o : Int → Int → Int} {es : List Int} {lim i k : Int} {pre : List (Int × Int)} {a : Nat} {n m : Int} (hg : GoodEnds es) (hl : lim ≤ es.length) (h : OrdAt o es lim i k pre a) (h1 : ¬ lim ≤ (a : Int)) (h2 : o m a = 0) : OrdAt o es lim i k (pre ++ [(n, m)]) (rd es a) := by
  have h3 := h.lo
  have h4 := hg a (by omega)
  refine ⟨fun rest => ?_, by omega, by omega⟩
  rw [List.append_assoc, h.run]
  simp only [List.cons_append, List.nil_append, ordK]
  rw [if_neg h1, if_neg (by simpa using h2)]
theorem OrdAt.over {o : Int → Int → Int} {es : List Int} {lim i k : Int} {pre : List (Int × Int)} {a : Int} {x : Int × Int} (h : OrdAt o es lim i k pre a) (h1 : lim ≤ a) (rest : List (Int × Int)) : ordK o es lim (pre ++ x :: rest) (k + 1) = some 1 := by
  rw [h.run]; simp only [ordK]; rw [if_pos h1]
theorem OrdAt.out {o : Int → Int → Int} {es : List Int} {lim i k : Int} {pre : List (Int × Int)} {a : Int} {x : Int × Int} (h : OrdAt o es lim i k pre a) (h1 : ¬ lim ≤ a) (h2 : o x.2 a ≠ 0) (rest : List (Int × Int)) : ordK o es lim (pre ++ x :: rest) (k + 1) = some (o x.2 a) := by
  rw [h.run]; simp only [ordK]; rw [if_neg h1, if_pos h2]
set_option maxRecDepth 100000 in
set_option maxHeartbeats 4000000 in
theorem ord_in (A1 : Option Addr) (t1 : List S51) (c1 : Nat) (e1 : Addr) (es1 : List Int) (d1 : Nat) (A2 : Option Addr) (t2 : List S51) (c2 : Nat) (e2 : Addr) (es2 : List Int) (d2 : Nat) :
    ∀ (f : Nat) (i k : Nat) (w : World), OrdIn w A1 t1 e1 es1 d1 A2 t2 e2 es2 d2 → i < es1.length → k < es2.length → es1.length - i < f →
    Calls Tryd.prog 70 #[.agg #[.slice A1 t1.length c1, .slice (some e1) es1.length d1], .agg #[.slice A2 t2.length c2, .slice (some e2) es2.length d2], .int .i64 i, .int .i64 k] w
      (fun e w' => e = .returned (.int .i64 (ordG t1 es1 t2 es2 f i k)) ∧ Below w.heap.size w w') := by
  intro f
  induction f with
  | zero => intro i k w _ _ _ hf; omega
  | succ f ih =>
    intro i k w hin hi hk hf
    obtain ⟨ad1, rfl, x0, x1, x2, x3⟩ := at_T51 hin.r1 i (by omega) (by rw [← hin.l1]; omega)
    obtain ⟨ad2, rfl, y0, y1, y2, y3⟩ := at_T51 hin.r2 k (by omega) (by rw [← hin.l2]; omega)
    simp only [Int.toNat_natCast] at x0 x1 x2 x3 y0 y1 y2 y3
    generalize hx : rd_T51 t1 i = x at *
    generalize hy : rd_T51 t2 k = y at *
    have hz1 : (i : Int) < (t1.length : Int) := by rw [← hin.l1]; omega
    have hz2 : (k : Int) < (t2.length : Int) := by rw [← hin.l2]; omega
    have ha1 := World.block_lt_of_cell? _ _ x0
    have ha2 := World.block_lt_of_cell? _ _ y0
    have HX := Aside0.mk hx
    have HY := Aside0.mk hy
    have HIN := Aside0.mk hin
    have HI := Aside0.mk hi
    have HK := Aside0.mk hk
    have HF := Aside0.mk hf
    clear hin hi hk hf hx hy
    refine callsIn_wide.1 (callsIn_of_wp_marks (n := 4) Tryd.func70 rfl trivial ?_ rfl)
    simp only [Tryd.ntmps70, List.size_toArray, List.length_cons, List.length_nil, Nat.reduceAdd, Nat.reduceSub, Array.replicate_succ, Array.replicate_zero, List.push_toArray, List.append_toArray, List.nil_append, List.cons_append]
    refine wpIn_wide.2 (Code.wp_mono NoPanic.imp ?_)
    go_wp2_with fail
    obtain ⟨W, hW⟩ : ∃ W, ((((w.alloc (.cells #[.slice (some ad1) t1.length c1, .slice (some e1) es1.length d1] 78)).alloc (.cells #[.slice (some ad2) t2.length c2, .slice (some e2) es2.length d2] 78)).alloc (.cells #[.int .i64 k] 3)).alloc (.cells #[.int .i64 0] 3)) = W := ⟨_, rfl⟩
    rw [hW]
    have hB : Below w.heap.size w W := by rw [← hW]; exact below_alloc (below_alloc (below_alloc (below_alloc (Below.refl _ _) _) _) _) _
    have hs : W.heap.size = w.heap.size + 4 := by rw [← hW]; simp
    obtain ⟨ea, eb, ek, er⟩ := new4 w (.cells #[.slice (some ad1) t1.length c1, .slice (some e1) es1.length d1] 78) (.cells #[.slice (some ad2) t2.length c2, .slice (some e2) es2.length d2] 78) (.cells #[.int .i64 k] 3) (.cells #[.int .i64 0] 3)
    rw [hW] at ea eb ek er
    generalize hpr : w.heap.size + 1 + 1 + 1 = pr at er ⊢
    generalize hpk : w.heap.size + 1 + 1 = pk at ek ⊢
    generalize hpb : w.heap.size + 1 = pb at eb ⊢
    generalize hpa : w.heap.size = pa at ea ⊢
    replace x0 := cell_lat hB x0
    replace x1 := cell_lat hB x1
    replace x2 := cell_lat hB x2
    replace x3 := cell_lat hB x3
    replace y0 := cell_lat hB y0
    replace y1 := cell_lat hB y1
    replace y2 := cell_lat hB y2
    replace y3 := cell_lat hB y3
    have q1 : (ad1.add (i * 4)).block < W.heap.size := by omega
    have q2 : (ad1.add (i * 4)).block < W.heap.size + 1 := by omega
    have q3 : (ad2.add (k * 4)).block < W.heap.size := by omega
    have q4 : (ad2.add (k * 4)).block < W.heap.size + 1 := by omega
    have q5 : pa < W.heap.size := by omega
    have q6 : pb < W.heap.size := by omega
    have q7 : pk < W.heap.size := by omega
    have q8 : pa < W.heap.size + 1 := by omega
    have q9 : pb < W.heap.size + 1 := by omega
    have q0 : pk < W.heap.size + 1 := by omega
    have HB := Aside0.mk hB
    have HS := Aside0.mk hs
    have HP := Aside0.mk (And.intro hpr (And.intro hpk (And.intro hpb hpa)))
    have EA := Aside0.mk ea
    have EB := Aside0.mk eb
    have EK := Aside0.mk ek
    have ER := Aside0.mk er
    have ca := blk2_cell0 ea
    have cb := blk2_cell0 eb
    have ck := blk1_cell ek
    clear ea eb ek er hB hs hpr hpk hpb hpa hW ha1 ha2
    go_cut [9, 10] from 16 to 26 (fun v9 v10 wx => ∃ p q : Nat, v9 = .pointer (some ⟨p, 0, none⟩) ∧ v10 = .pointer (some ⟨q, 0, none⟩) ∧ Below W.heap.size W wx ∧ wx.heap.size = W.heap.size + 2 ∧
      wx.heap[p]? = some (.cells #[.int .i64 x.f0, .int .i64 x.f1, .int .i64 x.f2, .string x.f3] 51 (0, 0)) ∧ wx.heap[q]? = some (.cells #[.int .i64 y.f0, .int .i64 y.f1, .int .i64 y.f2, .string y.f3] 51 (0, 0)))
    case first =>
      go_region
      all_goals (go_wp2_with fail; go_meet)
      all_goals case rel =>
        have n2 := fun (a b : Obj) => new2 W a b
        refine ⟨_, _, rfl, rfl, below_drew (below_alloc (below_alloc (Below.refl _ _) _) _), by simp, ?_, ?_⟩
        all_goals first
          | exact (n2 _ _).1
          | exact (n2 _ _).2
    case rest =>
      obtain ⟨p, q, rfl, rfl, hbc, hsc, ep, eq⟩ := hcut
      have fa := (hbc.block _ q5).trans EA.out
      have fb := (hbc.block _ q6).trans EB.out
      have fk := (hbc.block _ q7).trans EK.out
      have hq5 : pr < W.heap.size := (Array.getElem?_eq_some_iff.1 ER.out).1
      have fr := (hbc.block _ hq5).trans ER.out
      have hpz : p < wc.heap.size := (Array.getElem?_eq_some_iff.1 ep).1
      have hqz : q < wc.heap.size := (Array.getElem?_eq_some_iff.1 eq).1
      have hcB : Below w.heap.size w wc := HB.out.trans (hbc.mono (by have := HS.out; omega))
      have FA := Aside0.mk fa
      have FB := Aside0.mk fb
      have FK := Aside0.mk fk
      have FR := Aside0.mk fr
      have EP := Aside0.mk ep
      have EQ := Aside0.mk eq
      have HCB := Aside0.mk hcB
      have HBC := Aside0.mk hbc
      have p0 := blk_cell ep (i := 0)
      have p2 := blk_cell ep (i := 2)
      have p3 := blk_cell ep (i := 3)
      have s0 := blk_cell eq (i := 0)
      have s2 := blk_cell eq (i := 2)
      have s3 := blk_cell eq (i := 3)
      simp at p0 p2 p3 s0 s2 s3
      clear x0 x1 x2 x3 y0 y1 y2 y3 ca cb ck q1 q2 q3 q4 q5 q6 q7 q8 q9 q0 hq5 fa fb fk fr hcB hbc hsc ep eq hz1 hz2
      go_wp2_with fail
      go_region_held3 (fun w' => w'.cell? ⟨p, 0, none⟩ = some (.int .i64 x.f0) ∧ w'.cell? ⟨p, 2, none⟩ = some (.int .i64 x.f2) ∧ w'.cell? ⟨p, 3, none⟩ = some (.string x.f3) ∧
          w'.cell? ⟨q, 0, none⟩ = some (.int .i64 y.f0) ∧ w'.cell? ⟨q, 2, none⟩ = some (.int .i64 y.f2) ∧ w'.cell? ⟨q, 3, none⟩ = some (.string y.f3) ∧ Below wc.heap.size wc w')
        ((((try dsimp only); (repeat' apply And.intro)) <;> (first | go_keep | (repeat (first | assumption | exact Below.refl _ _ | apply below_drew | apply below_alloc | apply pw_below_drewN)))))
        (first
          | (go_at_call 100; refine (U.cmpI_any _ _ _).mono ?_; rintro e w1 ⟨rfl, n1, rfl⟩)
          | (go_at_call 101; refine (U.cmpI64_any _ _ _).mono ?_; rintro e w1 ⟨rfl, n1, rfl⟩)
          | (go_at_call 102; refine (U.cmpS_any _ _ _).mono ?_; rintro e w1 ⟨rfl, n1, rfl⟩)
          | (go_at_call 99; refine (U.or3_any _ _ _ _ _ (World.alloc_heap_new _ _)).mono ?_; rintro e w1 ⟨rfl, n1, rfl⟩))
      refine (fun (h : ∀ W2 : World, Below wc.heap.size wc W2 → Exit.then _ _ Exit.normal _ W2) => h _ ?_) ?_
      · repeat (first | assumption | exact Below.refl _ _ | apply below_drew | apply below_alloc | apply pw_below_drewN)
      intro W2 hB2
      have hz2 := hB2.size
      have gpa := (hB2.block _ (Array.getElem?_eq_some_iff.1 FA.out).1).trans FA.out
      have gpb := (hB2.block _ (Array.getElem?_eq_some_iff.1 FB.out).1).trans FB.out
      have gpk := (hB2.block _ (Array.getElem?_eq_some_iff.1 FK.out).1).trans FK.out
      have gpr := (hB2.block _ (Array.getElem?_eq_some_iff.1 FR.out).1).trans FR.out
      have gpp := (hB2.block _ (Array.getElem?_eq_some_iff.1 EP.out).1).trans EP.out
      have gpq := (hB2.block _ (Array.getElem?_eq_some_iff.1 EQ.out).1).trans EQ.out
      have hw2 : Below w.heap.size w W2 := HCB.out.trans (hB2.mono HCB.out.size)
      have hord : ordG t1 es1 t2 es2 (f + 1) i k = if cmpN x y ≠ 0 then cmpN x y else (ordK (ordG t1 es1 t2 es2 f) es2 (rd es2 k) (kidsL es1 i) (k + 1)).getD (U.cmpI x.f1 y.f1) := by
        simp only [ordG, HX.out, HY.out, Int.toNat_natCast]
      have hcn : cmpN x y = U.or3 (U.cmpI x.f0 y.f0) (U.cmpI x.f2 y.f2) (U.cmpS x.f3 y.f3) := rfl
      rw [hcn] at hord
      generalize U.or3 (U.cmpI x.f0 y.f0) (U.cmpI x.f2 y.f2) (U.cmpS x.f3 y.f3) = c at hord ⊢
      clear hcn p0 p2 p3 s0 s2 s3
      have HW2 := Aside0.mk hw2
      have GPA := Aside0.mk gpa
      have GPB := Aside0.mk gpb
      have GPK := Aside0.mk gpk
      have GPR := Aside0.mk gpr
      have GPP := Aside0.mk gpp
      have GPQ := Aside0.mk gpq
      have hfr := Boxed.frozen gpr
      have hcr := blk1_cell gpr
      by_cases hc : c = 0
      · have hcB : (c != 0) = false := by simp [hc]
        have HO := Aside0.mk (hord.trans (if_neg (fun h => h hc)))
        have ck := blk1_cell gpk
        have ca0 := blk2_cell0 gpa
        have ca1 := blk2_cell1 gpa
        have hki : (k : Int) < es2.length := by have := HK.out; omega
        have hkm : es2.length ≤ 2000 := HIN.out.h2
        have hwk : IntKind.i64.wrap ((k : Int) + 1) = k + 1 := IntWalk.i64_in _ ⟨by omega, by omega⟩ -- (by omega)
        have lpa := (Array.getElem?_eq_some_iff.1 gpa).1
        have lpk := (Array.getElem?_eq_some_iff.1 gpk).1
        have HKI := Aside0.mk hki
        have HKM := Aside0.mk hkm
        clear hord hc gpa gpb gpk gpr gpp gpq hw2 hB2 hfr hcr hki hkm
        go_wp2_with (go_at_call 71; refine (kids_calls _ _ _ _ _ _ _ _).mono ?_; rintro e w' ⟨rfl, rfl⟩)
        refine (wpIn_wide (n := 4)).1 ?_
        obtain ⟨W0, hW0⟩ : ∃ W0, (((W2.alloc (.cells #[.int .i64 ((k : Int) + 1)] 3)).alloc (.cells #[.slice (some ad1) t1.length c1, .slice (some e1) es1.length d1] 78)).alloc (.cells #[.int .i64 i] 3)) = W0 := ⟨_, rfl⟩
        have hs0 : W0.heap.size = W2.heap.size + 3 := by rw [← hW0]; simp
        have hB0 : Below W2.heap.size W2 W0 := by rw [← hW0]; exact below_alloc (below_alloc (below_alloc (Below.refl _ _) _) _) _
        obtain ⟨n1, n2, n3⟩ := new3 W2 (.cells #[.int .i64 ((k : Int) + 1)] 3) (.cells #[.slice (some ad1) t1.length c1, .slice (some e1) es1.length d1] 78) (.cells #[.int .i64 i] 3)
        rw [hW0] at n1 n2 n3 ⊢
        have hwz := HW2.out.size
        have hwB : Below w.heap.size w W0 := HW2.out.trans (hB0.mono hwz)
        have lpr := (Array.getElem?_eq_some_iff.1 GPR.out).1
        have lpb := (Array.getElem?_eq_some_iff.1 GPB.out).1
        have lpp := (Array.getElem?_eq_some_iff.1 GPP.out).1
        have lpq := (Array.getElem?_eq_some_iff.1 GPQ.out).1
        have lprw : w.heap.size ≤ pr := by have := HP.out; omega
        have GA0 := Aside0.mk ((hB0.block _ lpa).trans GPA.out)
        have GB0 := Aside0.mk ((hB0.block _ lpb).trans GPB.out)
        have GK0 := Aside0.mk ((hB0.block _ lpk).trans GPK.out)
        have GR0 := Aside0.mk ((hB0.block _ lpr).trans GPR.out)
        have GP0 := Aside0.mk ((hB0.block _ lpp).trans GPP.out)
        have GQ0 := Aside0.mk ((hB0.block _ lpq).trans GPQ.out)
        have hb1w := HIN.out.b1
        have he1 : e1.block < W0.heap.size := by omega
        have he1w : W0.heap[e1.block]? = w.heap[e1.block]? := hwB.block _ HIN.out.b1
        obtain ⟨lim, hlim⟩ : ∃ lim, rd es2 (k : Int) = lim := ⟨_, rfl⟩
        rw [hlim] at HO
        have hlm := HIN.out.g2 k HK.out
        rw [hlim] at hlm
        have IH := Aside0.mk (ih)
        have HWB := Aside0.mk hwB
        have HB0 := Aside0.mk hB0
        have HS0 := Aside0.mk hs0
        have HLIM := Aside0.mk hlim
        have HLM := Aside0.mk hlm
        have N1 := Aside0.mk n1
        have N2 := Aside0.mk n2
        have N3 := Aside0.mk n3
        clear hW0 hB0 n1 n2 n3 hwB ck ca0 ca1 hwk ih hlim hlm
        refine wpIn_rangeFunc_ownG rfl (by omega) (gf := 103) (lb := #[.pointer (some ⟨W2.heap.size + 1 + 1, 0, none⟩), .pointer (some ⟨W2.heap.size + 1, 0, none⟩)]) rfl trivial (enters_of Tryd.func103 (by kernel_rfl) rfl)
          (kids_stopsM _ (by omega) w W0 (W2.heap.size + 1 + 1) (W2.heap.size + 1) t1.length c1 d1 w.heap.size (some ad1) e1 es1 HIN.out.s1 HIN.out.p1 HIN.out.h1 HIN.out.g1 i HI.out he1w he1 N3.out N2.out) (fun h k => h.t k) (KpC.b (by omega) (by omega) (by omega) he1) (Below.refl _ _) (fun _ => rfl)
          (fun (pre : List (Kidt es1 i)) W => ∃ a : Nat, OrdAt (ordG t1 es1 t2 es2 f) es2 lim i k (pre.map (·.1)) a ∧ One w.heap.size W0 W2.heap.size 3 #[.int .i64 a] W)
          (fun c (pre : List (Kidt es1 i)) W => ∃ r : Int, c = Code.ret ∧ (∀ rest, ordK (ordG t1 es1 t2 es2 f) es2 lim (pre.map (·.1) ++ rest) (k + 1) = some r) ∧ Stp w.heap.size W0 pr 3 #[.int .i64 r] W)
          ?own1 ?own2 ?st ?a1 ?assign ?body ?done ?stop
        case own1 =>
          rintro s X Y row ⟨a, h1, h2⟩ hg hr
          exact ⟨a, h1, One.own (f := fun _ : Unit => #[.int .i64 a]) (Nat.le_refl _) (by omega) () X Y row h2 hg hr⟩
        case own2 =>
          rintro c s X Y row ⟨r, h0, h1, h2⟩ hg hr
          exact ⟨r, h0, h1, Stp.own (f := fun _ : Unit => #[.int .i64 r]) (Nat.le_refl _) (by omega) () X Y row h2 hg hr⟩
        case st => exact ⟨k + 1, OrdAt.start (by have := HKI.out; omega), One.start N1.out⟩
        case assign =>
          intro l x W K hK
          gi_wp2
          exact hK
        case body =>
          rintro l pre ⟨⟨n, kk⟩, hmem⟩ W ⟨a, h1, h2⟩ hlen
          have hm2 := kidsL_mem es1 HIN.out.g1 i HI.out (n, kk) hmem
          dsimp only at hm2
          obtain ⟨m, rfl⟩ := Int.eq_ofNat_of_zero_le (show 0 ≤ kk by omega)
          have hWz := h2.below.size
          have hbW : Below w.heap.size w W := HWB.out.trans h2.below
          have fa := (h2.far pa (by omega) (by omega)).trans GA0.out
          have fb := (h2.far pb (by omega) (by omega)).trans GB0.out
          have fk := (h2.far pk (by omega) (by omega)).trans GK0.out
          have fr := (h2.far pr (by omega) (by omega)).trans GR0.out
          have FR2 := Aside0.mk fr
          have lo := h1.lo
          have hi2 := h1.hi
          have hsk : (k : Int) < es2.length := HKI.out
          have hread : ReadsInt W .i64 (some e2) es2.length es2 := Kd.reads_of_C (Kd.C_below HIN.out.s2 hbW)
          obtain ⟨adk, hadk, hek⟩ := hread.at_ k (by omega) hsk
          obtain rfl := Option.some.inj hadk
          rw [Int.toNat_natCast, HLIM.out] at hek
          have hlim := HLM.out
          have hmx : Tryd.prog.follows .mixedOrders = true := by kernel_rfl
          have ca0 := blk2_cell0 fa
          have ca1 := blk2_cell1 fa
          have cb0 := blk2_cell0 fb
          have cb1 := blk2_cell1 fb
          have ck := blk1_cell fk
          have cr := blk1_cell fr
          have nr := Boxed.frozen fr
          have cat := blk1_cell h2.box
          have nat := Boxed.frozen h2.box
          have H1 := Aside0.mk h1
          have H2 := Aside0.mk h2
          have HBW := Aside0.mk hbW
          by_cases hla : lim ≤ (a : Int)
          · have hlaB : decide (lim ≤ (a : Int)) = true := decide_eq_true hla
            have HLA := Aside0.mk hla
            clear h1 h2 hbW fa fb fk fr hread hla hlim hadk
            have hfin : KeepsFrom W0.heap.size W (W.drew.setCell ⟨pr, 0, none⟩ (.int .i64 1)) ∧ (∀ rest, ordK (ordG t1 es1 t2 es2 f) es2 lim ((pre ++ [(show Kidt es1 i from ⟨(n, (m : Int)), hmem⟩)]).map (·.1) ++ rest) (k + 1) = some 1) ∧ Stp w.heap.size W0 pr 3 #[.int .i64 1] (W.drew.setCell ⟨pr, 0, none⟩ (.int .i64 1)) := by
              refine ⟨((KeepsOthers.drew W).trans (KeepsOthers.setCell W.drew ⟨pr, 0, none⟩ _)).from _, fun rest => ?_, Boxed.set (W := W.drew) (.int .i64 1) FR2.out, H2.out.below.trans ((below_drew (Below.refl _ _)).setCell (show w.heap.size ≤ pr from lprw) _)⟩
              rw [List.map_append, List.append_assoc]
              exact H1.out.over HLA.out rest
            have HFIN := Aside0.mk hfin
            clear hfin
            gi_wp2
            gi_region_with_o (fail)
            all_goals gi_wp2
            all_goals exact ⟨HFIN.out.1, 1, rfl, HFIN.out.2.1, HFIN.out.2.2⟩
          · have hlaB : decide (lim ≤ (a : Int)) = false := decide_eq_false hla
            have hrec : ∀ V, Below W.heap.size W V → Calls Tryd.prog 70 #[.agg #[.slice (some ad1) t1.length c1, .slice (some e1) es1.length d1], .agg #[.slice (some ad2) t2.length c2, .slice (some e2) es2.length d2], .int .i64 m, .int .i64 a] V
                (fun e w' => e = .returned (.int .i64 (ordG t1 es1 t2 es2 f m a)) ∧ Below W.heap.size W w') := fun V hV =>
              (IH.out m a V (HIN.out.below (hbW.trans (hV.mono hbW.size))) (by omega) (by omega) (by have := HF.out; omega)).mono (fun e w' ⟨h, hb⟩ => ⟨h, hV.trans (hb.mono hV.size)⟩)
            obtain ⟨r, hr⟩ : ∃ r, ordG t1 es1 t2 es2 f m a = r := ⟨_, rfl⟩
            rw [hr] at hrec
            have HREC := Aside0.mk hrec
            have hga := HIN.out.g2 a (by omega)
            obtain ⟨b, hb⟩ := Int.eq_ofNat_of_zero_le (show 0 ≤ rd es2 (a : Int) by omega)
            have hfacts : ∀ V, Below W.heap.size W V → V.heap[pr]? = some (.cells #[.int .i64 0] 3 (0, 0)) ∧ V.heap[W2.heap.size]? = some (.cells #[.int .i64 a] 3 (0, 0)) ∧ V.cell? ⟨pb, 1, none⟩ = some (.slice (some e2) es2.length d2) ∧
                V.cell? (e2.add a) = some (.int .i64 b) := fun V hV => by
              have fbV := (hV.block pb (by omega)).trans fb
              have hreadV : ReadsInt V .i64 (some e2) es2.length es2 := Kd.reads_of_C (Kd.C_below HIN.out.s2 (hbW.trans (hV.mono hbW.size)))
              obtain ⟨adV, hadV, heV⟩ := hreadV.at_ a (by omega) (by omega)
              obtain rfl := Option.some.inj hadV
              exact ⟨(hV.block pr (by omega)).trans fr, (hV.block W2.heap.size (by omega)).trans h2.box, blk2_cell1 fbV, by rw [← hb]; simpa using heV⟩
            have HFACTS := Aside0.mk hfacts
            have HLA := Aside0.mk hla
            have hal : (a : Int) < es2.length := by omega
            have HRR := Aside0.mk hr
            have HBB := Aside0.mk hb
            by_cases hz : r = 0
            · have hzB : (r != 0) = false := by simp [hz]
              have hstp : ∀ V, Below W.heap.size W V → KeepsFrom W0.heap.size W (V.setCell ⟨W2.heap.size, 0, none⟩ (.int .i64 b)) ∧ KpC w.heap.size (W2.heap.size + 1 + 1) (W2.heap.size + 1) e1.block W (V.setCell ⟨W2.heap.size, 0, none⟩ (.int .i64 b)) ∧
                  (∃ a' : Nat, OrdAt (ordG t1 es1 t2 es2 f) es2 lim i k ((pre ++ [(show Kidt es1 i from ⟨(n, (m : Int)), hmem⟩)]).map (·.1)) a' ∧ One w.heap.size W0 W2.heap.size 3 #[.int .i64 a'] (V.setCell ⟨W2.heap.size, 0, none⟩ (.int .i64 b))) := fun V hV => by
                have hk1 : KeepsOthers W (V.setCell ⟨W2.heap.size, 0, none⟩ (.int .i64 b)) := (keeps_of_below hV).trans (KeepsOthers.setCell V _ _)
                have hb1 : Below w.heap.size W (V.setCell ⟨W2.heap.size, 0, none⟩ (.int .i64 b)) := (hV.mono (by omega)).setCell (show w.heap.size ≤ W2.heap.size from hwz) _
                have hf1 : ∀ q, q < W.heap.size → q ≠ W2.heap.size → (V.setCell ⟨W2.heap.size, 0, none⟩ (.int .i64 b)).heap[q]? = W.heap[q]? := fun q hq hne => (Below.heap_setCell V _ _ q hne).trans (hV.block q hq)
                refine ⟨hk1.from _, ⟨hb1, hf1 _ (by omega) (by omega), hf1 _ (by omega) (by omega), hf1 _ (by omega) (by omega)⟩, b, ?_, ?_⟩
                · rw [List.map_append, ← hb]
                  exact h1.step HIN.out.g2 hlim.2 hla (by rw [hr]; exact hz)
                · exact h2.step (Boxed.set _ ((hV.block W2.heap.size (by omega)).trans h2.box)) (fun q hq hne => hf1 q (by omega) hne) (hk1.from _) hb1
              have HSTP := Aside0.mk hstp
              clear h1 h2 hbW fa fb fk fr hread hla hlim hadk hrec hfacts hr hz hstp hb hga
              gi_wp2
              gi_region_with_o (fail)
              all_goals gi_wp2_with (first | (refine ⟨trivial, ?_⟩; gi_at_call 70; refine (CallsIn.inRound _ (callsIn_wide.2 (HREC.out _ (below_drew (Below.refl _ _))))).mono ?_; rintro e w3 ⟨rfl, hb3⟩; obtain ⟨v1, v2, v3, v4⟩ := HFACTS.out w3 hb3; have v2c := blk1_cell v2; have v2f := Boxed.frozen v2; have HB3 := Aside0.mk hb3; clear hb3 v1 v2))
              all_goals exact HSTP.out _ HB3.out
            · have hzB : (r != 0) = true := by simp [hz]
              have hstp : ∀ V, Below W.heap.size W V → KeepsFrom W0.heap.size W (V.setCell ⟨pr, 0, none⟩ (.int .i64 r)) ∧ (∀ rest, ordK (ordG t1 es1 t2 es2 f) es2 lim ((pre ++ [(show Kidt es1 i from ⟨(n, (m : Int)), hmem⟩)]).map (·.1) ++ rest) (k + 1) = some r) ∧ Stp w.heap.size W0 pr 3 #[.int .i64 r] (V.setCell ⟨pr, 0, none⟩ (.int .i64 r)) := fun V hV => by
                refine ⟨((keeps_of_below hV).trans (KeepsOthers.setCell V _ _)).from _, fun rest => ?_, Boxed.set (.int .i64 r) ((hV.block pr (by omega)).trans FR2.out), h2.below.trans ((hV.mono (by omega)).setCell (show w.heap.size ≤ pr from lprw) _)⟩
                rw [List.map_append, List.append_assoc, ← hr]
                exact h1.out hla (by rw [hr]; exact hz) rest
              have HSTP := Aside0.mk hstp
              clear h1 h2 hbW fa fb fk fr hread hla hlim hadk hrec hfacts hr hz hstp hb hga
              gi_wp2
              gi_region_with_o (fail)
              all_goals gi_wp2_with (first | (refine ⟨trivial, ?_⟩; gi_at_call 70; refine (CallsIn.inRound _ (callsIn_wide.2 (HREC.out _ (below_drew (Below.refl _ _))))).mono ?_; rintro e w3 ⟨rfl, hb3⟩; obtain ⟨v1, v2, v3, v4⟩ := HFACTS.out w3 hb3; have v1c := blk1_cell v1; have v1f := Boxed.frozen v1; have HB3 := Aside0.mk hb3; clear hb3 v1 v2))
              all_goals exact ⟨(HSTP.out _ HB3.out).1, r, rfl, (HSTP.out _ HB3.out).2.1, (HSTP.out _ HB3.out).2.2⟩
        case done =>
          rintro D ys W hD hys ⟨a, h1, h2⟩ hK
          have hrun := h1.run []
          rw [List.append_nil, hys] at hrun
          have HRUN := Aside0.mk (hrun.trans rfl)
          have hpp := (h2.far p (by omega) (by omega)).trans GP0.out
          have hqq := (h2.far q (by omega) (by omega)).trans GQ0.out
          have hpr2 := (h2.far pr (by omega) (by omega)).trans GR0.out
          have c1p := blk_cell hpp (i := 1)
          have c1q := blk_cell hqq (i := 1)
          simp at c1p c1q
          have hfr := Boxed.frozen hpr2
          have hcr := blk1_cell hpr2
          have HPR := Aside0.mk hpr2
          have H2 := Aside0.mk h2
          have HK2 := Aside0.mk hK
          clear h1 h2 hK hrun hpp hqq hpr2 hys
          go_wp2_with (go_at_call 100; refine (U.cmpI_any _ _ _).mono ?_; rintro e w1 ⟨rfl, n1, rfl⟩)
          have hD2 : ((W.drewN n1).setCell ⟨pr, 0, none⟩ (.int .i64 (U.cmpI x.f1 y.f1))).heap[D]? = some (.deferred (some [])) := (Below.heap_setCell _ _ _ _ (show D ≠ pr by omega)).trans HK2.out
          have hW2z := H2.out.below.size
          refine ⟨by simp, .inl ⟨_, _, rfl, run_takeDeferred hD2, ?_⟩⟩
          have hpr3 : (((W.drewN n1).setCell ⟨pr, 0, none⟩ (.int .i64 (U.cmpI x.f1 y.f1))).putObj D (.deferred none)).heap[pr]? = some (.cells #[.int .i64 (U.cmpI x.f1 y.f1)] 3 (0, 0)) := (World.putObj_heap_other (by omega)).trans (Boxed.set _ HPR.out)
          refine ⟨.int .i64 (U.cmpI x.f1 y.f1), by simp [results, Tryd.results70, go_sem, blk1_cell hpr3], ?_, ?_⟩
          · rw [HO.out, HRUN.out]
            rfl
          · exact (HWB.out.trans H2.out.below).trans (((pw_below_drewN (Below.refl _ _) n1).setCell (show w.heap.size ≤ pr from lprw) _).trans (belowK_b (w := w) (Nat.le_refl _) _ D _ _ (by omega) hD2 rfl rfl))
        case stop =>
          rintro D c' pre W hD hSp ⟨r, rfl, h1, h2⟩ hK
          obtain ⟨t, ht⟩ := hSp
          have hr := h1 t
          rw [ht] at hr
          have HR := Aside0.mk hr
          have H2 := Aside0.mk h2
          have HK2 := Aside0.mk hK
          clear h1 h2 hK hr ht
          gi_wp2
          have hW2z := H2.out.below.size
          refine ⟨by simp, .inl ⟨_, _, rfl, run_takeDeferred HK2.out, ?_⟩⟩
          have hpr3 : (W.putObj D (.deferred none)).heap[pr]? = some (.cells #[.int .i64 r] 3 (0, 0)) := (World.putObj_heap_other (by omega)).trans H2.out.box
          refine ⟨.int .i64 r, by simp [results, Tryd.results70, go_sem, blk1_cell hpr3], ?_, ?_⟩
          · rw [HO.out, HR.out]
            rfl
          · exact (HWB.out.trans H2.out.below).trans (belowK_b (w := w) (Nat.le_refl _) _ D _ _ (by omega) HK2.out rfl rfl)
      · have hcB : (c != 0) = true := by simp [hc]
        have HO := Aside0.mk (hord.trans (if_pos hc))
        clear hord hc gpa gpb gpk gpr gpp gpq hw2 hB2
        go_wp2
        refine ⟨.int .i64 c, ?_, by rw [HO.out], HW2.out.trans ((Below.refl _ _).setCell (show w.heap.size ≤ pr from by have := HP.out; omega) _)⟩
        simp [results, Tryd.results70, go_sem, blk1_cell (Boxed.set (.int .i64 c) GPR.out)]
/-- what order asks of its two data: their ends, as data.of makes them -/
def ordOk (t : List S51) (es : List Int) : Bool := es.length == t.length && decide (es.length ≤ 2000) && (List.range es.length).all (fun j => decide ((j : Int) < rd es j) && decide (rd es j ≤ es.length))
theorem ordOk_iff {t : List S51} {es : List Int} (h : ordOk t es = true) : es.length = t.length ∧ es.length ≤ 2000 ∧ GoodEnds es := by
  unfold ordOk at h
  simp only [Bool.and_eq_true, beq_iff_eq, decide_eq_true_eq, List.all_eq_true, List.mem_range] at h
  exact ⟨h.1.1, h.1.2, fun j hj => h.2 j hj⟩
def data_order.f (l0_0 : List S51) (l0_1 : List Int) (l1_0 : List S51) (l1_1 : List Int) (a2 : Int) (a3 : Int) : Option Int :=
  if ordOk l0_0 l0_1 = true ∧ ordOk l1_0 l1_1 = true ∧ 0 ≤ a2 ∧ a2 < l0_1.length ∧ 0 ≤ a3 ∧ a3 < l1_1.length then some (ordG l0_0 l0_1 l1_0 l1_1 (l0_1.length + 1) a2 a3) else none
theorem addr_blk (a : Addr) (i : Nat) : (a.add i).block = a.block := by unfold Addr.add; split <;> rfl
theorem data_order.calls (A0_0 : Option Addr) (c0_0 : Nat) (l0_0 : List S51) (A0_1 : Option Addr) (c0_1 : Nat) (l0_1 : List Int) (A1_0 : Option Addr) (c1_0 : Nat) (l1_0 : List S51) (A1_1 : Option Addr) (c1_1 : Nat) (l1_1 : List Int) (a2 : Int) (a3 : Int) (r : Int) (w : World) (hr0_0 : Kd.C k51 w A0_0 l0_0.length l0_0) (hc0_0 : l0_0.length ≤ c0_0) (hr0_1 : Kd.C (Kd.int .i64) w A0_1 l0_1.length l0_1) (hc0_1 : l0_1.length ≤ c0_1) (hr1_0 : Kd.C k51 w A1_0 l1_0.length l1_0) (hc1_0 : l1_0.length ≤ c1_0) (hr1_1 : Kd.C (Kd.int .i64) w A1_1 l1_1.length l1_1) (hc1_1 : l1_1.length ≤ c1_1) (h : data_order.f l0_0 l0_1 l1_0 l1_1 a2 a3 = some r) :
    Calls Tryd.prog 70 #[.agg #[.slice A0_0 l0_0.length c0_0, .slice A0_1 l0_1.length c0_1], .agg #[.slice A1_0 l1_0.length c1_0, .slice A1_1 l1_1.length c1_1], .int .i64 a2, .int .i64 a3] w fun e w' => e = .returned (.int .i64 r) ∧ Below w.heap.size w w' := by
  unfold data_order.f at h
  split at h
  · rename_i hh
    obtain ⟨o1, o2, p1, p2, p3, p4⟩ := hh
    obtain ⟨x1, x2, x3⟩ := ordOk_iff o1
    obtain ⟨y1, y2, y3⟩ := ordOk_iff o2
    obtain rfl := Option.some.inj h
    obtain ⟨i, rfl⟩ := Int.eq_ofNat_of_zero_le p1
    obtain ⟨k, rfl⟩ := Int.eq_ofNat_of_zero_le p3
    have q1 : ReadsInt w .i64 A0_1 l0_1.length l0_1 := Kd.reads_of_C hr0_1
    have q2 : ReadsInt w .i64 A1_1 l1_1.length l1_1 := Kd.reads_of_C hr1_1
    obtain ⟨e1, rfl, z1⟩ := q1.at_ i (by omega) p2
    obtain ⟨e2, rfl, z2⟩ := q2.at_ k (by omega) p4
    exact ord_in A0_0 l0_0 c0_0 e1 l0_1 c0_1 A1_0 l1_0 c1_0 e2 l1_1 c1_1 (l0_1.length + 1) i k w
      ⟨hr0_0, hr1_0, hr0_1, hr1_1, Nat.lt_of_le_of_lt (Nat.le_of_eq (addr_blk e1 _).symm) (World.block_lt_of_cell? _ _ z1), Nat.lt_of_le_of_lt (Nat.le_of_eq (addr_blk e2 _).symm) (World.block_lt_of_cell? _ _ z2), x1, y1, x3, y3, x2, y2, hc0_1, hc1_1⟩ (by omega) (by omega) (by omega)
  · cases h
end Go.Proofs.YtgmiekggdgmhkaaDoor.Q
end
section
-- a print of this session's own (hook.py)
namespace Go.Proofs.YtgmiekggdgmhkaaDoor.Q
open Go.RowKit Go.Proofs.YtgmiekggdgmhkaaDoorW.PrintWords Go.Proofs.YtgmiekggdgmhkaaDoorW.PrintLast Go.Proofs.YtgmiekggdgmhkaaDoorW.PrintMore
attribute [local go_sem] max2_int min2_int max_two min_two max_three min_three max_four min_four   -- for this text's walks alone
set_option linter.unusedVariables false
set_option linter.unusedSimpArgs false
/-! ### data_Compare: function 29 -/
def data_Compare.f (k : Nat) (l0 : List (S51)) (l1 : List (S51)) : Option (Int × Int) := (data_of.f k l0).bind fun bt436 => (if bt436.2.2 = 0 then ((data_of.f k l1).bind fun bt444 => (if bt444.2.2 = 0 then ((data_order.f bt436.1 bt436.2.1 bt444.1 bt444.2.1 0 0).bind fun t452 => (some (t452, 0))) else (some (0, bt444.2.2)))) else (some (0, bt436.2.2)))
set_option maxHeartbeats 8000000 in
set_option maxRecDepth 100000 in
theorem data_Compare.calls (k : Nat) (A0 : Option Addr) (c0 : Nat) (l0 : List (S51)) (A1 : Option Addr) (c1 : Nat) (l1 : List (S51)) (r1 : Int) (r2 : Int) (w : World) (hr0 : Kd.C k51 w A0 l0.length l0) (hc0 : l0.length ≤ c0) (hr1 : Kd.C k51 w A1 l1.length l1) (hc1 : l1.length ≤ c1) (hG : G0 w) (h : data_Compare.f k l0 l1 = some (r1, r2)) :
    Calls Tryd.prog 29 #[.slice A0 l0.length c0, .slice A1 l1.length c1] w fun e w' => e = .returned (.tuple #[.int .i64 r1, .int .i64 r2]) ∧ Below w.heap.size w w' := by
  have hu78 := Tryd.underlying78
  have HGl := Aside0.mk hG
  clear hG
  have HR0 := Aside0.mk hr0
  have HC0 := Aside0.mk hc0
  clear hr0 hc0
  have HR1 := Aside0.mk hr1
  have HC1 := Aside0.mk hc1
  clear hr1 hc1
  have HB := Aside0.mk (Below.refl w.heap.size w)
  have H : ((data_of.f k l0).bind fun bt436 => (if bt436.2.2 = 0 then ((data_of.f k l1).bind fun bt444 => (if bt444.2.2 = 0 then ((data_order.f bt436.1 bt436.2.1 bt444.1 bt444.2.1 0 0).bind fun t452 => (some (t452, 0))) else (some (0, bt444.2.2)))) else (some (0, bt436.2.2)))) = some (r1, r2) := h
  clear h
  replace H := Option.bind_eq_some_iff.mp H
  obtain ⟨⟨t436, t439, t442⟩, A30, H⟩ := H
  replace H : (if t442 = 0 then ((data_of.f k l1).bind fun bt444 => (if bt444.2.2 = 0 then ((data_order.f t436 t439 bt444.1 bt444.2.1 0 0).bind fun t452 => (some (t452, 0))) else (some (0, bt444.2.2)))) else (some (0, t442))) = some (r1, r2) := H
  have A3 := Aside0.mk A30
  clear A30
  by_cases c4 : t442 = 0
  · rw [if_pos c4] at H
    have c4b0 : (t442 == 0) = true := beq_iff_eq.mpr c4
    have c4b1 : (t442 != 0) = false := bne_eq_false_iff_eq.mpr c4
    clear c4
    replace H := Option.bind_eq_some_iff.mp H
    obtain ⟨⟨t444, t447, t450⟩, A50, H⟩ := H
    replace H : (if t450 = 0 then ((data_order.f t436 t439 t444 t447 0 0).bind fun t452 => (some (t452, 0))) else (some (0, t450))) = some (r1, r2) := H
    have A5 := Aside0.mk A50
    clear A50
    by_cases c6 : t450 = 0
    · rw [if_pos c6] at H
      have c6b0 : (t450 == 0) = true := beq_iff_eq.mpr c6
      have c6b1 : (t450 != 0) = false := bne_eq_false_iff_eq.mpr c6
      clear c6
      replace H := Option.bind_eq_some_iff.mp H
      obtain ⟨t452, A70, H⟩ := H
      replace H : (some (t452, 0)) = some (r1, r2) := H
      have A7 := Aside0.mk A70
      clear A70
      simp only [Option.some.injEq, Prod.mk.injEq] at H
      obtain ⟨rfl, rfl⟩ := H
      go_enter Tryd.func29, Tryd.ntmps29
      go_wp2_with (first | ((with_reducible refine gate_callee (f := 62) rfl ?_); refine goesL_ (some 11) rfl rfl Tryd.func62 (by kernel_rfl) rfl #[.slice A0 l0.length c0] rfl (by (try simp only [List.map_toArray, List.map_cons, List.map_nil]); first | done | rfl | (simp only [List.length_drop, List.length_take]; rfl)) ?_; (with_reducible refine (data_of.calls k (fun k_ => k_ < w.heap.size) _ _ l0 t436 t439 t442 _ ?side1 ?side2 A3.out).mono ?_); (case side1 => exact Kd.V_mk HC0.out (Kd.F_below (Kd.C_F k51_heap HR0.out) (by repeat (first | (with_reducible first | exact HB.out | apply below_alloc | apply pw_below_drewN | apply below_drew1) | exact HB.out)))); (case side2 => exact G0_keep HGl.out (by repeat (first | (with_reducible first | exact HB.out | apply below_alloc | apply pw_below_drewN | apply below_drew1) | exact HB.out))); rintro e w8 ⟨v437, v440, rfl, ho0, ho1, hb⟩; refine ⟨_, rfl, ?_⟩; have n0_ := Aside0.mk (Kd.V_lower (Kd.V_mono (ok' := fun k_ => some k_ ≠ (v440 : Value).ownBlock) ho0 (fun k_ hk_ => hk_.2)) (below_size (by repeat (first | (with_reducible first | exact HB.out | apply below_alloc | apply pw_below_drewN | apply below_drew1) | exact HB.out)))); have n1_ := Aside0.mk (Kd.R_lower (Kd.R_mono (ok' := fun k_ => True) ho1 (fun _ hk_ => trivial)) (below_size (by repeat (first | (with_reducible first | exact HB.out | apply below_alloc | apply pw_below_drewN | apply below_drew1) | exact HB.out)))); have n2_ := Aside0.mk (below_step (by repeat (first | (with_reducible first | exact HB.out | apply below_alloc | apply pw_below_drewN | apply below_drew1) | exact HB.out)) hb); clear HB; have HO438 := n0_; have HO441 := n1_; have HB := n2_; clear n0_ n1_ n2_; (try clear hb); (try clear hb2); (try clear hk); (try clear hi); (try clear ho0); (try clear ho1)) | ((with_reducible refine gate_dst (N := 6) rfl ?_); refine box_event ?hg (N := 6) ?hd (cs := #[.slice none 0 0, .slice none 0 0]) (t := 78) ?hr ?_; (case hd => rfl); (case hg => rfl); (case hr => first | (go_simp; done) | (go_simp; rfl)); intro gb443 hg w9 hbox hb; have n0_ := Aside0.mk (Kd.V_below (Kd.V_elderB (by (with_reducible repeat (first | apply Kd.V_alloc | apply Kd.V_drewN | apply Kd.V_drew)); exact HO438.out) gb443 (Nat.le_of_eq hg.symm)) hb); have n1_ := Aside0.mk (Kd.R_below (by (with_reducible repeat (first | apply Kd.R_alloc | apply Kd.R_drewN | apply Kd.R_drew)); exact HO441.out) hb); have n2_ := Aside0.mk (below_step (by repeat (first | (with_reducible first | exact HB.out | apply below_alloc | apply pw_below_drewN | apply below_drew1) | exact HB.out)) hb); have n3_ := Aside0.mk (hbox); have n4_ := Aside0.mk ((by rw [hg]; exact (below_size (by repeat (first | (with_reducible first | exact HB.out | apply below_alloc | apply pw_below_drewN | apply below_drew1) | exact HB.out))) : w.heap.size ≤ gb443)); have n5_ := Aside0.mk ((by rw [hg]; exact (below_size (by repeat (first | (with_reducible first | exact HB.out | apply below_alloc | apply pw_below_drewN | apply below_drew1) | exact HB.out))) : w.heap.size ≤ gb443)); clear HO438; clear HO441; clear HB; have HO438 := n0_; have HO441 := n1_; have HB := n2_; have BK443 := n3_; have GW443 := n4_; have GE443 := n5_; clear n0_ n1_ n2_ n3_ n4_ n5_; clear hb hbox hg; obtain ⟨Ao10, co10, eo10⟩ := Kd.V_slice HO438.out; subst eo10; have hcz11_0 : w9.cell? ⟨gb443, 0, none⟩ = some (.slice none 0 0) := (blk_cell BK443.out 0).trans rfl; have hcz11_1 : w9.cell? ⟨gb443, 1, none⟩ = some (.slice none 0 0) := (blk_cell BK443.out 1).trans rfl; have hfz11_0 := blk_frozen BK443.out 0; have hfz11_1 := blk_frozen BK443.out 1; obtain ⟨Ao12, co12, eo12⟩ := Kd.R_slice HO441.out; subst eo12) | ((with_reducible refine gate_store (t := 78) (p := 6) rfl ?_); refine store_event (t := 78) (p := 6) (v := ?vo_w13) (w1 := ((w9.setCell ⟨gb443, 0, none⟩ (.slice Ao10 t436.length co10)).setCell ⟨gb443, 1, none⟩ (.slice Ao12 t439.length co12))) ?hg ?ho ?hn ?hr ?_; (case ho => rfl); (case hg => rfl); (case hn => rfl); (case hr => first | (go_simp; done) | (go_simp; rfl)); intro w13 hw; have n0_ : Aside0 (Kd.V k51 51 w13 w.heap.size (fun k_ => some k_ ≠ (.slice Ao12 t439.length co12 : Value).ownBlock ∧ k_ ≠ gb443) (.slice Ao10 t436.length co10) t436) := ⟨(by rw [hw]; exact (by (with_reducible repeat (first | apply Kd.V_alloc | apply Kd.V_drewN | apply Kd.V_drew)); exact Kd.V_mono (Kd.V_far (p := ⟨gb443, 1, none⟩) (Kd.V_far (p := ⟨gb443, 0, none⟩) (Kd.V_mono HO438.out (fun k_ hk => (⟨hk, hk.2⟩ : _ ∧ k_ ≠ gb443))) (fun _ hk => hk.2) (.slice Ao10 t436.length co10)) (fun _ hk => hk.2) (.slice Ao12 t439.length co12)) (fun _ hk => ⟨hk.1.1, hk.1.2⟩)))⟩; have n1_ : Aside0 (Kd.R (Kd.int .i64) 3 w13 w.heap.size (fun _ => True) (.slice Ao12 t439.length co12) t439) := ⟨(by rw [hw]; exact (by (with_reducible repeat (first | apply Kd.R_alloc | apply Kd.R_drewN | apply Kd.R_drew)); exact Kd.R_mono (Kd.R_far (p := ⟨gb443, 1, none⟩) (Kd.R_far (p := ⟨gb443, 0, none⟩) (Kd.R_types HO441.out BK443.out (by decide)) (fun _ hk => hk.2) (.slice Ao10 t436.length co10)) (fun _ hk => hk.2) (.slice Ao12 t439.length co12)) (fun _ hk => trivial)))⟩; have n2_ : Aside0 (w13.heap[gb443]? = some (.cells #[.slice Ao10 t436.length co10, .slice Ao12 t439.length co12] 78 (0, 0))) := ⟨(by rw [hw]; exact (by (with_reducible repeat (first | refine blk_drewN ?_ _ | refine blk_drew ?_ | refine blk_alloc ?_ _)); refine blk_put (cs := #[.slice Ao10 t436.length co10, .slice none 0 0]) ?_ 1 _ rfl; (with_reducible repeat (first | refine blk_drewN ?_ _ | refine blk_drew ?_ | refine blk_alloc ?_ _)); refine blk_put (cs := #[.slice none 0 0, .slice none 0 0]) ?_ 0 _ rfl; (with_reducible repeat (first | refine blk_drewN ?_ _ | refine blk_drew ?_ | refine blk_alloc ?_ _)); exact BK443.out))⟩; have n3_ : Aside0 (Below w.heap.size w w13) := ⟨(by rw [hw]; exact (by repeat (first | (with_reducible first | exact HB.out | apply below_alloc | apply pw_below_drewN | apply below_drew1 | refine below_set ?_ GE443.out) | exact HB.out)))⟩; clear hw; clear HO438; clear HO441; clear BK443; clear HB; have HO438 := n0_; have HO441 := n1_; have BK443 := n2_; have HB := n3_; clear n0_ n1_ n2_ n3_) | ((with_reducible refine gate_callee (f := 62) rfl ?_); refine goesL_ (some 19) rfl rfl Tryd.func62 (by kernel_rfl) rfl #[.slice A1 l1.length c1] rfl (by (try simp only [List.map_toArray, List.map_cons, List.map_nil]); first | done | rfl | (simp only [List.length_drop, List.length_take]; rfl)) ?_; (with_reducible refine (data_of.calls k (fun k_ => k_ < w.heap.size) _ _ l1 t444 t447 t450 _ ?side1 ?side2 A5.out).mono ?_); (case side1 => exact Kd.V_mk HC1.out (Kd.F_below (Kd.C_F k51_heap HR1.out) (by repeat (first | (with_reducible first | exact HB.out | apply below_alloc | apply pw_below_drewN | apply below_drew1 | refine below_set ?_ GE443.out) | exact HB.out)))); (case side2 => exact G0_keep HGl.out (by repeat (first | (with_reducible first | exact HB.out | apply below_alloc | apply pw_below_drewN | apply below_drew1 | refine below_set ?_ GE443.out) | exact HB.out))); rintro e w14 ⟨v445, v448, rfl, ho0, ho1, hb⟩; refine ⟨_, rfl, ?_⟩; have n0_ := Aside0.mk (Kd.V_elder' (by (with_reducible repeat (first | apply Kd.V_alloc | apply Kd.V_drewN | apply Kd.V_drew)); exact HO438.out) (Kd.R_base ho1) hb); have n1_ := Aside0.mk (Kd.R_elder' (by (with_reducible repeat (first | apply Kd.R_alloc | apply Kd.R_drewN | apply Kd.R_drew)); exact HO441.out) (Kd.R_base ho1) hb); have n2_ := Aside0.mk (Kd.V_lower (Kd.V_mono (ok' := fun k_ => some k_ ≠ (v448 : Value).ownBlock ∧ some k_ ≠ (.slice Ao12 t439.length co12 : Value).ownBlock ∧ k_ ≠ gb443) ho0 (fun k_ hk_ => ⟨hk_.2, Or.elim hk_.1 (fun hs_ => fun e_ => Nat.not_le.2 hs_ (Kd.R_base HO441.out k_ e_.symm)) (fun hn_ => (Kd.fresh' (Kd.R_lt (by (with_reducible repeat (first | apply Kd.R_alloc | apply Kd.R_drewN | apply Kd.R_drew)); exact HO441.out)) k_ hn_)), Or.elim hk_.1 (fun hs_ => fun e_ => Nat.not_le.2 hs_ (by rw [e_]; exact GW443.out)) (fun hn_ => (Kd.freshB (g := gb443) (o := .cells #[.slice Ao10 t436.length co10, .slice Ao12 t439.length co12] 78 (0, 0)) (by (with_reducible repeat (first | refine blk_drewN ?_ _ | refine blk_drew ?_ | refine blk_alloc ?_ _)); exact BK443.out) k_ hn_))⟩)) (below_size (by repeat (first | (with_reducible first | exact HB.out | apply below_alloc | apply pw_below_drewN | apply below_drew1 | refine below_set ?_ GE443.out) | exact HB.out)))); have n3_ := Aside0.mk (Kd.R_lower (Kd.R_new' (Kd.R_mono (ok' := fun k_ => True) ho1 (fun _ hk_ => trivial)) (Kd.R_lt (by (with_reducible repeat (first | apply Kd.R_alloc | apply Kd.R_drewN | apply Kd.R_drew)); exact HO441.out))) (below_size (by repeat (first | (with_reducible first | exact HB.out | apply below_alloc | apply pw_below_drewN | apply below_drew1 | refine below_set ?_ GE443.out) | exact HB.out)))); have n4_ := Aside0.mk (blk_below (g := gb443) (o := .cells #[.slice Ao10 t436.length co10, .slice Ao12 t439.length co12] 78 (0, 0)) (by (with_reducible repeat (first | refine blk_drewN ?_ _ | refine blk_drew ?_ | refine blk_alloc ?_ _)); exact BK443.out) hb); have n5_ := Aside0.mk (below_step (by repeat (first | (with_reducible first | exact HB.out | apply below_alloc | apply pw_below_drewN | apply below_drew1 | refine below_set ?_ GE443.out) | exact HB.out)) hb); clear HO438; clear HO441; clear BK443; clear HB; have HO438 := n0_; have HO441 := n1_; have HO446 := n2_; have HO449 := n3_; have BK443 := n4_; have HB := n5_; clear n0_ n1_ n2_ n3_ n4_ n5_; (try clear hb); (try clear hb2); (try clear hk); (try clear hi); (try clear ho0); (try clear ho1)) | ((with_reducible refine gate_dst (N := 8) rfl ?_); refine box_event ?hg (N := 8) ?hd (cs := #[.slice none 0 0, .slice none 0 0]) (t := 78) ?hr ?_; (case hd => rfl); (case hg => rfl); (case hr => first | (go_simp; done) | (go_simp; rfl)); intro gb451 hg w15 hbox hb; have n0_ := Aside0.mk (Kd.V_below (Kd.V_elderB (by (with_reducible repeat (first | apply Kd.V_alloc | apply Kd.V_drewN | apply Kd.V_drew)); exact HO438.out) gb451 (Nat.le_of_eq hg.symm)) hb); have n1_ := Aside0.mk (Kd.R_below (by (with_reducible repeat (first | apply Kd.R_alloc | apply Kd.R_drewN | apply Kd.R_drew)); exact HO441.out) hb); have n2_ := Aside0.mk (Kd.V_below (Kd.V_elderB (by (with_reducible repeat (first | apply Kd.V_alloc | apply Kd.V_drewN | apply Kd.V_drew)); exact HO446.out) gb451 (Nat.le_of_eq hg.symm)) hb); have n3_ := Aside0.mk (Kd.R_below (by (with_reducible repeat (first | apply Kd.R_alloc | apply Kd.R_drewN | apply Kd.R_drew)); exact HO449.out) hb); have n4_ := Aside0.mk (blk_below (g := gb443) (o := .cells #[.slice Ao10 t436.length co10, .slice Ao12 t439.length co12] 78 (0, 0)) (by (with_reducible repeat (first | refine blk_drewN ?_ _ | refine blk_drew ?_ | refine blk_alloc ?_ _)); exact BK443.out) hb); have n5_ := Aside0.mk (below_step (by repeat (first | (with_reducible first | exact HB.out | apply below_alloc | apply pw_below_drewN | apply below_drew1 | refine below_set ?_ GE443.out) | exact HB.out)) hb); have n6_ := Aside0.mk (hbox); have n7_ := Aside0.mk ((by rw [hg]; exact (below_size (by repeat (first | (with_reducible first | exact HB.out | apply below_alloc | apply pw_below_drewN | apply below_drew1 | refine below_set ?_ GE443.out) | exact HB.out))) : w.heap.size ≤ gb451)); have n8_ := Aside0.mk ((by rw [hg]; exact (below_size (by repeat (first | (with_reducible first | exact HB.out | apply below_alloc | apply pw_below_drewN | apply below_drew1 | refine below_set ?_ GE443.out) | exact HB.out))) : w.heap.size ≤ gb451)); have n9_ := Aside0.mk ((by rw [hg]; exact Nat.ne_of_lt (blk_lt (g := gb443) (o := .cells #[.slice Ao10 t436.length co10, .slice Ao12 t439.length co12] 78 (0, 0)) (by (with_reducible repeat (first | refine blk_drewN ?_ _ | refine blk_drew ?_ | refine blk_alloc ?_ _)); exact BK443.out)) : gb443 ≠ gb451)); have n10_ := Aside0.mk ((by rw [hg]; exact Nat.ne_of_gt (blk_lt (g := gb443) (o := .cells #[.slice Ao10 t436.length co10, .slice Ao12 t439.length co12] 78 (0, 0)) (by (with_reducible repeat (first | refine blk_drewN ?_ _ | refine blk_drew ?_ | refine blk_alloc ?_ _)); exact BK443.out)) : gb451 ≠ gb443)); clear HO438; clear HO441; clear HO446; clear HO449; clear BK443; clear HB; have HO438 := n0_; have HO441 := n1_; have HO446 := n2_; have HO449 := n3_; have BK443 := n4_; have HB := n5_; have BK451 := n6_; have GW451 := n7_; have GE451 := n8_; have NB443_451 := n9_; have NB451_443 := n10_; clear n0_ n1_ n2_ n3_ n4_ n5_ n6_ n7_ n8_ n9_ n10_; clear hb hbox hg; obtain ⟨Ao16, co16, eo16⟩ := Kd.V_slice HO446.out; subst eo16; have hnb17 := NB451_443.out; have hnc17 := NB443_451.out; have hcz18_0 : w15.cell? ⟨gb451, 0, none⟩ = some (.slice none 0 0) := (blk_cell BK451.out 0).trans rfl; have hcz18_1 : w15.cell? ⟨gb451, 1, none⟩ = some (.slice none 0 0) := (blk_cell BK451.out 1).trans rfl; have hfz18_0 := blk_frozen BK451.out 0; have hfz18_1 := blk_frozen BK451.out 1; obtain ⟨Ao19, co19, eo19⟩ := Kd.R_slice HO449.out; subst eo19; have hcz20_0 : w15.cell? ⟨gb443, 0, none⟩ = some (.slice Ao10 t436.length co10) := (blk_cell BK443.out 0).trans rfl; have hcz20_1 : w15.cell? ⟨gb443, 1, none⟩ = some (.slice Ao12 t439.length co12) := (blk_cell BK443.out 1).trans rfl; have hfz20_0 := blk_frozen BK443.out 0; have hfz20_1 := blk_frozen BK443.out 1) | ((with_reducible refine gate_callee (f := 70) rfl ?_); refine goesL_ (some 27) rfl rfl Tryd.func70 (by kernel_rfl) rfl #[.agg #[.slice Ao10 t436.length co10, .slice Ao12 t439.length co12], .agg #[.slice Ao16 t444.length co16, .slice Ao19 t447.length co19], .int .i64 0, .int .i64 0] rfl (by (try simp only [List.map_toArray, List.map_cons, List.map_nil]); first | done | rfl | (simp only [List.length_drop, List.length_take]; rfl)) ?_; (with_reducible refine (data_order.calls _ _ t436 _ _ t439 _ _ t444 _ _ t447 0 0 t452 _ ?side1 ?side2 ?side3 ?side4 ?side5 ?side6 ?side7 ?side8 A7.out).mono ?_); (case side1 => refine (Kd.V_reads' (e := 51) (base := w.heap.size) (ok := fun k_ => (((some k_ ≠ (.slice Ao12 t439.length co12 : Value).ownBlock ∧ k_ ≠ gb443) ∧ some k_ ≠ (.slice Ao19 t447.length co19 : Value).ownBlock) ∧ k_ ≠ gb451)) (n := t436.length) (c := co10) ?_).2.2; exact (by (with_reducible repeat (first | apply Kd.V_alloc | apply Kd.V_drewN | apply Kd.V_drew)); exact (Kd.V_mono (Kd.V_far (p := ⟨gb451, 1, none⟩) (Kd.V_far (p := ⟨gb451, 0, none⟩) (Kd.V_mono HO438.out (fun k_ hk => (⟨hk, hk.2⟩ : _ ∧ k_ ≠ gb451))) (fun _ hk => hk.2) (.slice Ao16 t444.length co16)) (fun _ hk => hk.2) (.slice Ao19 t447.length co19)) (fun _ h_ => h_.1)))); (case side2 => exact (Kd.V_reads' HO438.out).2.1); (case side3 => refine (Kd.R_reads' (e := 3) (base := w.heap.size) (ok := fun k_ => (True ∧ some k_ ≠ (.slice Ao19 t447.length co19 : Value).ownBlock)) (n := t439.length) (c := co12) ?_).2.2; exact (by (with_reducible repeat (first | apply Kd.R_alloc | apply Kd.R_drewN | apply Kd.R_drew)); exact (Kd.R_mono (Kd.R_far (p := ⟨gb451, 1, none⟩) (Kd.R_far (p := ⟨gb451, 0, none⟩) (Kd.R_types HO441.out BK451.out (by decide)) (fun _ hk => hk.2) (.slice Ao16 t444.length co16)) (fun _ hk => hk.2) (.slice Ao19 t447.length co19)) (fun _ h_ => h_.1)))); (case side4 => exact (Kd.R_reads' HO441.out).2.1); (case side5 => refine (Kd.V_reads' (e := 51) (base := w.heap.size) (ok := fun k_ => ((some k_ ≠ (.slice Ao19 t447.length co19 : Value).ownBlock ∧ (some k_ ≠ (.slice Ao12 t439.length co12 : Value).ownBlock ∧ k_ ≠ gb443)) ∧ k_ ≠ gb451)) (n := t444.length) (c := co16) ?_).2.2; exact (by (with_reducible repeat (first | apply Kd.V_alloc | apply Kd.V_drewN | apply Kd.V_drew)); exact (Kd.V_mono (Kd.V_far (p := ⟨gb451, 1, none⟩) (Kd.V_far (p := ⟨gb451, 0, none⟩) (Kd.V_mono HO446.out (fun k_ hk => (⟨hk, hk.2⟩ : _ ∧ k_ ≠ gb451))) (fun _ hk => hk.2) (.slice Ao16 t444.length co16)) (fun _ hk => hk.2) (.slice Ao19 t447.length co19)) (fun _ h_ => h_.1)))); (case side6 => exact (Kd.V_reads' HO446.out).2.1); (case side7 => refine (Kd.R_reads' (e := 3) (base := w.heap.size) (ok := fun k_ => (True ∧ some k_ ≠ (.slice Ao12 t439.length co12 : Value).ownBlock)) (n := t447.length) (c := co19) ?_).2.2; exact (by (with_reducible repeat (first | apply Kd.R_alloc | apply Kd.R_drewN | apply Kd.R_drew)); exact (Kd.R_mono (Kd.R_far (p := ⟨gb451, 1, none⟩) (Kd.R_far (p := ⟨gb451, 0, none⟩) (Kd.R_types HO449.out BK451.out (by decide)) (fun _ hk => hk.2) (.slice Ao16 t444.length co16)) (fun _ hk => hk.2) (.slice Ao19 t447.length co19)) (fun _ h_ => h_.1)))); (case side8 => exact (Kd.R_reads' HO449.out).2.1); rintro e w21 ⟨rfl, hb⟩; refine ⟨_, rfl, ?_⟩; have n0_ := Aside0.mk (Kd.V_below (by (with_reducible repeat (first | apply Kd.V_alloc | apply Kd.V_drewN | apply Kd.V_drew)); exact (Kd.V_mono (Kd.V_far (p := ⟨gb451, 1, none⟩) (Kd.V_far (p := ⟨gb451, 0, none⟩) (Kd.V_mono HO438.out (fun k_ hk => (⟨hk, hk.2⟩ : _ ∧ k_ ≠ gb451))) (fun _ hk => hk.2) (.slice Ao16 t444.length co16)) (fun _ hk => hk.2) (.slice Ao19 t447.length co19)) (fun _ h_ => h_.1))) hb); have n1_ := Aside0.mk (Kd.R_below (by (with_reducible repeat (first | apply Kd.R_alloc | apply Kd.R_drewN | apply Kd.R_drew)); exact (Kd.R_mono (Kd.R_far (p := ⟨gb451, 1, none⟩) (Kd.R_far (p := ⟨gb451, 0, none⟩) (Kd.R_types HO441.out BK451.out (by decide)) (fun _ hk => hk.2) (.slice Ao16 t444.length co16)) (fun _ hk => hk.2) (.slice Ao19 t447.length co19)) (fun _ h_ => h_.1))) hb); have n2_ := Aside0.mk (Kd.V_below (by (with_reducible repeat (first | apply Kd.V_alloc | apply Kd.V_drewN | apply Kd.V_drew)); exact (Kd.V_mono (Kd.V_far (p := ⟨gb451, 1, none⟩) (Kd.V_far (p := ⟨gb451, 0, none⟩) (Kd.V_mono HO446.out (fun k_ hk => (⟨hk, hk.2⟩ : _ ∧ k_ ≠ gb451))) (fun _ hk => hk.2) (.slice Ao16 t444.length co16)) (fun _ hk => hk.2) (.slice Ao19 t447.length co19)) (fun _ h_ => h_.1))) hb); have n3_ := Aside0.mk (Kd.R_below (by (with_reducible repeat (first | apply Kd.R_alloc | apply Kd.R_drewN | apply Kd.R_drew)); exact (Kd.R_mono (Kd.R_far (p := ⟨gb451, 1, none⟩) (Kd.R_far (p := ⟨gb451, 0, none⟩) (Kd.R_types HO449.out BK451.out (by decide)) (fun _ hk => hk.2) (.slice Ao16 t444.length co16)) (fun _ hk => hk.2) (.slice Ao19 t447.length co19)) (fun _ h_ => h_.1))) hb); have n4_ := Aside0.mk (blk_below (g := gb443) (o := .cells #[.slice Ao10 t436.length co10, .slice Ao12 t439.length co12] 78 (0, 0)) (by (with_reducible repeat (first | refine blk_drewN ?_ _ | refine blk_drew ?_ | refine blk_alloc ?_ _)); refine blk_far ?_ NB443_451.out _; (with_reducible repeat (first | refine blk_drewN ?_ _ | refine blk_drew ?_ | refine blk_alloc ?_ _)); refine blk_far ?_ NB443_451.out _; (with_reducible repeat (first | refine blk_drewN ?_ _ | refine blk_drew ?_ | refine blk_alloc ?_ _)); exact BK443.out) hb); have n5_ := Aside0.mk (blk_below (g := gb451) (o := .cells #[.slice Ao16 t444.length co16, .slice Ao19 t447.length co19] 78 (0, 0)) (by (with_reducible repeat (first | refine blk_drewN ?_ _ | refine blk_drew ?_ | refine blk_alloc ?_ _)); refine blk_put (cs := #[.slice Ao16 t444.length co16, .slice none 0 0]) ?_ 1 _ rfl; (with_reducible repeat (first | refine blk_drewN ?_ _ | refine blk_drew ?_ | refine blk_alloc ?_ _)); refine blk_put (cs := #[.slice none 0 0, .slice none 0 0]) ?_ 0 _ rfl; (with_reducible repeat (first | refine blk_drewN ?_ _ | refine blk_drew ?_ | refine blk_alloc ?_ _)); exact BK451.out) hb); have n6_ := Aside0.mk (below_step (by repeat (first | (with_reducible first | exact HB.out | apply below_alloc | apply pw_below_drewN | apply below_drew1 | refine below_set ?_ GE443.out | refine below_set ?_ GE451.out) | exact HB.out)) hb); clear HO438; clear HO441; clear HO446; clear HO449; clear BK443; clear BK451; clear HB; have HO438 := n0_; have HO441 := n1_; have HO446 := n2_; have HO449 := n3_; have BK443 := n4_; have BK451 := n5_; have HB := n6_; clear n0_ n1_ n2_ n3_ n4_ n5_ n6_; (try clear hb); (try clear hb2); (try clear hk); (try clear hi)))
      go_ret2
      exact ⟨by first | rfl | (simp [errW_none, errW_some] <;> rfl) | (simp [*, errW_none, errW_some] <;> rfl), by repeat (first | (with_reducible first | exact HB.out | apply below_alloc | apply pw_below_drewN | apply below_drew1 | refine below_set ?_ GE443.out | refine below_set ?_ GE451.out) | exact HB.out)⟩
    · rw [if_neg c6] at H
      have c6b0 : (t450 == 0) = false := beq_eq_false_iff_ne.mpr c6
      have c6b1 : (t450 != 0) = true := bne_iff_ne.mpr c6
      simp only [Option.some.injEq, Prod.mk.injEq] at H
      obtain ⟨rfl, rfl⟩ := H
      go_enter Tryd.func29, Tryd.ntmps29
      go_wp2_with (first | ((with_reducible refine gate_callee (f := 62) rfl ?_); refine goesL_ (some 11) rfl rfl Tryd.func62 (by kernel_rfl) rfl #[.slice A0 l0.length c0] rfl (by (try simp only [List.map_toArray, List.map_cons, List.map_nil]); first | done | rfl | (simp only [List.length_drop, List.length_take]; rfl)) ?_; (with_reducible refine (data_of.calls k (fun k_ => k_ < w.heap.size) _ _ l0 t436 t439 t442 _ ?side1 ?side2 A3.out).mono ?_); (case side1 => exact Kd.V_mk HC0.out (Kd.F_below (Kd.C_F k51_heap HR0.out) (by repeat (first | (with_reducible first | exact HB.out | apply below_alloc | apply pw_below_drewN | apply below_drew1) | exact HB.out)))); (case side2 => exact G0_keep HGl.out (by repeat (first | (with_reducible first | exact HB.out | apply below_alloc | apply pw_below_drewN | apply below_drew1) | exact HB.out))); rintro e w22 ⟨v437, v440, rfl, ho0, ho1, hb⟩; refine ⟨_, rfl, ?_⟩; have n0_ := Aside0.mk (Kd.V_lower (Kd.V_mono (ok' := fun k_ => some k_ ≠ (v440 : Value).ownBlock) ho0 (fun k_ hk_ => hk_.2)) (below_size (by repeat (first | (with_reducible first | exact HB.out | apply below_alloc | apply pw_below_drewN | apply below_drew1) | exact HB.out)))); have n1_ := Aside0.mk (Kd.R_lower (Kd.R_mono (ok' := fun k_ => True) ho1 (fun _ hk_ => trivial)) (below_size (by repeat (first | (with_reducible first | exact HB.out | apply below_alloc | apply pw_below_drewN | apply below_drew1) | exact HB.out)))); have n2_ := Aside0.mk (below_step (by repeat (first | (with_reducible first | exact HB.out | apply below_alloc | apply pw_below_drewN | apply below_drew1) | exact HB.out)) hb); clear HB; have HO438 := n0_; have HO441 := n1_; have HB := n2_; clear n0_ n1_ n2_; (try clear hb); (try clear hb2); (try clear hk); (try clear hi); (try clear ho0); (try clear ho1)) | ((with_reducible refine gate_dst (N := 6) rfl ?_); refine box_event ?hg (N := 6) ?hd (cs := #[.slice none 0 0, .slice none 0 0]) (t := 78) ?hr ?_; (case hd => rfl); (case hg => rfl); (case hr => first | (go_simp; done) | (go_simp; rfl)); intro gb443 hg w23 hbox hb; have n0_ := Aside0.mk (Kd.V_below (Kd.V_elderB (by (with_reducible repeat (first | apply Kd.V_alloc | apply Kd.V_drewN | apply Kd.V_drew)); exact HO438.out) gb443 (Nat.le_of_eq hg.symm)) hb); have n1_ := Aside0.mk (Kd.R_below (by (with_reducible repeat (first | apply Kd.R_alloc | apply Kd.R_drewN | apply Kd.R_drew)); exact HO441.out) hb); have n2_ := Aside0.mk (below_step (by repeat (first | (with_reducible first | exact HB.out | apply below_alloc | apply pw_below_drewN | apply below_drew1) | exact HB.out)) hb); have n3_ := Aside0.mk (hbox); have n4_ := Aside0.mk ((by rw [hg]; exact (below_size (by repeat (first | (with_reducible first | exact HB.out | apply below_alloc | apply pw_below_drewN | apply below_drew1) | exact HB.out))) : w.heap.size ≤ gb443)); have n5_ := Aside0.mk ((by rw [hg]; exact (below_size (by repeat (first | (with_reducible first | exact HB.out | apply below_alloc | apply pw_below_drewN | apply below_drew1) | exact HB.out))) : w.heap.size ≤ gb443)); clear HO438; clear HO441; clear HB; have HO438 := n0_; have HO441 := n1_; have HB := n2_; have BK443 := n3_; have GW443 := n4_; have GE443 := n5_; clear n0_ n1_ n2_ n3_ n4_ n5_; clear hb hbox hg; obtain ⟨Ao24, co24, eo24⟩ := Kd.V_slice HO438.out; subst eo24; have hcz25_0 : w23.cell? ⟨gb443, 0, none⟩ = some (.slice none 0 0) := (blk_cell BK443.out 0).trans rfl; have hcz25_1 : w23.cell? ⟨gb443, 1, none⟩ = some (.slice none 0 0) := (blk_cell BK443.out 1).trans rfl; have hfz25_0 := blk_frozen BK443.out 0; have hfz25_1 := blk_frozen BK443.out 1; obtain ⟨Ao26, co26, eo26⟩ := Kd.R_slice HO441.out; subst eo26) | ((with_reducible refine gate_store (t := 78) (p := 6) rfl ?_); refine store_event (t := 78) (p := 6) (v := ?vo_w27) (w1 := ((w23.setCell ⟨gb443, 0, none⟩ (.slice Ao24 t436.length co24)).setCell ⟨gb443, 1, none⟩ (.slice Ao26 t439.length co26))) ?hg ?ho ?hn ?hr ?_; (case ho => rfl); (case hg => rfl); (case hn => rfl); (case hr => first | (go_simp; done) | (go_simp; rfl)); intro w27 hw; have n0_ : Aside0 (Kd.V k51 51 w27 w.heap.size (fun k_ => some k_ ≠ (.slice Ao26 t439.length co26 : Value).ownBlock ∧ k_ ≠ gb443) (.slice Ao24 t436.length co24) t436) := ⟨(by rw [hw]; exact (by (with_reducible repeat (first | apply Kd.V_alloc | apply Kd.V_drewN | apply Kd.V_drew)); exact Kd.V_mono (Kd.V_far (p := ⟨gb443, 1, none⟩) (Kd.V_far (p := ⟨gb443, 0, none⟩) (Kd.V_mono HO438.out (fun k_ hk => (⟨hk, hk.2⟩ : _ ∧ k_ ≠ gb443))) (fun _ hk => hk.2) (.slice Ao24 t436.length co24)) (fun _ hk => hk.2) (.slice Ao26 t439.length co26)) (fun _ hk => ⟨hk.1.1, hk.1.2⟩)))⟩; have n1_ : Aside0 (Kd.R (Kd.int .i64) 3 w27 w.heap.size (fun _ => True) (.slice Ao26 t439.length co26) t439) := ⟨(by rw [hw]; exact (by (with_reducible repeat (first | apply Kd.R_alloc | apply Kd.R_drewN | apply Kd.R_drew)); exact Kd.R_mono (Kd.R_far (p := ⟨gb443, 1, none⟩) (Kd.R_far (p := ⟨gb443, 0, none⟩) (Kd.R_types HO441.out BK443.out (by decide)) (fun _ hk => hk.2) (.slice Ao24 t436.length co24)) (fun _ hk => hk.2) (.slice Ao26 t439.length co26)) (fun _ hk => trivial)))⟩; have n2_ : Aside0 (w27.heap[gb443]? = some (.cells #[.slice Ao24 t436.length co24, .slice Ao26 t439.length co26] 78 (0, 0))) := ⟨(by rw [hw]; exact (by (with_reducible repeat (first | refine blk_drewN ?_ _ | refine blk_drew ?_ | refine blk_alloc ?_ _)); refine blk_put (cs := #[.slice Ao24 t436.length co24, .slice none 0 0]) ?_ 1 _ rfl; (with_reducible repeat (first | refine blk_drewN ?_ _ | refine blk_drew ?_ | refine blk_alloc ?_ _)); refine blk_put (cs := #[.slice none 0 0, .slice none 0 0]) ?_ 0 _ rfl; (with_reducible repeat (first | refine blk_drewN ?_ _ | refine blk_drew ?_ | refine blk_alloc ?_ _)); exact BK443.out))⟩; have n3_ : Aside0 (Below w.heap.size w w27) := ⟨(by rw [hw]; exact (by repeat (first | (with_reducible first | exact HB.out | apply below_alloc | apply pw_below_drewN | apply below_drew1 | refine below_set ?_ GE443.out) | exact HB.out)))⟩; clear hw; clear HO438; clear HO441; clear BK443; clear HB; have HO438 := n0_; have HO441 := n1_; have BK443 := n2_; have HB := n3_; clear n0_ n1_ n2_ n3_) | ((with_reducible refine gate_callee (f := 62) rfl ?_); refine goesL_ (some 19) rfl rfl Tryd.func62 (by kernel_rfl) rfl #[.slice A1 l1.length c1] rfl (by (try simp only [List.map_toArray, List.map_cons, List.map_nil]); first | done | rfl | (simp only [List.length_drop, List.length_take]; rfl)) ?_; (with_reducible refine (data_of.calls k (fun k_ => k_ < w.heap.size) _ _ l1 t444 t447 t450 _ ?side1 ?side2 A5.out).mono ?_); (case side1 => exact Kd.V_mk HC1.out (Kd.F_below (Kd.C_F k51_heap HR1.out) (by repeat (first | (with_reducible first | exact HB.out | apply below_alloc | apply pw_below_drewN | apply below_drew1 | refine below_set ?_ GE443.out) | exact HB.out)))); (case side2 => exact G0_keep HGl.out (by repeat (first | (with_reducible first | exact HB.out | apply below_alloc | apply pw_below_drewN | apply below_drew1 | refine below_set ?_ GE443.out) | exact HB.out))); rintro e w28 ⟨v445, v448, rfl, ho0, ho1, hb⟩; refine ⟨_, rfl, ?_⟩; have n0_ := Aside0.mk (Kd.V_elder' (by (with_reducible repeat (first | apply Kd.V_alloc | apply Kd.V_drewN | apply Kd.V_drew)); exact HO438.out) (Kd.R_base ho1) hb); have n1_ := Aside0.mk (Kd.R_elder' (by (with_reducible repeat (first | apply Kd.R_alloc | apply Kd.R_drewN | apply Kd.R_drew)); exact HO441.out) (Kd.R_base ho1) hb); have n2_ := Aside0.mk (Kd.V_lower (Kd.V_mono (ok' := fun k_ => some k_ ≠ (v448 : Value).ownBlock ∧ some k_ ≠ (.slice Ao26 t439.length co26 : Value).ownBlock ∧ k_ ≠ gb443) ho0 (fun k_ hk_ => ⟨hk_.2, Or.elim hk_.1 (fun hs_ => fun e_ => Nat.not_le.2 hs_ (Kd.R_base HO441.out k_ e_.symm)) (fun hn_ => (Kd.fresh' (Kd.R_lt (by (with_reducible repeat (first | apply Kd.R_alloc | apply Kd.R_drewN | apply Kd.R_drew)); exact HO441.out)) k_ hn_)), Or.elim hk_.1 (fun hs_ => fun e_ => Nat.not_le.2 hs_ (by rw [e_]; exact GW443.out)) (fun hn_ => (Kd.freshB (g := gb443) (o := .cells #[.slice Ao24 t436.length co24, .slice Ao26 t439.length co26] 78 (0, 0)) (by (with_reducible repeat (first | refine blk_drewN ?_ _ | refine blk_drew ?_ | refine blk_alloc ?_ _)); exact BK443.out) k_ hn_))⟩)) (below_size (by repeat (first | (with_reducible first | exact HB.out | apply below_alloc | apply pw_below_drewN | apply below_drew1 | refine below_set ?_ GE443.out) | exact HB.out)))); have n3_ := Aside0.mk (Kd.R_lower (Kd.R_new' (Kd.R_mono (ok' := fun k_ => True) ho1 (fun _ hk_ => trivial)) (Kd.R_lt (by (with_reducible repeat (first | apply Kd.R_alloc | apply Kd.R_drewN | apply Kd.R_drew)); exact HO441.out))) (below_size (by repeat (first | (with_reducible first | exact HB.out | apply below_alloc | apply pw_below_drewN | apply below_drew1 | refine below_set ?_ GE443.out) | exact HB.out)))); have n4_ := Aside0.mk (blk_below (g := gb443) (o := .cells #[.slice Ao24 t436.length co24, .slice Ao26 t439.length co26] 78 (0, 0)) (by (with_reducible repeat (first | refine blk_drewN ?_ _ | refine blk_drew ?_ | refine blk_alloc ?_ _)); exact BK443.out) hb); have n5_ := Aside0.mk (below_step (by repeat (first | (with_reducible first | exact HB.out | apply below_alloc | apply pw_below_drewN | apply below_drew1 | refine below_set ?_ GE443.out) | exact HB.out)) hb); clear HO438; clear HO441; clear BK443; clear HB; have HO438 := n0_; have HO441 := n1_; have HO446 := n2_; have HO449 := n3_; have BK443 := n4_; have HB := n5_; clear n0_ n1_ n2_ n3_ n4_ n5_; (try clear hb); (try clear hb2); (try clear hk); (try clear hi); (try clear ho0); (try clear ho1)) | ((with_reducible refine gate_dst (N := 8) rfl ?_); refine box_event ?hg (N := 8) ?hd (cs := #[.slice none 0 0, .slice none 0 0]) (t := 78) ?hr ?_; (case hd => rfl); (case hg => rfl); (case hr => first | (go_simp; done) | (go_simp; rfl)); intro gb451 hg w29 hbox hb; have n0_ := Aside0.mk (Kd.V_below (Kd.V_elderB (by (with_reducible repeat (first | apply Kd.V_alloc | apply Kd.V_drewN | apply Kd.V_drew)); exact HO438.out) gb451 (Nat.le_of_eq hg.symm)) hb); have n1_ := Aside0.mk (Kd.R_below (by (with_reducible repeat (first | apply Kd.R_alloc | apply Kd.R_drewN | apply Kd.R_drew)); exact HO441.out) hb); have n2_ := Aside0.mk (Kd.V_below (Kd.V_elderB (by (with_reducible repeat (first | apply Kd.V_alloc | apply Kd.V_drewN | apply Kd.V_drew)); exact HO446.out) gb451 (Nat.le_of_eq hg.symm)) hb); have n3_ := Aside0.mk (Kd.R_below (by (with_reducible repeat (first | apply Kd.R_alloc | apply Kd.R_drewN | apply Kd.R_drew)); exact HO449.out) hb); have n4_ := Aside0.mk (blk_below (g := gb443) (o := .cells #[.slice Ao24 t436.length co24, .slice Ao26 t439.length co26] 78 (0, 0)) (by (with_reducible repeat (first | refine blk_drewN ?_ _ | refine blk_drew ?_ | refine blk_alloc ?_ _)); exact BK443.out) hb); have n5_ := Aside0.mk (below_step (by repeat (first | (with_reducible first | exact HB.out | apply below_alloc | apply pw_below_drewN | apply below_drew1 | refine below_set ?_ GE443.out) | exact HB.out)) hb); have n6_ := Aside0.mk (hbox); have n7_ := Aside0.mk ((by rw [hg]; exact (below_size (by repeat (first | (with_reducible first | exact HB.out | apply below_alloc | apply pw_below_drewN | apply below_drew1 | refine below_set ?_ GE443.out) | exact HB.out))) : w.heap.size ≤ gb451)); have n8_ := Aside0.mk ((by rw [hg]; exact (below_size (by repeat (first | (with_reducible first | exact HB.out | apply below_alloc | apply pw_below_drewN | apply below_drew1 | refine below_set ?_ GE443.out) | exact HB.out))) : w.heap.size ≤ gb451)); have n9_ := Aside0.mk ((by rw [hg]; exact Nat.ne_of_lt (blk_lt (g := gb443) (o := .cells #[.slice Ao24 t436.length co24, .slice Ao26 t439.length co26] 78 (0, 0)) (by (with_reducible repeat (first | refine blk_drewN ?_ _ | refine blk_drew ?_ | refine blk_alloc ?_ _)); exact BK443.out)) : gb443 ≠ gb451)); have n10_ := Aside0.mk ((by rw [hg]; exact Nat.ne_of_gt (blk_lt (g := gb443) (o := .cells #[.slice Ao24 t436.length co24, .slice Ao26 t439.length co26] 78 (0, 0)) (by (with_reducible repeat (first | refine blk_drewN ?_ _ | refine blk_drew ?_ | refine blk_alloc ?_ _)); exact BK443.out)) : gb451 ≠ gb443)); clear HO438; clear HO441; clear HO446; clear HO449; clear BK443; clear HB; have HO438 := n0_; have HO441 := n1_; have HO446 := n2_; have HO449 := n3_; have BK443 := n4_; have HB := n5_; have BK451 := n6_; have GW451 := n7_; have GE451 := n8_; have NB443_451 := n9_; have NB451_443 := n10_; clear n0_ n1_ n2_ n3_ n4_ n5_ n6_ n7_ n8_ n9_ n10_; clear hb hbox hg; obtain ⟨Ao30, co30, eo30⟩ := Kd.V_slice HO446.out; subst eo30; have hnb31 := NB451_443.out; have hnc31 := NB443_451.out; have hcz32_0 : w29.cell? ⟨gb451, 0, none⟩ = some (.slice none 0 0) := (blk_cell BK451.out 0).trans rfl; have hcz32_1 : w29.cell? ⟨gb451, 1, none⟩ = some (.slice none 0 0) := (blk_cell BK451.out 1).trans rfl; have hfz32_0 := blk_frozen BK451.out 0; have hfz32_1 := blk_frozen BK451.out 1; obtain ⟨Ao33, co33, eo33⟩ := Kd.R_slice HO449.out; subst eo33))
      go_ret2
      exact ⟨by first | rfl | (simp [errW_none, errW_some] <;> rfl) | (simp [*, errW_none, errW_some] <;> rfl), by repeat (first | (with_reducible first | exact HB.out | apply below_alloc | apply pw_below_drewN | apply below_drew1 | refine below_set ?_ GE443.out | refine below_set ?_ GE451.out) | exact HB.out)⟩
  · rw [if_neg c4] at H
    have c4b0 : (t442 == 0) = false := beq_eq_false_iff_ne.mpr c4
    have c4b1 : (t442 != 0) = true := bne_iff_ne.mpr c4
    simp only [Option.some.injEq, Prod.mk.injEq] at H
    obtain ⟨rfl, rfl⟩ := H
    go_enter Tryd.func29, Tryd.ntmps29
    go_wp2_with (first | ((with_reducible refine gate_callee (f := 62) rfl ?_); refine goesL_ (some 11) rfl rfl Tryd.func62 (by kernel_rfl) rfl #[.slice A0 l0.length c0] rfl (by (try simp only [List.map_toArray, List.map_cons, List.map_nil]); first | done | rfl | (simp only [List.length_drop, List.length_take]; rfl)) ?_; (with_reducible refine (data_of.calls k (fun k_ => k_ < w.heap.size) _ _ l0 t436 t439 t442 _ ?side1 ?side2 A3.out).mono ?_); (case side1 => exact Kd.V_mk HC0.out (Kd.F_below (Kd.C_F k51_heap HR0.out) (by repeat (first | (with_reducible first | exact HB.out | apply below_alloc | apply pw_below_drewN | apply below_drew1) | exact HB.out)))); (case side2 => exact G0_keep HGl.out (by repeat (first | (with_reducible first | exact HB.out | apply below_alloc | apply pw_below_drewN | apply below_drew1) | exact HB.out))); rintro e w34 ⟨v437, v440, rfl, ho0, ho1, hb⟩; refine ⟨_, rfl, ?_⟩; have n0_ := Aside0.mk (Kd.V_lower (Kd.V_mono (ok' := fun k_ => some k_ ≠ (v440 : Value).ownBlock) ho0 (fun k_ hk_ => hk_.2)) (below_size (by repeat (first | (with_reducible first | exact HB.out | apply below_alloc | apply pw_below_drewN | apply below_drew1) | exact HB.out)))); have n1_ := Aside0.mk (Kd.R_lower (Kd.R_mono (ok' := fun k_ => True) ho1 (fun _ hk_ => trivial)) (below_size (by repeat (first | (with_reducible first | exact HB.out | apply below_alloc | apply pw_below_drewN | apply below_drew1) | exact HB.out)))); have n2_ := Aside0.mk (below_step (by repeat (first | (with_reducible first | exact HB.out | apply below_alloc | apply pw_below_drewN | apply below_drew1) | exact HB.out)) hb); clear HB; have HO438 := n0_; have HO441 := n1_; have HB := n2_; clear n0_ n1_ n2_; (try clear hb); (try clear hb2); (try clear hk); (try clear hi); (try clear ho0); (try clear ho1)) | ((with_reducible refine gate_dst (N := 6) rfl ?_); refine box_event ?hg (N := 6) ?hd (cs := #[.slice none 0 0, .slice none 0 0]) (t := 78) ?hr ?_; (case hd => rfl); (case hg => rfl); (case hr => first | (go_simp; done) | (go_simp; rfl)); intro gb443 hg w35 hbox hb; have n0_ := Aside0.mk (Kd.V_below (Kd.V_elderB (by (with_reducible repeat (first | apply Kd.V_alloc | apply Kd.V_drewN | apply Kd.V_drew)); exact HO438.out) gb443 (Nat.le_of_eq hg.symm)) hb); have n1_ := Aside0.mk (Kd.R_below (by (with_reducible repeat (first | apply Kd.R_alloc | apply Kd.R_drewN | apply Kd.R_drew)); exact HO441.out) hb); have n2_ := Aside0.mk (below_step (by repeat (first | (with_reducible first | exact HB.out | apply below_alloc | apply pw_below_drewN | apply below_drew1) | exact HB.out)) hb); have n3_ := Aside0.mk (hbox); have n4_ := Aside0.mk ((by rw [hg]; exact (below_size (by repeat (first | (with_reducible first | exact HB.out | apply below_alloc | apply pw_below_drewN | apply below_drew1) | exact HB.out))) : w.heap.size ≤ gb443)); have n5_ := Aside0.mk ((by rw [hg]; exact (below_size (by repeat (first | (with_reducible first | exact HB.out | apply below_alloc | apply pw_below_drewN | apply below_drew1) | exact HB.out))) : w.heap.size ≤ gb443)); clear HO438; clear HO441; clear HB; have HO438 := n0_; have HO441 := n1_; have HB := n2_; have BK443 := n3_; have GW443 := n4_; have GE443 := n5_; clear n0_ n1_ n2_ n3_ n4_ n5_; clear hb hbox hg; obtain ⟨Ao36, co36, eo36⟩ := Kd.V_slice HO438.out; subst eo36; have hcz37_0 : w35.cell? ⟨gb443, 0, none⟩ = some (.slice none 0 0) := (blk_cell BK443.out 0).trans rfl; have hcz37_1 : w35.cell? ⟨gb443, 1, none⟩ = some (.slice none 0 0) := (blk_cell BK443.out 1).trans rfl; have hfz37_0 := blk_frozen BK443.out 0; have hfz37_1 := blk_frozen BK443.out 1; obtain ⟨Ao38, co38, eo38⟩ := Kd.R_slice HO441.out; subst eo38))
    go_ret2
    exact ⟨by first | rfl | (simp [errW_none, errW_some] <;> rfl) | (simp [*, errW_none, errW_some] <;> rfl), by repeat (first | (with_reducible first | exact HB.out | apply below_alloc | apply pw_below_drewN | apply below_drew1 | refine below_set ?_ GE443.out) | exact HB.out)⟩
end Go.Proofs.YtgmiekggdgmhkaaDoor.Q
end
