import Derived.Maps.AppendAt
import Derived.OwnWalkIn
import Derived.RangeFuncBound
import Derived.RangeFuncBox
import Derived.RangeFuncCalls
import Derived.RangeFuncLeaves
import Derived.RangeFuncNested
import Derived.WalkKit
import Derived.Test.YtgmiekggdgmhkaaDoorMK0
section
/- A slice variable in a box, to which the rounds of a range over a function append; all other blocks that lay there stay. No program in it. -/
namespace Go.Proofs.YtgmiekggdgmhkaaDoor.Q
open Go.RowKit Go.Proofs.YtgmiekggdgmhkaaDoorW.PrintWords
set_option linter.unusedVariables false
theorem wpListIn_append_at {F : Fence} {n : Nat} {P : Program} (w : World) {ops : Array Oper} {rest : List Oper} {o : Oper} {a : Act} {Q : Exit → Act → World → Prop}
    (hg : o.guard = none) (s x : Operand) (t : TypeId) (hop : o.op = Op.call { callee := Callee.builtin Builtin.append, args := #[s, x], argTypes := #[t, t] })
    (base : Nat) (e : TypeId) (i : TypeInfo) (z : Value) (size bytes : Nat) (h1 : P.underlying t = some (.slice e)) (h2 : P.info? e = some i) (h3 : i.zero = some z) (h4 : i.size = size) (h5 : i.bytes = bytes) (h6 : z.cells.size = size) (h7 : 0 < size)
    (v : Value) (k : Nat) (xs : List Value) (hs : a.eval s = v) (hown : w.ownsRow base e size v k xs) (ad : Addr) (m c : Nat) (news : List Value) (hx : a.eval x = .slice (some ad) m c) (hn : news.length = m * size)
    (hc : ∀ j u, news[j]? = some u → w.cell? (ad.add j) = some u) (h1c : ∀ u ∈ news, u.oneCell' = true) (b1 : k + m ≤ maxLen) (b2 : (k + m) * bytes ≤ 140737488355328) (b3 : base ≤ w.heap.size)
    (hK : ∀ v' w', w'.ownsRow base e size v' (k + m) (xs ++ news) → w.grownBy w' v.ownBlock → (v'.ownBlock = v.ownBlock ∨ v'.ownBlock = some w.heap.size) → wpListIn F n P ops Q rest (a.put o.dst v') w') :
    wpListIn F n P ops Q (o :: rest) a w := by
  refine wpListIn_plain hg fun K hK' => ?_
  obtain ⟨v', w', hrun, r1, r2, _, r3⟩ := run_append_own_at (P := P) w base t o.type e i z size bytes h1 h2 h3 h4 h5 h6 h7 v k xs hown ad m c news hn hc h1c b1 b2 b3
  unfold Oper.wpIn
  refine ⟨?_, ?_⟩
  · simp [Oper.about, hop, resolve, Target.leads, Sem.run_pure]
  · rw [Oper.semAt_plain F _ _ (by rw [hop]; intro c hc'; cases hc')]
    simp [execOp, hop, resolve, invoke, builtin, hs, hx, hrun, Result.andThen]
    exact hK' _ _ (hK v' w' r1 r2 r3)
/-- what a loop that appends keeps, from its start W0 on: the variable's box bl, its first value v0 -/
structure Bag (n₀ : Nat) (W0 : World) (bl : Nat) (tS e : TypeId) (size : Nat) (v0 v : Value) (n : Nat) (xs : List Value) (W : World) : Prop where
  box : Boxed W bl tS v
  row : W.ownsRow n₀ e size v n xs
  wher : v.ownBlock = v0.ownBlock ∨ ∃ b, v.ownBlock = some b ∧ W0.heap.size ≤ b
  far : ∀ k, k < W0.heap.size → k ≠ bl → some k ≠ v0.ownBlock → W.heap[k]? = W0.heap[k]?
  keeps : KeepsFrom 0 W0 W
  below : Below n₀ W0 W
theorem Bag.start {n₀ : Nat} {W0 : World} {bl : Nat} {tS e : TypeId} {size : Nat} {v0 : Value} {n : Nat} {xs : List Value} (hb : Boxed W0 bl tS v0) (hr : W0.ownsRow n₀ e size v0 n xs) : Bag n₀ W0 bl tS e size v0 v0 n xs W0 :=
  ⟨hb, hr, .inl rfl, fun _ _ _ _ => rfl, KeepsFrom.refl _ _, Below.refl _ _⟩
/-- the row lies apart from whatever lay there and is no cells of its type -/
theorem row_ne {W : World} {n₀ e size n : Nat} {v : Value} {xs : List Value} (h : W.ownsRow n₀ e size v n xs) {k : Nat} {o : Obj} (ho : W.heap[k]? = some o) (hne : ∀ cur, o ≠ .cells cur e (0, 0)) : some k ≠ v.ownBlock := by
  rcases h.2 with ⟨rfl, _⟩ | ⟨g, cap, cur, rfl, _, hgb, _⟩
  · simp [Value.ownBlock]
  · intro e'
    obtain rfl : k = g := by simpa [Value.ownBlock] using e'
    rw [hgb] at ho
    exact hne cur (Option.some.inj ho).symm
theorem Bag.own {β : Type} {n₀ : Nat} {W0 : World} {bl : Nat} {tS e : TypeId} {size : Nat} {v0 : Value} {f : β → Nat} {g : β → List Value} {B : Nat} (hB : W0.heap.size ≤ B) (hn : n₀ ≤ W0.heap.size) :
    OwnFrom B (fun (s : β) W => ∃ v, Bag n₀ W0 bl tS e size v0 v (f s) (g s) W) := by
  rintro s X Y row ⟨v, h⟩ hg hrow
  have hne : ∀ k o, X.heap[k]? = some o → o.isCells = true → some k ≠ row := fun k o ho hc e' => by
    obtain ⟨_, o', ho', hc'⟩ := hrow k e'.symm
    rw [ho] at ho'; cases ho'; rw [hc] at hc'; cases hc'
  refine ⟨v, h.box.kept hg (hne _ _ h.box rfl), h.row.kept hg ?_, h.wher, fun k hk h1 h2 => ?_, ownFrom_keepsFrom (β := Unit) hB () X Y row h.keeps hg hrow, ?_⟩
  · rcases h.row.2 with ⟨rfl, _⟩ | ⟨g', cap, cur, rfl, _, hgb, _⟩
    · exact .inl rfl
    · exact .inr (fun e' => hne g' _ hgb rfl (by simpa [Value.ownBlock] using e'))
  · refine (hg.block k (Nat.lt_of_lt_of_le hk h.below.size) (fun e' => ?_)).trans (h.far k hk h1 h2)
    have := (hrow k e'.symm).1
    omega
  · exact ownFrom_below (β := Unit) hn (Nat.le_trans hn hB) () X Y row h.below hg hrow
/-- 'l = append(l, y)' in a round: behind the load of the variable; the world is W with y in a box of its own -/
theorem Bag.append {F : Fence} {nd : Nat} {P : Program} {ops : Array Oper} {rest : List Oper} {o : Oper} {a : Act} {Q : Exit → Act → World → Prop}
    {n₀ : Nat} {W0 : World} {bl : Nat} {tS e : TypeId} {v0 v : Value} {n : Nat} {xs : List Value} {W : World} (hbag : Bag n₀ W0 bl tS e 1 v0 v n xs W) (hte : tS ≠ e) (hn₀ : n₀ ≤ W0.heap.size) (hbl : n₀ ≤ bl) (hbl2 : bl < W0.heap.size)
    (hg : o.guard = none) (s x : Operand) (t : TypeId) (hop : o.op = Op.call { callee := Callee.builtin Builtin.append, args := #[s, x], argTypes := #[t, t] })
    (bytes : Nat) (z : Value) (h1 : P.underlying t = some (.slice e)) (hinfo : (P.info? e).map (fun i => (i.zero, i.size, i.bytes)) = some (some z, 1, bytes)) (h6 : z.cells.size = 1)
    (y : Value) (hs : a.eval s = v) (hx : a.eval x = .slice (some ⟨W.heap.size, 0, none⟩) 1 1) (hy : y.oneCell' = true) (b1 : n + 1 ≤ maxLen) (b2 : (n + 1) * bytes ≤ 140737488355328)
    (hK : ∀ g cap w1, Boxed w1 bl tS v → Bag n₀ W0 bl tS e 1 v0 (.slice (some ⟨g, 0, none⟩) (n + 1) cap) (n + 1) (xs ++ [y]) (w1.setCell ⟨bl, 0, none⟩ (.slice (some ⟨g, 0, none⟩) (n + 1) cap)) →
      KeepsOthers W (w1.setCell ⟨bl, 0, none⟩ (.slice (some ⟨g, 0, none⟩) (n + 1) cap)) → Below n₀ W (w1.setCell ⟨bl, 0, none⟩ (.slice (some ⟨g, 0, none⟩) (n + 1) cap)) →
      (∀ k, k < W0.heap.size → k ≠ bl → some k ≠ v0.ownBlock → (w1.setCell ⟨bl, 0, none⟩ (.slice (some ⟨g, 0, none⟩) (n + 1) cap)).heap[k]? = W.heap[k]?) →
      wpListIn F nd P ops Q rest (a.put o.dst (.slice (some ⟨g, 0, none⟩) (n + 1) cap)) w1) :
    wpListIn F nd P ops Q (o :: rest) a (W.alloc (.cells #[y] e)) := by
  obtain ⟨i0, hi, hzz⟩ := Option.map_eq_some_iff.1 hinfo
  simp only [Prod.mk.injEq] at hzz
  obtain ⟨hz0, hz1, hz2⟩ := hzz
  have hsz := hbag.below.size
  refine wpListIn_append_at (W.alloc (.cells #[y] e)) hg s x t hop n₀ e i0 z 1 bytes h1 hi hz0 hz1 hz2 h6 (by omega) v n xs hs (hbag.row.alloc _) ⟨W.heap.size, 0, none⟩ 1 1 [y] hx rfl
    (World.news_of_block (cs := #[y]) (t := e) (fr := (0, 0)) (heap_alloc_new W _)) (by simpa using hy) b1 b2 (by simp; omega) ?_
  intro v' w1 hown hgrow hat
  obtain ⟨g, cap, rfl⟩ := ownsRow_succ hown
  obtain ⟨hv1, hv2, hr2, hk2, hb2⟩ := hbag.box.appended hte hbag.row (by omega) hbl hown hgrow
  have hfar : ∀ k, k < W0.heap.size → k ≠ bl → some k ≠ v0.ownBlock → (w1.setCell ⟨bl, 0, none⟩ (.slice (some ⟨g, 0, none⟩) (n + 1) cap)).heap[k]? = W.heap[k]? := by
    intro k hk hkb hkv
    have hkW : k < W.heap.size := by omega
    refine (Below.heap_setCell w1 ⟨bl, 0, none⟩ _ k hkb).trans ((hgrow.block k (by simp; omega) ?_).trans (Below.heap_alloc W _ k hkW))
    rcases hbag.wher with h | ⟨b, h, hb⟩
    · rw [h]; exact hkv
    · rw [h]; intro e'; cases e'; omega
  refine hK g cap w1 hv1 ⟨hv2, hr2, ?_, fun k hk hkb hkv => (hfar k hk hkb hkv).trans (hbag.far k hk hkb hkv), hbag.keeps.trans (hk2.from _), hbag.below.trans hb2⟩ hk2 hb2 hfar
  rcases hat with h | h
  · rw [h]; exact hbag.wher
  · exact .inr ⟨_, h, by simp; omega⟩
/-- the invariant of such a loop: the slice holds f of what has come -/
def BagI {α β : Type} (n₀ : Nat) (W0 : World) (bl : Nat) (tS e : TypeId) (v0 : Value) (enc : α → Value) (f : β → List α) (pre : β) (W : World) : Prop :=
  ∃ v, Bag n₀ W0 bl tS e 1 v0 v (f pre).length (encs enc (f pre)) W
theorem BagI.own {α β : Type} {n₀ : Nat} {W0 : World} {bl : Nat} {tS e : TypeId} {v0 : Value} {enc : α → Value} {f : β → List α} {B : Nat} (hB : W0.heap.size ≤ B) (hn : n₀ ≤ W0.heap.size) : OwnFrom B (BagI n₀ W0 bl tS e v0 enc f) :=
  Bag.own (f := fun s => (f s).length) (g := fun s => encs enc (f s)) hB hn
/-- what a loop keeps whose rounds write one block bn alone, from its start W0 on; the block's cells -/
structure One (n₀ : Nat) (W0 : World) (bn : Nat) (t : TypeId) (cur : Array Value) (W : World) : Prop where
  box : W.heap[bn]? = some (.cells cur t (0, 0))
  far : ∀ k, k < W0.heap.size → k ≠ bn → W.heap[k]? = W0.heap[k]?
  keeps : KeepsFrom 0 W0 W
  below : Below n₀ W0 W
theorem One.start {n₀ : Nat} {W0 : World} {bn : Nat} {t : TypeId} {cur : Array Value} (hb : W0.heap[bn]? = some (.cells cur t (0, 0))) : One n₀ W0 bn t cur W0 :=
  ⟨hb, fun _ _ _ => rfl, KeepsFrom.refl _ _, Below.refl _ _⟩
theorem One.own {β : Type} {n₀ : Nat} {W0 : World} {bn : Nat} {t : TypeId} {f : β → Array Value} {B : Nat} (hB : W0.heap.size ≤ B) (hn : n₀ ≤ W0.heap.size) :
    OwnFrom B (fun (s : β) W => One n₀ W0 bn t (f s) W) := by
  rintro s X Y row h hg hrow
  have hne : some bn ≠ row := fun e' => by
    obtain ⟨_, o', ho', hc'⟩ := hrow bn e'.symm
    rw [h.box] at ho'; cases ho'; cases hc'
  refine ⟨(hg.block bn (Array.getElem?_eq_some_iff.1 h.box).1 hne).trans h.box, fun k hk h1 => ?_, ownFrom_keepsFrom (β := Unit) hB () X Y row h.keeps hg hrow, ?_⟩
  · refine (hg.block k (Nat.lt_of_lt_of_le hk h.below.size) (fun e' => ?_)).trans (h.far k hk h1)
    have := (hrow k e'.symm).1
    omega
  · exact ownFrom_below (β := Unit) hn (Nat.le_trans hn hB) () X Y row h.below hg hrow
/-- a step of a round that keeps all that lay at its start but bn -/
theorem One.step {n₀ : Nat} {W0 : World} {bn : Nat} {t : TypeId} {cur cur' : Array Value} {W W' : World} (h : One n₀ W0 bn t cur W) (hb : W'.heap[bn]? = some (.cells cur' t (0, 0)))
    (hf : ∀ k, k < W0.heap.size → k ≠ bn → W'.heap[k]? = W.heap[k]?) (hk : KeepsFrom 0 W W') (hB : Below n₀ W W') : One n₀ W0 bn t cur' W' :=
  ⟨hb, fun k h1 h2 => (hf k h1 h2).trans (h.far k h1 h2), h.keeps.trans hk, h.below.trans hB⟩
/-- a store into the block's one cell -/
theorem One.set {n₀ : Nat} {W0 : World} {bn : Nat} {t : TypeId} {v : Value} {W : World} (h : One n₀ W0 bn t #[v] W) (hn : n₀ ≤ bn) (v' : Value) : One n₀ W0 bn t #[v'] (W.setCell ⟨bn, 0, none⟩ v') :=
  h.step (Boxed.set v' h.box) (fun k _ hk => Below.heap_setCell W ⟨bn, 0, none⟩ _ k hk) ((KeepsOthers.setCell W _ _).from _) ((Below.refl n₀ W).setCell (p := ⟨bn, 0, none⟩) hn _)
end Go.Proofs.YtgmiekggdgmhkaaDoor.Q
end
