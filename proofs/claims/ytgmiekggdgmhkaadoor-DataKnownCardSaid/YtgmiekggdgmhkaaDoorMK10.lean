import Derived.LoopIn
import Derived.LoopNIn
import Derived.OwnWalkIn
import Derived.RangeFuncBound
import Derived.RangeFuncBox
import Derived.RangeFuncCalls
import Derived.RangeFuncLeaves
import Derived.RangeFuncNested
import Derived.Shelf.Abstract
import Derived.Shelf.RegionOpen
import Derived.TacticsInMore
import Derived.Test.YtgmiekggdgmhkaaDoorMK0
import Derived.Test.YtgmiekggdgmhkaaDoorMK8
section
/- runes.all: the iterator over the runes of some bytes, for every loop body that keeps what lay there. -/
namespace Go.Proofs.YtgmiekggdgmhkaaDoor.Q
open Go.RowKit Go.Proofs.YtgmiekggdgmhkaaDoorW.PrintWords Go.Proofs.YtgmiekggdgmhkaaDoorW.PrintLast Go.Proofs.YtgmiekggdgmhkaaDoorW.PrintMore Go.Shelf
set_option linter.unusedVariables false
set_option linter.unusedSimpArgs false
attribute [local go_sem] Oper.semAt_some
/-- what a round keeps: all that lay there when the function began, and the iterator's own box -/
def KpB (n₀ Bs : Nat) (W W' : World) : Prop := Below n₀ W W' ∧ W'.heap[Bs]? = W.heap[Bs]?
theorem KpB.t {n₀ Bs : Nat} {A B C : World} (h : KpB n₀ Bs A B) (k : KpB n₀ Bs B C) : KpB n₀ Bs A C := ⟨h.1.trans k.1, k.2.trans h.2⟩
theorem KpB.b {n₀ Bs : Nat} {w : World} (hn : n₀ ≤ w.heap.size) (hB : Bs < w.heap.size) (W : World) (l : Nat) (o o' : Obj) (hl : w.heap.size ≤ l) (ho : W.heap[l]? = some o) (hc : o.isCells = false) (hw : o.isWalk = false) : KpB n₀ Bs W (W.putObj l o') :=
  ⟨belowK_b (w := w) hn W l o o' hl ho hc hw, World.putObj_heap_other (by omega)⟩
theorem KpB.refl (n₀ Bs : Nat) (W : World) : KpB n₀ Bs W W := ⟨Below.refl _ _, rfl⟩
theorem KpB.of_below {n₀ Bs : Nat} {W W' : World} (h : Below W.heap.size W W') (hn : n₀ ≤ W.heap.size) (hB : Bs < W.heap.size) : KpB n₀ Bs W W' := ⟨h.mono hn, h.block _ hB⟩
theorem blk1_cell {w : World} {g : Nat} {v : Value} {t : TypeId} (h : w.heap[g]? = some (.cells #[v] t (0, 0))) : w.cell? ⟨g, 0, none⟩ = some v := by rw [blk_cell h]; rfl
theorem itemsF_step {k : Nat} {l : List Int} {a r n : Int} (h : decR l = some (r, n)) : itemsF (k + 1) l a = (a, r) :: itemsF k (l.drop n.toNat) (a + n) := by
  simp only [itemsF, h]
theorem itemsF_stop {k : Nat} {l : List Int} {a : Int} (h : decR l = none) : itemsF k l a = [] := by
  cases k <;> simp [itemsF, h]
theorem decR_nil : decR [] = none := rfl
set_option maxRecDepth 100000 in
set_option maxHeartbeats 4000000 in
theorem all1_in (n : Nat) (hn : 1 ≤ n) (l Bs b off c : Nat) (bs : List Int) (hcap : bs.length ≤ c) (hsz : bs.length ≤ 8000) (hb : Bytes bs) (w₀ : World) (hC : BC w₀ b off bs) (hG : G0 w₀) (hpos : 0 < bs.length)
    (J Jx : List (Int × Int) → World → Prop)
    (W : World) (hJ : AbidesFrom W.heap.size J)
    (hY : ∀ pre x W, J pre W → pre.length < (items bs).length → YieldAt Fence.wide (n - 1) Tryd.prog l #[.int .i64 x.1, .int .i32 x.2] W fun e W' =>
      (e = .returned (.bool true) ∧ J (pre ++ [x]) W' ∧ KpB w₀.heap.size Bs W W') ∨ (e = .returned (.bool false) ∧ Jx (pre ++ [x]) W'))
    (hW0 : Below w₀.heap.size w₀ W) (hBs : W.heap[Bs]? = some (.cells #[.slice (some ⟨b, off, none⟩) bs.length c] 71 (0, 0))) (h0 : J [] W) :
    CallsIn Fence.wide n Tryd.prog 115 #[.func (.yield l) #[] #[], .pointer (some ⟨Bs, 0, none⟩)] W fun e W' => (∃ v, e = .returned v) ∧
      ((∃ ys, ys = items bs ∧ J ys W') ∨ (∃ pre, pre <+: items bs ∧ Jx pre W')) := by
  refine callsIn_of_wp Tryd.func115 rfl trivial ?_ rfl
  simp only [Tryd.ntmps115, List.size_toArray, List.length_cons, List.length_nil, Nat.reduceAdd, Nat.reduceSub, Array.replicate_succ, Array.replicate_zero, List.push_toArray, List.append_toArray, List.nil_append, List.cons_append]
  gi_wp2
  gi_loopw [3] (fun i wr => ∃ (k fuel : Nat) (pre : List (Int × Int)), i = .int .i64 k ∧ k ≤ bs.length ∧ bs.length ≤ k + fuel ∧ pre ++ itemsF fuel (bs.drop k) k = items bs ∧ J pre wr ∧ KpB w₀.heap.size Bs W wr)
    (fun i _ => bs.length - (intOf i).toNat)
  case atStart => exact ⟨0, bs.length, [], rfl, Nat.zero_le _, by omega, rfl, h0, KpB.refl _ _ _⟩
  case round =>
    obtain ⟨k, fuel, pre, rfl, hk, hfu, hit, hJs, hkp⟩ := hrel
    have hbox := blk1_cell (hkp.2.trans hBs)
    have hWr : Below w₀.heap.size w₀ wr := hW0.trans hkp.1
    have hBlt : Bs < wr.heap.size := (Array.getElem?_eq_some_iff.1 (hkp.2.trans hBs)).1
    have HIT := Aside0.mk hit
    clear hit
    by_cases hlt : k < bs.length
    · have hdec := rdec_in b off c bs.length bs k wr rfl (by omega) (by omega) hcap (hC.below hWr) hb (G0_keep hG hWr)
      rw [Int.toNat_natCast] at hdec
      have hltI : (k : Int) < bs.length := by omega
      cases hd : decR (bs.drop k) with
      | none =>
        have hdec' : Calls Tryd.prog 114 #[.slice (some ⟨b, off, none⟩) bs.length c, .int .i64 k] wr fun e w' => (∃ q : Int, (q != 0) = true ∧ e = .returned (.tuple #[.int .i32 0, .int .i64 0, .int .i64 q])) ∧ Below wr.heap.size wr w' :=
          hdec.mono fun e w' h => by
            unfold DecPost at h
            rw [hd] at h
            obtain ⟨⟨q, hq, he⟩, hb'⟩ := h
            exact ⟨⟨q, by rw [bne_iff_ne]; exact hq, he⟩, hb'⟩
        have hall : items bs = pre := by rw [← HIT.out, itemsF_stop hd, List.append_nil]
        clear hdec
        have HD := Aside0.mk hd
        clear hd
        gi_wp2_with (refine ⟨trivial, ?_⟩; gi_at_call 114; refine (callsIn_wide.2 hdec').mono ?_; rintro e w1 ⟨⟨q, hq, rfl⟩, hb1⟩)
        refine ⟨fun _ h => (by cases h), ?_⟩
        gi_wp2
        refine bodyPost_ret (results_none rfl _ _ _) rfl ?_
        exact ⟨⟨_, rfl⟩, .inl ⟨_, rfl, by rw [hall]; exact hJ pre wr w1 none hJs (grown_of_below hb1 none) (fun r e => by cases e)⟩⟩
      | some x =>
        obtain ⟨r, m⟩ := x
        have hdec' : Calls Tryd.prog 114 #[.slice (some ⟨b, off, none⟩) bs.length c, .int .i64 k] wr fun e w' => e = .returned (.tuple #[.int .i32 r, .int .i64 m, .int .i64 0]) ∧ Below wr.heap.size wr w' :=
          hdec.mono fun e w' h => by
            unfold DecPost at h
            rw [hd] at h
            exact h
        obtain ⟨hm1, hm2⟩ := dec_pos hd
        rw [List.length_drop] at hm2
        obtain ⟨M, rfl⟩ := Int.eq_ofNat_of_zero_le (show 0 ≤ m by omega)
        obtain ⟨fuel, rfl⟩ : ∃ f, fuel = f + 1 := ⟨fuel - 1, by omega⟩
        have hit2 := itemsF_step (k := fuel) (a := k) hd
        have hlen : pre.length < (items bs).length := by rw [← HIT.out, hit2, List.length_append]; simp
        clear hdec
        have HD := Aside0.mk hd
        have HI2 := Aside0.mk hit2
        clear hd hit2
        gi_wp2_with (refine ⟨trivial, ?_⟩; gi_at_call 114; refine (callsIn_wide.2 hdec').mono ?_; rintro e w1 ⟨rfl, hb1⟩; obtain ⟨fn, tmps, assign, body, hy, hR⟩ := hY pre (k, r) w1 (hJ pre wr w1 none hJs (grown_of_below hb1 none) (fun r e => by cases e)) hlen; dsimp only at hy)
        have hk8 : (k : Int) + M ≤ 8000 := by omega
        have hk0 : 0 ≤ (k : Int) + M := by omega
        refine hR.mono ?_
        rintro e W3 (⟨rfl, hJ3, hk3⟩ | ⟨rfl, hJx3⟩)
        · gi_wp2
          go_roundw
          case rel =>
            refine ⟨k + M, fuel, pre ++ [((k : Int), r)], by go_num, by omega, by omega, ?_, hJ3, hkp.t ((KpB.of_below hb1 hWr.size hBlt).t hk3)⟩
            rw [← HIT.out, HI2.out, List.append_assoc, List.drop_drop]
            simp
          case measure => simp [intOf]; omega
        · gi_wp2
          refine bodyPost_ret (results_none rfl _ _ _) rfl ?_
          exact ⟨⟨_, rfl⟩, .inr ⟨_, ⟨itemsF fuel ((bs.drop k).drop M) (k + M), by rw [← HIT.out, HI2.out]; simp⟩, hJx3⟩⟩
    · obtain rfl : k = bs.length := by omega
      have hall : items bs = pre := by rw [← HIT.out, List.drop_length, itemsF_stop decR_nil, List.append_nil]
      gi_wp2
      go_end0
      exact ⟨⟨_, rfl⟩, .inl ⟨_, rfl, by rw [hall]; exact hJs⟩⟩
set_option maxRecDepth 100000 in
set_option maxHeartbeats 1000000 in
theorem all1_nil (n : Nat) (l Bs c : Nat) (A : Option Addr) (J : List (Int × Int) → World → Prop) (W : World) (hBs : W.heap[Bs]? = some (.cells #[.slice A 0 c] 71 (0, 0))) (h0 : J [] W) :
    CallsIn Fence.wide n Tryd.prog 115 #[.func (.yield l) #[] #[], .pointer (some ⟨Bs, 0, none⟩)] W fun e W' => (∃ v, e = .returned v) ∧ J [] W' := by
  refine callsIn_of_wp Tryd.func115 rfl trivial ?_ rfl
  simp only [Tryd.ntmps115, List.size_toArray, List.length_cons, List.length_nil, Nat.reduceAdd, Nat.reduceSub, Array.replicate_succ, Array.replicate_zero, List.push_toArray, List.append_toArray, List.nil_append, List.cons_append]
  have hbox := blk1_cell hBs
  gi_wp2
  gi_loopw [3] (fun i wr => i = .int .i64 0 ∧ J [] wr ∧ wr.cell? ⟨Bs, 0, none⟩ = some (.slice A 0 c)) (fun _ _ => 0)
  case atStart => exact ⟨rfl, h0, hbox⟩
  case round =>
    obtain ⟨rfl, hJs, hbox2⟩ := hrel
    gi_wp2
    go_end0
    exact ⟨⟨_, rfl⟩, hJs⟩
/-- runes.all hands back a function value over a box that holds the bytes -/
theorem all_calls (A : Option Addr) (n c : Nat) (w : World) :
    Calls Tryd.prog 89 #[.slice A n c] w fun e w' => e = .returned (.func (.func 115) #[] #[.pointer (some ⟨w.heap.size, 0, none⟩)]) ∧ w' = w.alloc (.cells #[.slice A n c] 71) := by
  go_enter Tryd.func89, Tryd.ntmps89
  go_wp2
  go_ret
  exact ⟨rfl, rfl⟩
/-- the iterator over any bytes -/
theorem all_stops (n : Nat) (hn : 1 ≤ n) (w₀ w : World) (Bs c : Nat) (A : Option Addr) (bs : List Int) (hr : Kd.C (Kd.int .u8) w₀ A bs.length bs) (hcap : bs.length ≤ c) (hsz : bs.length ≤ 8000) (hb : Bytes bs) (hG : G0 w₀)
    (hw : Below w₀.heap.size w₀ w) (hBs : w.heap[Bs]? = some (.cells #[.slice A bs.length c] 71 (0, 0))) :
    SeqStopsK Fence.wide n Tryd.prog 115 #[.pointer (some ⟨Bs, 0, none⟩)] (fun x : Int × Int => #[Value.int .i64 x.1, Value.int .i32 x.2]) (KpB w₀.heap.size Bs) (fun ys => ys = items bs) (fun pre => pre <+: items bs) (items bs).length w := fun l J Jx W hW hJ hJx hY h0 => by
  have hBW : W.heap[Bs]? = some (.cells #[.slice A bs.length c] 71 (0, 0)) := (hW.block Bs (Array.getElem?_eq_some_iff.1 hBs).1).trans hBs
  by_cases hp : 0 < bs.length
  · obtain ⟨b, off, rfl, hC⟩ := BC.of hr hp
    exact all1_in n hn l Bs b off c bs hcap hsz hb w₀ hC hG hp J Jx W hJ hY (hw.trans (hW.mono hw.size)) hBW h0
  · obtain rfl : bs = [] := List.length_eq_zero_iff.mp (by omega)
    exact (all1_nil n l Bs c A J W hBW h0).mono fun e W' ⟨he, hj⟩ => ⟨he, .inl ⟨_, rfl, hj⟩⟩
end Go.Proofs.YtgmiekggdgmhkaaDoor.Q
end
section
/- data.tree.kids: the iterator over the children of a node, for every loop body that keeps what lay there. -/
namespace Go.Proofs.YtgmiekggdgmhkaaDoor.Q
open Go.RowKit Go.Proofs.YtgmiekggdgmhkaaDoorW.PrintWords Go.Proofs.YtgmiekggdgmhkaaDoorW.PrintLast Go.Proofs.YtgmiekggdgmhkaaDoorW.PrintMore Go.Shelf
set_option linter.unusedVariables false
set_option linter.unusedSimpArgs false
attribute [local go_sem] Oper.semAt_some
/-- what a round keeps: all that lay there when the function began, the iterator's own boxes, and the block of the ends -/
def KpC (n₀ Bi Bx g : Nat) (W W' : World) : Prop := Below n₀ W W' ∧ W'.heap[Bi]? = W.heap[Bi]? ∧ W'.heap[Bx]? = W.heap[Bx]? ∧ W'.heap[g]? = W.heap[g]?
theorem KpC.t {n₀ Bi Bx g : Nat} {A B C : World} (h : KpC n₀ Bi Bx g A B) (k : KpC n₀ Bi Bx g B C) : KpC n₀ Bi Bx g A C := ⟨h.1.trans k.1, k.2.1.trans h.2.1, k.2.2.1.trans h.2.2.1, k.2.2.2.trans h.2.2.2⟩
theorem KpC.b {n₀ Bi Bx g : Nat} {w : World} (hn : n₀ ≤ w.heap.size) (hB : Bi < w.heap.size) (hX : Bx < w.heap.size) (hg : g < w.heap.size) (W : World) (l : Nat) (o o' : Obj) (hl : w.heap.size ≤ l) (ho : W.heap[l]? = some o) (hc : o.isCells = false) (hw : o.isWalk = false) : KpC n₀ Bi Bx g W (W.putObj l o') :=
  ⟨belowK_b (w := w) hn W l o o' hl ho hc hw, World.putObj_heap_other (by omega), World.putObj_heap_other (by omega), World.putObj_heap_other (by omega)⟩
theorem KpC.refl (n₀ Bi Bx g : Nat) (W : World) : KpC n₀ Bi Bx g W W := ⟨Below.refl _ _, rfl, rfl, rfl⟩
theorem cell_of_blk {W W' : World} {a : Addr} (h : W'.heap[a.block]? = W.heap[a.block]?) : W'.cell? a = W.cell? a := by
  unfold World.cell?
  rw [h]
theorem C_of_blk {W W' : World} {ad : Addr} {n : Nat} {es : List Int} (hr : Kd.C (Kd.int .i64) W (some ad) n es) (h : W'.heap[ad.block]? = W.heap[ad.block]?) : Kd.C (Kd.int .i64) W' (some ad) n es := by
  refine ⟨hr.1, hr.2.1, fun hn => ⟨ad, rfl, fun j p hj => ?_⟩⟩
  obtain ⟨ad', e, hc⟩ := hr.2.2 hn
  obtain rfl := Option.some.inj e
  obtain ⟨cs, h1, h2, h3⟩ := hc j p hj
  exact ⟨cs, h1, h2, fun i u hu => by rw [← h3 i u hu]; exact cell_of_blk (by
    have e : (ad.add (j * (Kd.int .i64).sz + i)).block = ad.block := by unfold Addr.add; split <;> rfl
    rw [e]; exact h)⟩
/-- the children from node k on, up to e, with their numbers -/
def kitF : Nat → List Int → Int → Int → Int → List (Int × Int)
  | 0, _, _, _, _ => []
  | f + 1, es, e, n, k => if k < e then (n, k) :: kitF f es e (n + 1) (rd es k) else []
/-- the children of node i, with their numbers -/
def kidsL (es : List Int) (i : Nat) : List (Int × Int) := kitF es.length es (rd es i) 0 (i + 1)
/-- the ends of nodes: each behind its node, none behind the last -/
def GoodEnds (es : List Int) : Prop := ∀ j : Nat, j < es.length → (j : Int) < rd es j ∧ rd es j ≤ es.length
theorem kitF_step {f : Nat} {es : List Int} {e n k : Int} (h : k < e) : kitF (f + 1) es e n k = (n, k) :: kitF f es e (n + 1) (rd es k) := by simp only [kitF]; rw [if_pos h]
theorem kitF_stop {f : Nat} {es : List Int} {e n k : Int} (h : ¬ k < e) : kitF f es e n k = [] := by
  cases f with
  | zero => rfl
  | succ f => simp only [kitF]; rw [if_neg h]
theorem blk2_cell1 {w : World} {g : Nat} {u v : Value} {t : TypeId} (h : w.heap[g]? = some (.cells #[u, v] t (0, 0))) : w.cell? ⟨g, 1, none⟩ = some v := by rw [blk_cell h]; rfl
theorem blk2_cell0 {w : World} {g : Nat} {u v : Value} {t : TypeId} (h : w.heap[g]? = some (.cells #[u, v] t (0, 0))) : w.cell? ⟨g, 0, none⟩ = some u := by rw [blk_cell h]; rfl
set_option maxRecDepth 100000 in
set_option maxHeartbeats 4000000 in
theorem kid1_in (n : Nat) (hn : 1 ≤ n) (l Bi Bx nt ct ce n₀ : Nat) (At : Option Addr) (ad : Addr) (es : List Int) (hcap : es.length ≤ ce) (hsz : es.length ≤ 2000) (hg : GoodEnds es) (w₀ : World) (hr : Kd.C (Kd.int .i64) w₀ (some ad) es.length es) (i : Nat) (hi : i < es.length)
    (J Jx : List (Int × Int) → World → Prop)
    (W : World)
    (hY : ∀ pre x W, J pre W → pre ++ [x] <+: kidsL es i → YieldAt Fence.wide (n - 1) Tryd.prog l #[.int .i64 x.1, .int .i64 x.2] W fun e W' =>
      (e = .returned (.bool true) ∧ J (pre ++ [x]) W' ∧ KpC n₀ Bi Bx ad.block W W') ∨ (e = .returned (.bool false) ∧ Jx (pre ++ [x]) W'))
    (hW0 : W.heap[ad.block]? = w₀.heap[ad.block]?) (hBi : W.heap[Bi]? = some (.cells #[.int .i64 i] 3 (0, 0))) (hBx : W.heap[Bx]? = some (.cells #[.slice At nt ct, .slice (some ad) es.length ce] 78 (0, 0))) (h0 : J [] W) :
    CallsIn Fence.wide n Tryd.prog 103 #[.func (.yield l) #[] #[], .pointer (some ⟨Bi, 0, none⟩), .pointer (some ⟨Bx, 0, none⟩)] W fun e W' => (∃ v, e = .returned v) ∧
      ((∃ ys, ys = kidsL es i ∧ J ys W') ∨ (∃ pre, pre <+: kidsL es i ∧ Jx pre W')) := by
  refine callsIn_of_wp Tryd.func103 rfl trivial ?_ rfl
  simp only [Tryd.ntmps103, List.size_toArray, List.length_cons, List.length_nil, Nat.reduceAdd, Nat.reduceSub, Array.replicate_succ, Array.replicate_zero, List.push_toArray, List.append_toArray, List.nil_append, List.cons_append]
  have hbi := blk1_cell hBi
  have hi2 : (i : Int) + 1 ≤ 2000 := by omega
  gi_wp2
  gi_loopw [4, 5] (fun a b wr => ∃ (nn k fuel : Nat) (pre : List (Int × Int)), a = .int .i64 nn ∧ b = .int .i64 k ∧ k ≤ es.length ∧ es.length ≤ k + fuel ∧ nn ≤ k ∧ Aside0 (pre ++ kitF fuel es (rd es i) nn k = kidsL es i) ∧ J pre wr ∧ Aside0 (KpC n₀ Bi Bx ad.block W wr))
    (fun _ b _ => es.length - (intOf b).toNat)
  case atStart => exact ⟨0, i + 1, es.length, [], rfl, rfl, hi, by omega, Nat.zero_le _, ⟨rfl⟩, h0, ⟨KpC.refl _ _ _ _ _⟩⟩
  case round =>
    obtain ⟨nn, k, fuel, pre, rfl, rfl, hk, hfu, hnk, HIT, hJs, HK⟩ := hrel
    have hbi2 := blk1_cell (HK.out.2.1.trans hBi)
    have hbx2 := blk2_cell1 (HK.out.2.2.1.trans hBx)
    have hWr : wr.heap[ad.block]? = w₀.heap[ad.block]? := HK.out.2.2.2.trans hW0
    have hR0 : ReadsInt wr .i64 (some ad) es.length es := Kd.reads_of_C (C_of_blk hr hWr)
    obtain ⟨ad', had', hcell⟩ := hR0.at_ i (by omega) (by omega)
    obtain rfl := Option.some.inj had'
    rw [Int.toNat_natCast] at hcell
    have hgi := hg i hi
    by_cases hlt : (k : Int) < rd es i
    · have hkl : k < es.length := by omega
      have hgk := hg k hkl
      obtain ⟨ad', had', hcellk⟩ := hR0.at_ k (by omega) (by omega)
      obtain rfl := Option.some.inj had'
      rw [Int.toNat_natCast] at hcellk
      obtain ⟨fuel, rfl⟩ : ∃ f, fuel = f + 1 := ⟨fuel - 1, by omega⟩
      have hst := kitF_step (f := fuel) (es := es) (n := nn) hlt
      have hlen : pre ++ [((nn : Int), (k : Int))] <+: kidsL es i := ⟨kitF fuel es (rd es i) (nn + 1) (rd es k), by rw [← HIT.out, hst]; simp⟩
      obtain ⟨fn, tmps, assign, body, hy, hR⟩ := hY pre (nn, k) wr hJs hlen
      dsimp only at hy
      have HST := Aside0.mk hst
      have HR0 := Aside0.mk hR0
      have HWR := Aside0.mk hWr
      have hd : decide ((k : Int) < rd es i) = true := decide_eq_true hlt
      obtain ⟨k', hk'⟩ : ∃ k' : Nat, rd es k = k' := ⟨(rd es k).toNat, by omega⟩
      have hk1 : k < k' := by omega
      have hk2 : k' ≤ es.length := by omega
      have HKK := Aside0.mk hk'
      clear hst hR0 hlt hgk hk' hgi
      clear hcellk
      gi_wp2
      refine hR.mono ?_
      rintro e W3 (⟨rfl, hJ3, hk3⟩ | ⟨rfl, hJx3⟩)
      · have hbx3 := blk2_cell1 (hk3.2.2.1.trans (HK.out.2.2.1.trans hBx))
        have hR3 : ReadsInt W3 .i64 (some ad) es.length es := Kd.reads_of_C (C_of_blk hr (hk3.2.2.2.trans HWR.out))
        obtain ⟨ad2, had2, hcell3⟩ := hR3.at_ k (by omega) (by omega)
        obtain rfl := Option.some.inj had2
        rw [Int.toNat_natCast, HKK.out] at hcell3
        have HK3 := Aside0.mk hk3
        clear hk3
        gi_wp2
        go_roundw
        case rel =>
          refine ⟨nn + 1, k', fuel, pre ++ [((nn : Int), (k : Int))], by go_num, rfl, hk2, by omega, by omega, ⟨?_⟩, hJ3, ⟨HK.out.t HK3.out⟩⟩
          rw [← HIT.out, HST.out, List.append_assoc, HKK.out]
          simp
        case measure => simp [intOf]; omega
      · gi_wp2
        refine bodyPost_ret (results_none rfl _ _ _) rfl ?_
        exact ⟨⟨_, rfl⟩, .inr ⟨_, ⟨kitF fuel es (rd es i) (nn + 1) (rd es k), by rw [← HIT.out, HST.out]; simp⟩, hJx3⟩⟩
    · have hall : kidsL es i = pre := by rw [← HIT.out, kitF_stop hlt, List.append_nil]
      have hd : decide ((k : Int) < rd es i) = false := decide_eq_false hlt
      have HA := Aside0.mk hall
      clear hall hlt hgi hR0
      gi_wp2
      go_end0
      first
        | exact ⟨⟨_, rfl⟩, .inl ⟨_, rfl, by rw [HA.out]; exact hJs⟩⟩
        | exact ⟨⟨_, rfl⟩, .inl (by rw [HA.out]; exact hJs)⟩
/-- the iterator over the children of any node -/
theorem kids_stops (n : Nat) (hn : 1 ≤ n) (w₀ w : World) (Bi Bx nt ct ce n₀ : Nat) (At : Option Addr) (ad : Addr) (es : List Int) (hr : Kd.C (Kd.int .i64) w₀ (some ad) es.length es) (hcap : es.length ≤ ce) (hsz : es.length ≤ 2000) (hg : GoodEnds es) (i : Nat) (hi : i < es.length)
    (hw : w.heap[ad.block]? = w₀.heap[ad.block]?) (hlt : ad.block < w.heap.size) (hBi : w.heap[Bi]? = some (.cells #[.int .i64 i] 3 (0, 0))) (hBx : w.heap[Bx]? = some (.cells #[.slice At nt ct, .slice (some ad) es.length ce] 78 (0, 0))) :
    SeqStopsK Fence.wide n Tryd.prog 103 #[.pointer (some ⟨Bi, 0, none⟩), .pointer (some ⟨Bx, 0, none⟩)] (fun x : Int × Int => #[Value.int .i64 x.1, Value.int .i64 x.2]) (KpC n₀ Bi Bx ad.block) (fun ys => ys = kidsL es i) (fun pre => pre <+: kidsL es i) (kidsL es i).length w := fun l J Jx W hW hJ hJx hY h0 =>
  kid1_in n hn l Bi Bx nt ct ce n₀ At ad es hcap hsz hg w₀ hr i hi J Jx W (fun pre x W h hp => hY pre x W h (by have := hp.length_le; simp at this; omega)) ((hW.block _ hlt).trans hw) ((hW.block Bi (Array.getElem?_eq_some_iff.1 hBi).1).trans hBi) ((hW.block Bx (Array.getElem?_eq_some_iff.1 hBx).1).trans hBx) h0
/-- a child of node i, with its number -/
def Kidt (es : List Int) (i : Nat) : Type := { x : Int × Int // x ∈ kidsL es i }
/-- the iterator over the children, each known as one -/
theorem kids_stopsM (n : Nat) (hn : 1 ≤ n) (w₀ w : World) (Bi Bx nt ct ce n₀ : Nat) (At : Option Addr) (ad : Addr) (es : List Int) (hr : Kd.C (Kd.int .i64) w₀ (some ad) es.length es) (hcap : es.length ≤ ce) (hsz : es.length ≤ 2000) (hg : GoodEnds es) (i : Nat) (hi : i < es.length)
    (hw : w.heap[ad.block]? = w₀.heap[ad.block]?) (hlt : ad.block < w.heap.size) (hBi : w.heap[Bi]? = some (.cells #[.int .i64 i] 3 (0, 0))) (hBx : w.heap[Bx]? = some (.cells #[.slice At nt ct, .slice (some ad) es.length ce] 78 (0, 0))) :
    SeqStopsK Fence.wide n Tryd.prog 103 #[.pointer (some ⟨Bi, 0, none⟩), .pointer (some ⟨Bx, 0, none⟩)] (fun x : Kidt es i => #[Value.int .i64 x.1.1, Value.int .i64 x.1.2]) (KpC n₀ Bi Bx ad.block) (fun ys => ys.map (·.1) = kidsL es i) (fun pre => pre.map (·.1) <+: kidsL es i) (kidsL es i).length w := fun l J Jx W hW hJ hJx hY h0 => by
  refine (kid1_in n hn l Bi Bx nt ct ce n₀ At ad es hcap hsz hg w₀ hr i hi (fun pre W => ∃ q : List (Kidt es i), q.map (·.1) = pre ∧ J q W) (fun pre W => ∃ q : List (Kidt es i), q.map (·.1) = pre ∧ Jx q W) W ?_
    ((hW.block _ hlt).trans hw) ((hW.block Bi (Array.getElem?_eq_some_iff.1 hBi).1).trans hBi) ((hW.block Bx (Array.getElem?_eq_some_iff.1 hBx).1).trans hBx) ⟨[], rfl, h0⟩).mono ?_
  · rintro pre x W ⟨q, rfl, hq⟩ hp
    have hx : x ∈ kidsL es i := hp.subset (by simp)
    have hl : q.length < (kidsL es i).length := by
      have := hp.length_le
      simp at this; omega
    refine (hY q ⟨x, hx⟩ W hq hl).mono ?_
    rintro e W' (⟨he, h1, h2⟩ | ⟨he, h1⟩)
    · exact .inl ⟨he, ⟨q ++ [⟨x, hx⟩], by rw [List.map_append]; rfl, h1⟩, h2⟩
    · exact .inr ⟨he, q ++ [⟨x, hx⟩], by rw [List.map_append]; rfl, h1⟩
  · rintro e W' ⟨he, (⟨ys, rfl, q, hq, h1⟩ | ⟨pre, hp, q, rfl, h1⟩)⟩
    · exact ⟨he, .inl ⟨q, hq, h1⟩⟩
    · exact ⟨he, .inr ⟨q, hp, h1⟩⟩
/-- the call hands back a function value over two boxes -/
theorem kids_calls (At Ae : Option Addr) (nt ct ne ce : Nat) (i : Int) (w : World) :
    Calls Tryd.prog 71 #[.agg #[.slice At nt ct, .slice Ae ne ce], .int .i64 i] w fun e w' => e = .returned (.func (.func 103) #[] #[.pointer (some ⟨w.heap.size + 1, 0, none⟩), .pointer (some ⟨w.heap.size, 0, none⟩)]) ∧ w' = (w.alloc (.cells #[.slice At nt ct, .slice Ae ne ce] 78)).alloc (.cells #[.int .i64 i] 3) := by
  go_enter Tryd.func71, Tryd.ntmps71
  go_wp2
  go_ret
  exact ⟨rfl, rfl⟩
end Go.Proofs.YtgmiekggdgmhkaaDoor.Q
end
section
/- What a node's children are among; plain laws. -/
namespace Go.Proofs.YtgmiekggdgmhkaaDoor.Q
open Go.RowKit Go.Proofs.YtgmiekggdgmhkaaDoorW.PrintWords
set_option linter.unusedVariables false
set_option linter.unusedSimpArgs false
theorem kitF_mem (es : List Int) (hg : GoodEnds es) (e : Int) (he : e ≤ es.length) : ∀ (f : Nat) (n k : Int) (x : Int × Int), 0 ≤ k → x ∈ kitF f es e n k → k ≤ x.2 ∧ x.2 < es.length
  | 0, _, _, _, _, h => by simp [kitF] at h
  | f + 1, n, k, x, hk, h => by
    unfold kitF at h
    by_cases hlt : k < e
    · rw [if_pos hlt] at h
      rcases List.mem_cons.mp h with rfl | h
      · exact ⟨Int.le_refl _, by dsimp only; omega⟩
      · have hgk := hg k.toNat (by omega)
        rw [Int.toNat_of_nonneg hk] at hgk
        have := kitF_mem es hg e he f (n + 1) (rd es k) x (by omega) h
        omega
    · rw [if_neg hlt] at h; simp at h
theorem kidsL_mem (es : List Int) (hg : GoodEnds es) (i : Nat) (hi : i < es.length) (x : Int × Int) (h : x ∈ kidsL es i) : (i : Int) < x.2 ∧ x.2 < es.length := by
  have := kitF_mem es hg (rd es i) (hg i hi).2 _ _ _ x (by omega) h
  omega
end Go.Proofs.YtgmiekggdgmhkaaDoor.Q
end
