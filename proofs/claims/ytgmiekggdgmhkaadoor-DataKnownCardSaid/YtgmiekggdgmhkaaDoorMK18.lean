import Derived.Test.YtgmiekggdgmhkaaDoorMK10
import Derived.Test.YtgmiekggdgmhkaaDoorMK11
import Derived.Test.YtgmiekggdgmhkaaDoorMK15
import Derived.Test.YtgmiekggdgmhkaaDoorMK16
import Derived.Test.YtgmiekggdgmhkaaDoorMK17
section
/- data.Path of any datum. -/
namespace Go.Proofs.YtgmiekggdgmhkaaDoor.Q
open Go.RowKit Go.Proofs.YtgmiekggdgmhkaaDoorW.PrintWords Go.Proofs.YtgmiekggdgmhkaaDoorW.PrintLast Go.Proofs.YtgmiekggdgmhkaaDoorW.PrintMore Go.Shelf
set_option linter.unusedVariables false
set_option linter.unusedSimpArgs false
attribute [local go_sem] Oper.semAt_some
set_option maxRecDepth 100000 in
set_option maxHeartbeats 2000000 in
theorem above_any (A0 : Option Addr) (n0 c0 c1 : Nat) (ad : Addr) (es : List Int) (i : Nat) (W : World) (hr1 : Kd.C (Kd.int .i64) W (some ad) es.length es) (hi : 0 < i) (hl : i < es.length) (h0 : (i : Int) < rd es 0) (h400 : es.length ≤ 400) :
    Calls Tryd.prog 72 #[.agg #[.slice A0 n0 c0, .slice (some ad) es.length c1], .int .i64 i] W fun e w' => e = .returned (.int .i64 (aboveF es i (i - 1) : Nat)) ∧ Below W.heap.size W w' := by
  have hread : ReadsInt W .i64 (some ad) es.length es := Kd.reads_of_C hr1
  have HRD := Aside0.mk hread
  obtain ⟨q, hq⟩ : ∃ q, aboveF es i (i - 1) = q := ⟨_, rfl⟩
  have HQ := Aside0.mk hq
  rw [hq]
  have H0 := Aside0.mk h0
  have hi1 : (1 : Int) ≤ i := by omega
  have hi4 : (i : Int) ≤ 400 := by omega
  have hu78 := Tryd.underlying78
  clear hr1 hread hq h0
  go_enter Tryd.func72, Tryd.ntmps72
  go_wp2
  have hB : Below W.heap.size W (W.alloc (.cells #[.slice A0 n0 c0, .slice (some ad) es.length c1] 78)) := below_alloc (Below.refl _ _) _
  have hbx : (W.alloc (.cells #[.slice A0 n0 c0, .slice (some ad) es.length c1] 78)).cell? ⟨W.heap.size, 1, none⟩ = some (.slice (some ad) es.length c1) := blk2_cell1 (World.alloc_heap_new W _)
  generalize W.alloc (.cells #[.slice A0 n0 c0, .slice (some ad) es.length c1] 78) = W1 at *
  have HRD1 := Aside0.mk (HRD.out.below hB)
  have HB := Aside0.mk hB
  clear hB
  go_loopw [5] (fun p wr => ∃ k : Nat, p = .int .i64 k ∧ k < i ∧ Aside0 (aboveF es i k = q) ∧ W1 = wr) (fun p _ => (intOf p).toNat)
  case atStart => exact ⟨i - 1, by congr 1; omega, by omega, HQ, rfl⟩
  case round =>
    obtain ⟨k, rfl, hk, HK, rfl⟩ := hrel
    obtain ⟨ad', had, hcell⟩ := HRD1.out.at_ k (by omega) (by omega)
    obtain rfl := Option.some.inj had
    rw [Int.toNat_natCast] at hcell
    by_cases hc : rd es k ≤ i
    · have hk0 : k ≠ 0 := by
        rintro rfl
        exact absurd H0.out (by have : rd es ((0 : Nat) : Int) = rd es 0 := rfl; rw [this] at hc; omega)
      obtain ⟨m, hm⟩ : ∃ m : Nat, k = m + 1 := ⟨k - 1, by omega⟩
      have hst : aboveF es i m = q := by
        have := HK.out
        subst hm
        unfold aboveF at this
        rwa [if_pos hc] at this
      have HST := Aside0.mk hst
      have hd : decide (rd es (k : Int) ≤ i) = true := decide_eq_true hc
      have HM := Aside0.mk hm
      clear hst hc HK hm
      go_wp2
      go_roundw
      case rel => exact ⟨m, by have := HM.out; congr 1; omega, by have := HM.out; omega, HST, trivial⟩
      case measure => have := HM.out; simp [intOf]; omega
    · have hst : k = q := by
        have := HK.out
        cases k with
        | zero => exact this
        | succ k =>
          unfold aboveF at this
          rwa [if_neg hc] at this
      have hd : decide (rd es (k : Int) ≤ i) = false := decide_eq_false hc
      have HST := Aside0.mk hst
      clear hst hc
      go_wp2
      go_ret
      exact ⟨by rw [HST.out]; rfl, HB.out⟩
/-- slices.Reverse of a row of the call's own -/
theorem rev_own (base : Nat) (v : Value) (acc : List Int) (W : World) (hrow : W.ownsRow base 3 1 v acc.length (nums .i64 acc)) (hlen : acc.length ≤ 9223372036854775807) :
    Calls Tryd.prog 74 #[v] W fun e w' => e = .returned (.tuple #[]) ∧ w'.ownsRow base 3 1 v acc.length (nums .i64 acc.reverse) ∧ Below base W w' ∧ w'.heap.size = W.heap.size ∧ (∀ k, some k ≠ v.ownBlock → w'.heap[k]? = W.heap[k]?) := by
  obtain ⟨h1, h2⟩ := hrow
  rcases h2 with ⟨rfl, h0⟩ | ⟨g, cap, cur, rfl, hb, hg, hnc, hcm, hcs, ht⟩
  · have e : acc = [] := List.length_eq_zero_iff.mp h0
    subst e
    exact (Any.slices_Reverse_int_empty Tryd.lays112 none 0 W).mono fun e w' ⟨he, hw⟩ => by
      subst hw
      exact ⟨he, own_nil _ _ _ _, Below.refl _ _, rfl, fun _ _ => rfl⟩
  · rw [Nat.mul_one] at ht hcs
    have hcl : cur.toList.length = cap := by rw [Array.length_toList]; exact hcs
    have hcell : ∀ j, j < acc.length → W.cell? ⟨g, 0 + j, none⟩ = some (.int .i64 (acc.getD j 0)) := fun j hj => by
      rw [blk_cell hg, Nat.zero_add, ← Array.getElem?_toList]
      have e1 : (cur.toList.take acc.length)[j]? = cur.toList[j]? := by rw [List.getElem?_take, if_pos hj]
      rw [← e1, ht]
      simp [nums, List.getD_eq_getElem?_getD, List.getElem?_eq_getElem hj]
    refine (Any.slices_Reverse_int_cells Tryd.lays112 g 0 acc.length cap acc W (Nat.le_refl _) hlen hcell (fun j _ => blk_frozen hg _)).mono ?_
    rintro e w' ⟨he, q, rfl⟩
    rw [List.take_length]
    have hg' : (W.drewN q).heap[g]? = some (.cells cur 3 (0, 0)) := hg
    obtain ⟨cur', hk1, hk2, hk3⟩ := setCells_row (acc.reverse.map (Value.int .i64)) 0 (W.drewN q) cur hg' (by simp; omega)
    obtain ⟨s1, s2, s3, s4⟩ := setCells_same g (acc.reverse.map (Value.int .i64)) 0 (W.drewN q)
    refine ⟨he, ⟨by simp [nums], .inr ⟨g, cap, cur', rfl, hb, hk1, hnc, hcm, by rw [hk2, Nat.mul_one]; exact hcs, ?_⟩⟩, ?_, s4, fun k hk => ?_⟩
    · rw [hk3, Nat.mul_one]
      simp [nums]
    · refine ⟨s1, s2, s3, Nat.le_of_eq s4.symm, fun k hk => ?_⟩
      rw [setCells_far _ _ k (by omega)]; rfl
    · rw [setCells_far _ _ k (by rintro rfl; exact hk rfl)]; rfl
theorem nodeE_ok {t : List S51} {i : Int} (h : nodeE t i = 0) : 0 ≤ i ∧ i < t.length := by
  unfold nodeE at h
  by_cases hh : (chkF t).2 ≠ 0
  · rw [if_pos hh] at h; exact absurd h hh
  · rw [if_neg hh] at h
    by_cases h2 : i < 0 ∨ (t.length : Int) ≤ i
    · rw [if_pos h2] at h; cases h
    · omega
/-- the numbers under which j stands among the children of p -/
def numsOf (l : List (Int × Int)) (j : Nat) : List Int := (l.filter (fun x => x.2 == (j : Int))).map (·.1)
/-- the path, from node i upwards -/
def pathUp (es : List Int) : Nat → Nat → List Int
  | 0, _ => []
  | _ + 1, 0 => []
  | f + 1, i + 1 => numsOf (kidsL es (aboveF es (i + 1) i)) (i + 1) ++ pathUp es f (aboveF es (i + 1) i)
theorem kitF_len : ∀ (f : Nat) (es : List Int) (e n k : Int), (kitF f es e n k).length ≤ f
  | 0, _, _, _, _ => Nat.le_refl _
  | f + 1, es, e, n, k => by
    unfold kitF
    split
    · have := kitF_len f es e (n + 1) (rd es k); simp; omega
    · simp
theorem numsOf_len (l : List (Int × Int)) (j : Nat) : (numsOf l j).length ≤ l.length := by
  unfold numsOf; rw [List.length_map]; exact List.length_filter_le ..
theorem kids_len (es : List Int) (p : Nat) : (kidsL es p).length ≤ es.length := kitF_len _ _ _ _ _
theorem pathUp_len (es : List Int) : ∀ f i, (pathUp es f i).length ≤ f * es.length
  | 0, _ => by simp [pathUp]
  | f + 1, 0 => by simp [pathUp]
  | f + 1, i + 1 => by
    unfold pathUp
    have h1 := pathUp_len es f (aboveF es (i + 1) i)
    have h2 := numsOf_len (kidsL es (aboveF es (i + 1) i)) (i + 1)
    have h3 : (kidsL es (aboveF es (i + 1) i)).length ≤ es.length := kitF_len _ _ _ _ _
    rw [List.length_append, Nat.succ_mul]; omega
theorem numsOf_snoc (l : List (Int × Int)) (x : Int × Int) (j : Nat) : numsOf (l ++ [x]) j = numsOf l j ++ (if x.2 = j then [x.1] else []) := by
  unfold numsOf
  rw [List.filter_append, List.map_append]
  congr 1
  by_cases h : x.2 = (j : Int)
  · rw [if_pos h]; simp [h]
  · rw [if_neg h]; simp [h]
/-- what a round of Path's outer loop finds -/
structure PathRel (es : List Int) (w w1 : World) (A1 : Option Addr) (n1 c1 c2 g i : Nat) (ds : List Deferred) (j : Nat) (acc : List Int) (f : Nat) (wr : World) : Prop where
  hj : j ≤ i
  hf : j < f
  hacc : acc ++ pathUp es f j = pathUp es (i + 1) i
  bi : wr.heap[w.heap.size]? = some (.cells #[.int .i64 j] 3 (0, 0))
  bx : wr.heap[w1.heap.size]? = some (.cells #[.slice A1 n1 c1, .slice (some ⟨g, 0, none⟩) es.length c2] 78 (0, 0))
  bl : ∃ v, Boxed wr (w1.heap.size + 1) 30 v ∧ wr.ownsRow w1.heap.size 3 1 v acc.length (nums .i64 acc)
  bg : wr.heap[g]? = w1.heap[g]?
  below : Below w.heap.size w wr
  marks : Marks w1.heap.size ds wr
  size : w1.heap.size + 2 ≤ wr.heap.size
set_option maxRecDepth 100000 in
set_option maxHeartbeats 2000000 in
theorem path_in (A : Option Addr) (c : Nat) (t : List S51) (i : Nat) (w : World) (hr : Kd.C k51 w A t.length t) (hc : t.length ≤ c) (hG : G0 w) (hR : InR t) (hn : nodeE t i = 0) :
    CallsIn Fence.wide 4 Tryd.prog 37 #[.slice A t.length c, .int .i64 i] w (fun e w' => ∃ v, e = .returned (.tuple #[v, .int .i64 0]) ∧ Kd.R (Kd.int .i64) 3 w' w.heap.size (fun _ => True) v (pathUp (endsAll (kidsOf t)) (i + 1) i).reverse ∧ Below w.heap.size w w') := by
  obtain ⟨i0, hi, hz0, hz1, hz2⟩ := info_parts (show (Tryd.prog.info? 3).map (fun i => (i.zero, i.size, i.bytes)) = some (some (.int .i64 0), 1, 8) by kernel_rfl)
  refine callsIn_of_wp_marks Tryd.func37 rfl trivial ?_ rfl
  simp only [Tryd.ntmps37, List.size_toArray, List.length_cons, List.length_nil, Nat.reduceAdd, Nat.reduceSub, Array.replicate_succ, Array.replicate_zero, List.push_toArray, List.append_toArray, List.nil_append, List.cons_append]
  have hN : ∀ W, Below w.heap.size w W → _ := fun W hb => node_ok2 A c t i W (Kd.C_below hr hb) hc (G0_keep hG hb) hR hn
  have hchk : (chkF t).2 = 0 ∧ i < t.length := by
    unfold nodeE at hn
    by_cases hh : (chkF t).2 ≠ 0
    · rw [if_pos hh] at hn; exact absurd hn hh
    · rw [if_neg hh] at hn
      by_cases h2 : (i : Int) < 0 ∨ (t.length : Int) ≤ i
      · rw [if_pos h2] at hn; cases hn
      · exact ⟨Decidable.not_not.mp hh, by omega⟩
  obtain ⟨hgood, h00⟩ := ends_good t hR hchk.1
  obtain ⟨_, _, _, h400, _⟩ := chkF_ok t hR hchk.1
  have hlen : (endsAll (kidsOf t)).length = t.length := by simp [endsAll, kidsOf]
  generalize hes : endsAll (kidsOf t) = es at *
  have HN := Aside0.mk hN
  have HGD := Aside0.mk hgood
  have H00 := Aside0.mk h00
  have hil : i < es.length := by omega
  have hel : es.length ≤ 400 := by omega
  have HEL := Aside0.mk hlen
  clear hr hG hR hn hN hgood h00 hchk hlen hes h400
  gi_wp2_with (first
    | (refine ⟨trivial, ?_⟩; gi_at_call 63; refine (callsIn_wide.2 (HN.out _ (by repeat (first | exact Below.refl _ _ | apply below_alloc)))).mono ?_; rintro e w1 ⟨A1, c1, g, c2, rfl, _, ⟨hc2, hC2, hg1, hg2, hg3⟩, hb1⟩))
  rw [World.size_alloc] at hg1
  have hB1 : Below w.heap.size w w1 := below_step (below_alloc (Below.refl _ _) _) hb1
  refine wpIn_loop (fun a' wr => ∃ (u9 u10 u11 u21 u22 u23 u24 u25 u26 u27 u28 u29 u30 u31 u32 u33 u34 u35 u36 u37 u38 : Value) (ds : List Deferred) (j : Nat) (acc : List Int) (f : Nat), PathRel es w w1 A1 t.length c1 c2 g i ds j acc f wr ∧
    a' = { tmps := #[.slice A t.length c, .int .i64 i, undef, .pointer (some ⟨w.heap.size, 0, none⟩), .slice none 0 0, .int .i64 0, .pointer (some ⟨w1.heap.size, 0, none⟩), .int .i64 0, .pointer (some ⟨w1.heap.size + 1, 0, none⟩), u9, u10, u11,
      .tuple #[.agg #[.slice A1 t.length c1, .slice (some ⟨g, 0, none⟩) es.length c2], .int .i64 0], .slice A t.length c, .int .i64 i, .tuple #[.agg #[.slice A1 t.length c1, .slice (some ⟨g, 0, none⟩) es.length c2], .int .i64 0],
      .agg #[.slice A1 t.length c1, .slice (some ⟨g, 0, none⟩) es.length c2], .int .i64 0, .int .i64 0, .bool false, undef, u21, u22, u23, u24, u25, u26, u27, u28, u29, u30, u31, u32, u33, u34, u35, u36, u37, u38, undef, undef, undef], defers := ds })
    (fun _ wr => (intOf ((wr.cell? ⟨w.heap.size, 0, none⟩).getD undef)).toNat) ?start ?round
  case start =>
    refine ⟨undef, undef, undef, undef, undef, undef, undef, undef, undef, undef, undef, undef, undef, undef, undef, undef, undef, undef, undef, undef, undef, [], i, [], i + 1, ?_, rfl⟩
    have e1 := World.alloc_heap_new w1 (.cells #[.slice A1 t.length c1, .slice (some ⟨g, 0, none⟩) es.length c2] 78)
    have hz := hB1.size
    refine ⟨Nat.le_refl _, Nat.lt_succ_self _, List.nil_append _, ?_, ?_, ⟨.slice none 0 0, ?_, own_nil _ _ _ _⟩, ?_, below_alloc (below_alloc hB1 _) _, trivial, by simp⟩
    · refine (Below.heap_alloc _ _ _ (by simp; omega)).trans ((Below.heap_alloc _ _ _ (by simp at hb1 hg1; omega)).trans ((hb1.block _ (by simp)).trans (World.alloc_heap_new w _)))
    · exact (Below.heap_alloc _ _ _ (by simp)).trans e1
    · have := Boxed.new (w1.alloc (.cells #[.slice A1 t.length c1, .slice (some ⟨g, 0, none⟩) es.length c2] 78)) 30 (.slice none 0 0)
      rwa [World.size_alloc] at this
    · exact (Below.heap_alloc _ _ _ (by simp; omega)).trans (Below.heap_alloc _ _ _ hg2)
  case round =>
    rintro a' wr ⟨u9, u10, u11, u21, u22, u23, u24, u25, u26, u27, u28, u29, u30, u31, u32, u33, u34, u35, u36, u37, u38, ds, j, acc, f, hrel, rfl⟩
    have hbi := blk1_cell hrel.bi
    by_cases hj0 : j = 0
    · subst hj0
      obtain ⟨hj, hf, hacc, bi, bx, ⟨v, bl, hrow⟩, bg, below, marks, size⟩ := hrel
      obtain ⟨f, rfl⟩ : ∃ m, f = m + 1 := ⟨f - 1, by omega⟩
      rw [show pathUp es (f + 1) 0 = [] from rfl, List.append_nil] at hacc
      have hlen : acc.length ≤ 9223372036854775807 := by
        rw [hacc]
        have := pathUp_len es (i + 1) i
        have h2 : (i + 1) * es.length ≤ 400 * 400 := Nat.mul_le_mul (by omega) hel
        omega
      have hrev := rev_own w1.heap.size v acc wr hrow hlen
      have hblc := bl.cell
      have HREV := Aside0.mk hrev
      have HACC := Aside0.mk hacc
      have HBL := Aside0.mk bl
      have HROW := Aside0.mk hrow
      have HBE := Aside0.mk below
      have HM := Aside0.mk marks
      clear hrev hacc bi bx bl hrow bg below marks hC2 hlen
      gi_wp2_with fail
      refine ⟨trivial, ?_⟩
      refine (callsIn_wide.2 HREV.out).mono ?_
      rintro e w2 ⟨rfl, hrow2, hb2, hs2, hk2⟩
      have hbl2 := Boxed.cell ((hk2 _ (HBL.out.not_row (by decide) HROW.out)).trans HBL.out)
      gi_wp2
      refine leaves_marks ds w2 (HM.out.keep (by omega) fun D hD => ?_) ?_
      · obtain ⟨D', e, _, _, h4⟩ := HM.out.mem _ hD
        cases e
        exact hk2 D (row_ne HROW.out h4 (fun cur e => by cases e))
      · intro w' hb' hk'
        have hz1 := hB1.size
        have hown : w'.ownsRow w1.heap.size 3 1 v acc.length (nums .i64 acc.reverse) := own_move hrow2 (fun k hk => by
          obtain ⟨cells, hc⟩ := own_typed hrow2 k hk
          exact (hk' k _ _ hc).trans hc.symm)
        refine ⟨.tuple #[v, .int .i64 0], by simp [results, Tryd.results37, go_sem], v, rfl, ?_, (HBE.out.trans (hb2.mono hz1)).trans (hb'.mono hz1)⟩
        rw [← HACC.out]
        refine Kd.R_lower (Kd.R_of_own (enc := Value.int .i64) ?_ (fun _ _ => trivial)) hz1
        rw [List.length_reverse]
        exact hown
    · have hjI : decide ((0 : Int) < j) = true := decide_eq_true (by omega)
      have hjN : decide (0 < j) = true := decide_eq_true (by omega)
      have hj1 : 1 ≤ j := by omega
      obtain ⟨hj, hf, hacc, bi, bx, ⟨v, bl, hrow⟩, bg, below, marks, size⟩ := hrel
      have hC : Kd.C (Kd.int .i64) wr (some ⟨g, 0, none⟩) es.length es := C_of_blk hC2 bg
      have hab := above_any A1 t.length c1 c2 ⟨g, 0, none⟩ es j wr hC (by omega) (by omega) (by rw [H00.out]; have := HEL.out; omega) hel
      have hpl := aboveF_le es j (j - 1)
      obtain ⟨p, hp⟩ : ∃ p, aboveF es j (j - 1) = p := ⟨_, rfl⟩
      rw [hp] at hab hpl
      have hbx0 := blk2_cell0 bx
      have hbx1 := blk2_cell1 bx
      have HAB := Aside0.mk hab
      have HP := Aside0.mk hp
      have HACC := Aside0.mk hacc
      have HBI := Aside0.mk bi
      have HBX := Aside0.mk bx
      have HBL := Aside0.mk bl
      have HROW := Aside0.mk hrow
      have HBG := Aside0.mk bg
      have HBE := Aside0.mk below
      have HM := Aside0.mk marks
      have HC := Aside0.mk hC
      have HC2 := Aside0.mk hC2
      clear hab hp hacc bi bx bl hrow bg below marks hC hC2 hj0
      gi_wp2_with (first
        | (refine ⟨trivial, ?_⟩; gi_at_call 72; refine (callsIn_wide.2 HAB.out).mono ?_; rintro e w2 ⟨rfl, hb2⟩; have hbx2 := (hb2.block _ (Array.getElem?_eq_some_iff.1 HBX.out).1).trans HBX.out; have hbx20 := blk2_cell0 hbx2; have hbx21 := blk2_cell1 hbx2; have HBX2 := Aside0.mk hbx2; clear hbx2)
        | (refine ⟨trivial, ?_⟩; gi_at_call 71; refine (callsIn_wide.2 (kids_calls _ _ _ _ _ _ _ _)).mono ?_; rintro e w' ⟨rfl, rfl⟩))
      have e1 := World.alloc_heap_new w2 (.cells #[.slice A1 t.length c1, .slice (some ⟨g, 0, none⟩) es.length c2] 78)
      have e2 := World.alloc_heap_new (w2.alloc (.cells #[.slice A1 t.length c1, .slice (some ⟨g, 0, none⟩) es.length c2] 78)) (.cells #[.int .i64 p] 3)
      rw [World.size_alloc] at e2
      have e3 := (Below.heap_alloc (w2.alloc (.cells #[.slice A1 t.length c1, .slice (some ⟨g, 0, none⟩) es.length c2] 78)) (.cells #[.int .i64 p] 3) w2.heap.size (by simp)).trans e1
      have hB0 : Below wr.heap.size wr ((w2.alloc (.cells #[.slice A1 t.length c1, .slice (some ⟨g, 0, none⟩) es.length c2] 78)).alloc (.cells #[.int .i64 p] 3)) := below_alloc (below_alloc hb2 _) _
      have hs0 : ((w2.alloc (.cells #[.slice A1 t.length c1, .slice (some ⟨g, 0, none⟩) es.length c2] 78)).alloc (.cells #[.int .i64 p] 3)).heap.size = w2.heap.size + 2 := by simp
      have hs2 := hb2.size
      generalize (w2.alloc (.cells #[.slice A1 t.length c1, .slice (some ⟨g, 0, none⟩) es.length c2] 78)).alloc (.cells #[.int .i64 p] 3) = W0 at *
      have hz1 := hB1.size
      have nv : ∀ b, v.ownBlock = some b → w1.heap.size ≤ b ∧ b < wr.heap.size ∧ b ≠ w1.heap.size := fun b hb => ⟨own_base HROW.out b hb, own_lt HROW.out b hb, fun e => row_ne HROW.out HBX.out (fun cur e => by cases e) (by rw [hb, e])⟩
      have NV := Aside0.mk nv
      clear nv
      have bi0 := (hB0.block _ (by omega)).trans HBI.out
      have bx0 := (hB0.block _ (by omega)).trans HBX.out
      have bl0 : Boxed W0 (w1.heap.size + 1) 30 v := (hB0.block _ (by omega)).trans HBL.out
      have bg0 := (hB0.block g (by omega)).trans HBG.out
      have row0 := own_move HROW.out (fun k hk => hB0.block k (NV.out k hk).2.1)
      have BI0 := Aside0.mk bi0
      have BX0 := Aside0.mk bx0
      have BG0 := Aside0.mk bg0
      have E2 := Aside0.mk e2
      have E3 := Aside0.mk e3
      have HB0 := Aside0.mk hB0
      clear bi0 bx0 bg0 e1 e2 e3 hB0
      have hst : BagI w1.heap.size W0 (w1.heap.size + 1) 30 3 v (Value.int .i64) (fun pre => acc ++ numsOf pre j) [] W0 := ⟨v, by
        have := Bag.start bl0 row0
        simpa [numsOf, nums, encs] using this⟩
      have hkl := kids_len es p
      have HKL := Aside0.mk hkl
      clear bl0 row0 hkl
      refine wpIn_rangeFunc_ownG rfl (by omega) (gf := 103) (lb := #[.pointer (some ⟨w2.heap.size + 1, 0, none⟩), .pointer (some ⟨w2.heap.size, 0, none⟩)]) rfl trivial (enters_of Tryd.func103 (by kernel_rfl) rfl)
        (kids_stops _ (by omega) wr W0 (w2.heap.size + 1) w2.heap.size t.length c1 c2 w1.heap.size A1 ⟨g, 0, none⟩ es HC.out hc2 (by omega) HGD.out p (by omega) (by rw [BG0.out, HBG.out]) (show g < W0.heap.size by omega) E2.out E3.out) (fun h k => h.t k) (KpC.b (by omega) (by omega) (by omega) (show g < W0.heap.size by omega)) (Below.refl _ _) (fun _ => rfl)
        (BagI w1.heap.size W0 (w1.heap.size + 1) 30 3 v (Value.int .i64) (fun pre => acc ++ numsOf pre j))
        (fun _ _ _ => False) (BagI.own (Nat.le_refl _) (by omega)) (fun _ _ _ _ _ hs _ _ => hs) hst ?a1 ?assign ?body ?done ?stop
      case assign =>
        intro l x W K hK
        gi_wp2
        exact hK
      case body =>
        rintro l pre ⟨n, k⟩ W ⟨v', hbag⟩ hlt
        have hfi := hbag.far w.heap.size (by omega) (by omega) (fun e => by have := (NV.out _ e.symm).1; omega)
        have hbi2 := blk1_cell (hfi.trans BI0.out)
        have hblc := hbag.box.cell
        have hpl2 : (numsOf pre j).length ≤ pre.length := numsOf_len _ _
        have hsn : acc ++ numsOf (pre ++ [(n, k)]) j = (acc ++ numsOf pre j) ++ (if k = (j : Int) then [n] else []) := by rw [numsOf_snoc, List.append_assoc]
        have hyl : (acc ++ numsOf pre j).length ≤ 200000 := by
          rw [List.length_append]
          have h3 : acc.length ≤ (pathUp es (i + 1) i).length := by rw [← HACC.out, List.length_append]; omega
          have := pathUp_len es (i + 1) i
          have h2 : (i + 1) * es.length ≤ 400 * 400 := Nat.mul_le_mul (by omega) hel
          have := HKL.out
          omega
        dsimp only at hbag
        generalize acc ++ numsOf pre j = ys at hsn hyl hbag
        have HBAG := Aside0.mk hbag
        clear hbag hfi hpl2
        by_cases hk : k = j
        · have hkB : (k == (j : Int)) = true := beq_iff_eq.2 hk
          rw [if_pos hk] at hsn
          have HSN := Aside0.mk hsn
          clear hsn hk
          gi_wp2_with (gi_at_builtin; refine Aside0.out ?_)
          refine Aside0.mk ?_
          refine HBAG.out.append (by decide) (by omega) (by omega) (by omega) rfl (.tmp 34) (.tmp 36) 30 rfl 8 (.int .i64 0) Tryd.underlying30 (by kernel_rfl) rfl (.int .i64 n) rfl rfl rfl (by unfold maxLen; omega) (by omega) ?_
          intro g' cap w3 hv3 hbag3 hk3 hb3 hfar3
          have hv3c := hv3.cell
          have hv3f := hv3.frozen
          have HB3 := Aside0.mk hbag3
          have HF3 := Aside0.mk hfar3
          clear hbag3 hfar3 hv3
          gi_wp2
          have hfr := HF3.out
          refine ⟨hk3.from _, ⟨hb3, hfr _ (by omega) (by omega) (fun e => by have := (NV.out _ e.symm).2.1; omega), hfr _ (by omega) (by omega) (fun e => by have := (NV.out _ e.symm).2.1; omega), hfr _ (by omega) (by omega) (fun e => by have := (NV.out _ e.symm).1; omega)⟩, .slice (some ⟨g', 0, none⟩) (ys.length + 1) cap, ?_⟩
          dsimp only
          rw [HSN.out]
          have := HB3.out
          simpa [nums, encs] using this
        · have hkB : (k == (j : Int)) = false := by simpa using hk
          rw [if_neg hk, List.append_nil] at hsn
          have HSN := Aside0.mk hsn
          clear hsn hk
          gi_wp2
          refine ⟨KeepsFrom.refl _ _, KpC.refl _ _ _ _ _, v', ?_⟩
          dsimp only
          rw [HSN.out]
          exact HBAG.out
      case done =>
        rintro D ys W hD rfl ⟨v', hbag⟩ hK
        have hfi := hbag.far w.heap.size (by omega) (by omega) (fun e => by have := (NV.out _ e.symm).1; omega)
        have bi3 := hfi.trans BI0.out
        have hbi2 := blk1_cell bi3
        have hbi3 := Boxed.frozen (show Boxed W w.heap.size 3 (.int .i64 j) from bi3)
        have HBAG := Aside0.mk hbag
        have HK := Aside0.mk hK
        have BI3 := Aside0.mk bi3
        clear hbag hfi bi3 hK
        gi_wp2
        obtain ⟨f, rfl⟩ : ∃ m, f = m + 1 := ⟨f - 1, by omega⟩
        obtain ⟨j', rfl⟩ : ∃ m, j = m + 1 := ⟨j - 1, by omega⟩
        have hfar : ∀ k, k < W0.heap.size → k ≠ w1.heap.size + 1 → k ≠ w.heap.size → some k ≠ v.ownBlock → (W.setCell ⟨w.heap.size, 0, none⟩ (.int .i64 p)).heap[k]? = W0.heap[k]? := fun k h1 h2 h3 h4 => (Below.heap_setCell W ⟨w.heap.size, 0, none⟩ _ k h3).trans (HBAG.out.far k h1 h2 h4)
        refine ⟨⟨p, acc ++ numsOf (kidsL es p) (j' + 1), f, ?_⟩, by simp [intOf]; omega⟩
        have hsW := HBAG.out.below.size
        refine ⟨by omega, by omega, ?_, Boxed.set _ (show Boxed W w.heap.size 3 (.int .i64 ↑(j' + 1)) from BI3.out), ?_, ⟨v', ?_, ?_⟩, ?_, ?_, ?_, ?_⟩
        · rw [List.append_assoc, ← HACC.out]
          congr 1
          show _ = numsOf (kidsL es (aboveF es (j' + 1) j')) (j' + 1) ++ pathUp es f (aboveF es (j' + 1) j')
          have hp' : aboveF es (j' + 1) j' = p := HP.out
          rw [hp']
        · exact (hfar _ (by omega) (by omega) (by omega) (fun e => (NV.out _ e.symm).2.2 rfl)).trans BX0.out
        · exact (Below.heap_setCell W ⟨w.heap.size, 0, none⟩ _ _ (by simp; omega)).trans HBAG.out.box
        · refine own_move (w := W) HBAG.out.row (fun k hk => Below.heap_setCell W ⟨w.heap.size, 0, none⟩ _ _ ?_)
          have := own_base HBAG.out.row k hk
          simp; omega
        · exact (hfar _ (by omega) (by omega) (by omega) (fun e => by have := (NV.out _ e.symm).1; omega)).trans BG0.out
        · exact ((HBE.out.trans (HB0.out.mono (by omega))).trans (HBAG.out.below.mono (by omega))).setCell (p := ⟨w.heap.size, 0, none⟩) (Nat.le_refl _) _
        · refine HM.out.cons (w := wr) (by omega) (by omega) ((Below.heap_setCell W ⟨w.heap.size, 0, none⟩ _ D (by simp; omega)).trans HK.out) (by simp; omega) (fun k hk => ?_)
          obtain ⟨D2, e, h2, h3, h4⟩ := HM.out.mem _ hk
          cases e
          refine (Below.heap_setCell W ⟨w.heap.size, 0, none⟩ _ k (by simp; omega)).trans (Eq.trans ?_ h4.symm)
          exact HBAG.out.keeps.same k _ (Nat.zero_le _) ((HB0.out.block k h3).trans h4) rfl
        · simp; omega
      case stop =>
        rintro D c pre W _ _ h _
        exact h.elim
set_option maxRecDepth 100000 in
set_option maxHeartbeats 1000000 in
theorem path_bad (A : Option Addr) (c : Nat) (t : List S51) (i : Int) (w : World) (hr : Kd.C k51 w A t.length t) (hc : t.length ≤ c) (hG : G0 w) (hR : InR t) (hn : nodeE t i ≠ 0) :
    Calls Tryd.prog 37 #[.slice A t.length c, .int .i64 i] w fun e w' => e = .returned (.tuple #[.slice none 0 0, .int .i64 (nodeE t i)]) ∧ Below w.heap.size w w' := by
  have hN : ∀ W, Below w.heap.size w W → _ := fun W hb => node_bad A c t i W (Kd.C_below hr hb) hc (G0_keep hG hb) hR
  generalize hq : nodeE t i = q at *
  have hne : (q != 0) = true := by rw [bne_iff_ne]; exact hn
  have HN := Aside0.mk hN
  clear hr hG hR hn hN hq
  go_enter Tryd.func37, Tryd.ntmps37
  go_wp2_with (go_at_call 63; refine (HN.out _ (by repeat (first | exact Below.refl _ _ | apply below_alloc))).mono ?_; rintro e w1 ⟨⟨A1', n1', c1', A2', n2', c2', rfl⟩, hb1⟩)
  go_ret2
  exact ⟨rfl, below_alloc (below_step (below_alloc (Below.refl _ _) _) hb1) _⟩
/-- what Path answers -/
def pathF (t : List S51) (i : Int) : List Int × Int := if nodeE t i ≠ 0 then ([], nodeE t i) else ((pathUp (endsAll (kidsOf t)) (i.toNat + 1) i.toNat).reverse, 0)
def data_Path.f (l0 : List (S51)) (a1 : Int) : Option (List Int × Int) := if inR l0 = true then some (pathF l0 a1) else none
theorem data_Path.calls (A0 : Option Addr) (c0 : Nat) (l0 : List (S51)) (a1 : Int) (r1 : List Int) (r2 : Int) (w : World) (hr0 : Kd.C k51 w A0 l0.length l0) (hc0 : l0.length ≤ c0) (hG : G0 w) (h : data_Path.f l0 a1 = some (r1, r2)) :
    Calls Tryd.prog 37 #[.slice A0 l0.length c0, .int .i64 a1] w fun e w' => ∃ v0_ : Value, e = .returned (.tuple #[v0_, .int .i64 r2]) ∧ Kd.R (Kd.int .i64) 3 w' w.heap.size (fun _ => True) v0_ r1 ∧ Below w.heap.size w w' := by
  unfold data_Path.f at h
  by_cases hin : inR l0 = true
  · rw [if_pos hin] at h
    have hR := (inR_iff l0).mp hin
    have h2 : pathF l0 a1 = (r1, r2) := Option.some.inj h
    unfold pathF at h2
    by_cases e1 : nodeE l0 a1 ≠ 0
    · rw [if_pos e1] at h2
      obtain ⟨rfl, rfl⟩ := Prod.mk.inj h2
      exact (path_bad A0 c0 l0 a1 w hr0 hc0 hG hR e1).mono fun e w' ⟨he, hb⟩ => ⟨_, he, Kd.R_nil _ _ _ _ _, hb⟩
    · rw [if_neg e1] at h2
      have e1' := Decidable.not_not.mp e1
      obtain ⟨rfl, rfl⟩ := Prod.mk.inj h2
      obtain ⟨h0, _⟩ := nodeE_ok e1'
      obtain ⟨i, rfl⟩ := Int.eq_ofNat_of_zero_le h0
      rw [Int.toNat_natCast]
      exact callsIn_wide.1 (path_in A0 c0 l0 i w hr0 hc0 hG hR e1')
  · rw [if_neg hin] at h; cases h
end Go.Proofs.YtgmiekggdgmhkaaDoor.Q
end
section
/- data.At of any datum and path. -/
namespace Go.Proofs.YtgmiekggdgmhkaaDoor.Q
open Go.RowKit Go.Proofs.YtgmiekggdgmhkaaDoorW.PrintWords Go.Proofs.YtgmiekggdgmhkaaDoorW.PrintLast Go.Proofs.YtgmiekggdgmhkaaDoorW.PrintMore Go.Shelf
set_option linter.unusedVariables false
set_option linter.unusedSimpArgs false
attribute [local go_sem] Oper.semAt_some
/-- from node now, on along a path -/
def atGo (es : List Int) : List Int → Nat → Int × Int
  | [], now => (now, 0)
  | v :: vs, now => match (kidsL es now).find? (fun x => x.1 == v) with
    | none => (0, 4)
    | some x => atGo es vs x.2.toNat
theorem find_none_of {l : List (Int × Int)} {v : Int} (h : ∀ x ∈ l, x.1 ≠ v) : l.find? (fun x => x.1 == v) = none := by
  rw [List.find?_eq_none]
  intro x hx
  simpa using h x hx
theorem find_some_of {l pre : List (Int × Int)} {v : Int} {x : Int × Int} (hl : pre ++ [x] <+: l) (h : ∀ y ∈ pre, y.1 ≠ v) (hx : x.1 = v) : l.find? (fun x => x.1 == v) = some x := by
  obtain ⟨r, rfl⟩ := hl
  rw [List.append_assoc, List.find?_append, find_none_of h]
  simp [hx]
def AtI (n₀ : Nat) (W0 : World) (bn : Nat) (v : Int) (pre : List (Int × Int)) (W : World) : Prop := One n₀ W0 bn 3 #[.int .i64 (-1)] W ∧ ∀ x ∈ pre, x.1 ≠ v
def AtX (n₀ : Nat) (W0 : World) (bn : Nat) (v : Int) (c : Code) (pre : List (Int × Int)) (W : World) : Prop :=
  c = .exit 2 ∧ ∃ pre' x, pre = pre' ++ [x] ∧ x.1 = v ∧ (∀ y ∈ pre', y.1 ≠ v) ∧ One n₀ W0 bn 3 #[.int .i64 x.2] W
/-- what a round of At's loop finds -/
structure AtRel (es : List Int) (path : List Int) (w w1 : World) (A1 : Option Addr) (n1 c1 c2 g : Nat) (res : Int × Int) (ds : List Deferred) (k now : Nat) (wr : World) : Prop where
  hk : k ≤ path.length
  hnow : now < es.length
  hres : atGo es (path.drop k) now = res
  bx : wr.heap[w1.heap.size]? = some (.cells #[.slice A1 n1 c1, .slice (some ⟨g, 0, none⟩) es.length c2] 78 (0, 0))
  bg : wr.heap[g]? = w1.heap[g]?
  below : Below w.heap.size w wr
  marks : Marks w1.heap.size ds wr
  size : w1.heap.size + 1 ≤ wr.heap.size
set_option maxRecDepth 100000 in
set_option maxHeartbeats 2000000 in
theorem at_in (A : Option Addr) (c : Nat) (t : List S51) (B : Option Addr) (d : Nat) (path : List Int) (w : World) (hr : Kd.C k51 w A t.length t) (hc : t.length ≤ c) (hp : Kd.C (Kd.int .i64) w B path.length path) (hd : path.length ≤ d) (hG : G0 w) (hR : InR t) (hn : (chkF t).2 = 0) :
    CallsIn Fence.wide 4 Tryd.prog 39 #[.slice A t.length c, .slice B path.length d] w (fun e w' => e = .returned (.tuple #[.int .i64 (atGo (endsAll (kidsOf t)) path 0).1, .int .i64 (atGo (endsAll (kidsOf t)) path 0).2]) ∧ Below w.heap.size w w') := by
  refine callsIn_of_wp_marks Tryd.func39 rfl trivial ?_ rfl
  simp only [Tryd.ntmps39, List.size_toArray, List.length_cons, List.length_nil, Nat.reduceAdd, Nat.reduceSub, Array.replicate_succ, Array.replicate_zero, List.push_toArray, List.append_toArray, List.nil_append, List.cons_append]
  have hN := of_ok2 A c t w hr hc hG hR hn
  obtain ⟨hgood, h00⟩ := ends_good t hR hn
  obtain ⟨_, _, hne, h400, _⟩ := chkF_ok t hR hn
  have hlen : (endsAll (kidsOf t)).length = t.length := by simp [endsAll, kidsOf]
  generalize hes : endsAll (kidsOf t) = es at *
  obtain ⟨res, hres⟩ : ∃ res, atGo es path 0 = res := ⟨_, rfl⟩
  rw [hres]
  have hpm : path.length ≤ 9223372036854775807 := hp.2.1
  have HN := Aside0.mk hN
  have HGD := Aside0.mk hgood
  have hel : es.length ≤ 400 := by omega
  have hep : 0 < es.length := by rw [hlen]; exact List.length_pos_iff.mpr hne
  have HEL := Aside0.mk hlen
  have HP := Aside0.mk hp
  have HRES := Aside0.mk hres
  clear hr hG hR hn hN hgood h00 hlen hes h400 hp hne hres
  gi_wp2_with (first
    | (refine ⟨trivial, ?_⟩; gi_at_call 62; refine (callsIn_wide.2 HN.out).mono ?_; rintro e w1 ⟨A1, c1, g, c2, rfl, _, ⟨hc2, hC2, hg1, hg2, hg3⟩, hb1⟩; have HC2 := Aside0.mk hC2; clear hC2 hg3))
  have hz1 := hb1.size
  refine wpIn_loop (fun a' wr => ∃ (u10 u11 u12 u13 u25 u26 u27 u28 u29 u30 u31 u32 u33 u34 u35 u36 u37 u38 u39 u40 : Value) (ds : List Deferred) (k now : Nat), AtRel es path w w1 A1 t.length c1 c2 g res ds k now wr ∧
    a' = { tmps := #[.slice A t.length c, .slice B path.length d, undef, undef, .int .i64 0, .int .i64 0, .pointer (some ⟨w1.heap.size, 0, none⟩), .int .i64 0, .int .i64 now, undef, u10, u11, u12, u13,
      .tuple #[.agg #[.slice A1 t.length c1, .slice (some ⟨g, 0, none⟩) es.length c2], .int .i64 0], .slice A t.length c,
      .tuple #[.agg #[.slice A1 t.length c1, .slice (some ⟨g, 0, none⟩) es.length c2], .int .i64 0], .agg #[.slice A1 t.length c1, .slice (some ⟨g, 0, none⟩) es.length c2], .int .i64 0, .int .i64 0, .bool false, undef, .slice B path.length d, .int .i64 path.length, .int .i64 k,
      u25, u26, u27, u28, u29, u30, u31, u32, u33, u34, u35, u36, u37, u38, u39, u40, undef], defers := ds })
    (fun a' _ => path.length - (intOf (a'.tmps.getD 24 undef)).toNat) ?start ?round
  case start =>
    refine ⟨undef, undef, undef, undef, undef, undef, undef, undef, undef, undef, undef, undef, undef, undef, undef, undef, undef, undef, undef, undef, [], 0, 0, ?_, rfl⟩
    have e1 := World.alloc_heap_new w1 (.cells #[.slice A1 t.length c1, .slice (some ⟨g, 0, none⟩) es.length c2] 78)
    exact ⟨Nat.zero_le _, hep, HRES.out, e1, Below.heap_alloc _ _ _ hg2, below_alloc hb1 _, trivial, by simp⟩
  case round =>
    rintro a' wr ⟨u10, u11, u12, u13, u25, u26, u27, u28, u29, u30, u31, u32, u33, u34, u35, u36, u37, u38, u39, u40, ds, k, now, hrel, rfl⟩
    obtain ⟨hk, hnow, hres, bx, bg, below, marks, size⟩ := hrel
    have HRES2 := Aside0.mk hres
    have HBX := Aside0.mk bx
    have HBG := Aside0.mk bg
    have HBE := Aside0.mk below
    have HM := Aside0.mk marks
    by_cases hlt : k < path.length
    · have hkB : decide (k < path.length) = true := decide_eq_true hlt
      have hbx0 := blk2_cell0 bx
      have hbx1 := blk2_cell1 bx
      have hread : ReadsInt wr .i64 B path.length path := Kd.reads_of_C (Kd.C_below HP.out below)
      obtain ⟨ad, hBad, hcell⟩ := hread.at_ k (by omega) (by omega)
      rw [Int.toNat_natCast] at hcell
      have hadw := World.block_lt_of_cell? _ _ hcell
      have hvs : rd path k = path[k] := by simp [rd, List.getD_eq_getElem?_getD, hlt]
      rw [hvs] at hcell
      obtain ⟨v, hv⟩ : ∃ v, path[k] = v := ⟨_, rfl⟩
      rw [hv] at hcell
      have hdrop : path.drop k = v :: path.drop (k + 1) := by rw [List.drop_eq_getElem_cons hlt, hv]
      have HDROP := Aside0.mk hdrop
      have hsz2 : w1.heap.size < wr.heap.size := by omega
      have hsz3 : w1.heap.size < wr.heap.size + 1 := by omega
      subst hBad
      clear hres bx bg below marks hread hvs hv hdrop
      gi_wp2_with (first
        | (refine ⟨trivial, ?_⟩; gi_at_call 71; refine (callsIn_wide.2 (kids_calls _ _ _ _ _ _ _ _)).mono ?_; rintro e w' ⟨rfl, rfl⟩))
      obtain ⟨W0, hW0⟩ : ∃ W0, ((((wr.alloc (.cells #[.int .i64 v] 3)).alloc (.cells #[.int .i64 (-1)] 3)).alloc (.cells #[.slice A1 t.length c1, .slice (some ⟨g, 0, none⟩) es.length c2] 78)).alloc (.cells #[.int .i64 now] 3)) = W0 := ⟨_, rfl⟩
      have hs0 : W0.heap.size = wr.heap.size + 4 := by rw [← hW0]; simp
      have hB0 : Below wr.heap.size wr W0 := by rw [← hW0]; exact below_alloc (below_alloc (below_alloc (below_alloc (Below.refl _ _) _) _) _) _
      have e2 : W0.heap[wr.heap.size + 3]? = some (.cells #[.int .i64 now] 3 (0, 0)) := by
        rw [← hW0]
        have := World.alloc_heap_new (((wr.alloc (.cells #[.int .i64 v] 3)).alloc (.cells #[.int .i64 (-1)] 3)).alloc (.cells #[.slice A1 t.length c1, .slice (some ⟨g, 0, none⟩) es.length c2] 78)) (.cells #[.int .i64 now] 3)
        simpa using this
      have e3 : W0.heap[wr.heap.size + 2]? = some (.cells #[.slice A1 t.length c1, .slice (some ⟨g, 0, none⟩) es.length c2] 78 (0, 0)) := by
        rw [← hW0]
        have := World.alloc_heap_new ((wr.alloc (.cells #[.int .i64 v] 3)).alloc (.cells #[.int .i64 (-1)] 3)) (.cells #[.slice A1 t.length c1, .slice (some ⟨g, 0, none⟩) es.length c2] 78)
        refine (Below.heap_alloc _ _ _ (by simp)).trans ?_
        simpa using this
      have ev : W0.heap[wr.heap.size]? = some (.cells #[.int .i64 v] 3 (0, 0)) := by
        rw [← hW0]
        exact (Boxed.new wr 3 (.int .i64 v)).alloc _ |>.alloc _ |>.alloc _
      have en : W0.heap[wr.heap.size + 1]? = some (.cells #[.int .i64 (-1)] 3 (0, 0)) := by
        rw [← hW0]
        have := Boxed.new (wr.alloc (.cells #[.int .i64 v] 3)) 3 (.int .i64 (-1))
        rw [World.size_alloc] at this
        exact (this.alloc _).alloc _
      rw [hW0]
      have bg0 : W0.heap[g]? = w1.heap[g]? := (hB0.block g (by omega)).trans HBG.out
      have bx0 := (hB0.block w1.heap.size (by omega)).trans HBX.out
      have hst : AtI wr.heap.size W0 (wr.heap.size + 1) v [] W0 := ⟨One.start en, fun x hx => by simp at hx⟩
      have BG0 := Aside0.mk bg0
      have BX0 := Aside0.mk bx0
      have E2 := Aside0.mk e2
      have E3 := Aside0.mk e3
      have EV := Aside0.mk ev
      have HB0 := Aside0.mk hB0
      have HS0 := Aside0.mk hs0
      have HADC := Aside0.mk hcell
      clear hW0 bg0 bx0 e2 e3 ev en hB0 hcell
      refine wpIn_rangeFunc_ownG rfl (by omega) (gf := 103) (lb := #[.pointer (some ⟨wr.heap.size + 1 + 1 + 1, 0, none⟩), .pointer (some ⟨wr.heap.size + 1 + 1, 0, none⟩)]) rfl trivial (enters_of Tryd.func103 (by kernel_rfl) rfl)
        (kids_stops _ (by omega) w1 W0 (wr.heap.size + 3) (wr.heap.size + 2) t.length c1 c2 wr.heap.size A1 ⟨g, 0, none⟩ es HC2.out hc2 (by omega) HGD.out now hnow BG0.out (show g < W0.heap.size by omega) E2.out E3.out) (fun h k => h.t k) (KpC.b (by omega) (by omega) (by omega) (show g < W0.heap.size by omega)) (Below.refl _ _) (fun _ => rfl)
        (AtI wr.heap.size W0 (wr.heap.size + 1) v) (AtX wr.heap.size W0 (wr.heap.size + 1) v)
        (OwnFrom.and (One.own (f := fun _ => #[.int .i64 (-1)]) (Nat.le_refl _) (by omega)) (ownFrom_pure _ _))
        (fun c s X Y row h hg hr => ⟨h.1, by
          obtain ⟨pre', x, h1, h2, h3, h4⟩ := h.2
          exact ⟨pre', x, h1, h2, h3, One.own (f := fun _ : Unit => #[.int .i64 x.2]) (Nat.le_refl _) (by omega) () X Y row h4 hg hr⟩⟩) hst ?a1 ?assign ?body ?done ?stop
      case assign =>
        intro l x W K hK
        gi_wp2
        exact hK
      case body =>
        rintro l pre ⟨n, kk⟩ W ⟨hone, hpre⟩ hlen
        have hvc := blk1_cell ((hone.far wr.heap.size (by omega) (by omega)).trans EV.out)
        have hnf := Boxed.frozen hone.box
        have hnc := blk1_cell hone.box
        have HONE := Aside0.mk hone
        have HPRE := Aside0.mk hpre
        clear hone hpre hs0
        by_cases hk : n = v
        · have hkB : (n == v) = true := beq_iff_eq.2 hk
          have HK := Aside0.mk hk
          clear hk
          gi_wp2
          exact ⟨(KeepsOthers.setCell W _ _).from _, rfl, pre, (n, kk), rfl, HK.out, HPRE.out, HONE.out.set (by omega) _⟩
        · have hkB : (n == v) = false := by simpa using hk
          have HK := Aside0.mk hk
          clear hk
          gi_wp2
          refine ⟨KeepsFrom.refl _ _, KpC.refl _ _ _ _ _, HONE.out, fun x hx => ?_⟩
          rcases List.mem_append.mp hx with hx | hx
          · exact HPRE.out x hx
          · obtain rfl := List.mem_singleton.mp hx
            exact HK.out
      case done =>
        rintro D ys W hD rfl ⟨hone, hpre⟩ hK
        have hnc := blk1_cell hone.box
        have HONE := Aside0.mk hone
        have HPRE := Aside0.mk hpre
        have HK := Aside0.mk hK
        clear hone hpre hK hs0
        gi_wp2
        have hs0 := HS0.out
        have hsW := HONE.out.below.size
        refine leaves_marks _ W (HM.out.cons (w := wr) (w' := W) (by omega) (by omega) HK.out (by omega) (fun k hk => ?_)) ?_
        · obtain ⟨D2, e, h2, h3, h4⟩ := HM.out.mem _ hk
          cases e
          exact (HONE.out.far k (by omega) (by omega)).trans (HB0.out.block k h3)
        · intro w' hb' hk'
          have hres := HRES2.out
          rw [HDROP.out] at hres
          simp only [atGo] at hres
          rw [find_none_of HPRE.out] at hres
          refine ⟨.tuple #[.int .i64 0, .int .i64 4], by simp [results, Tryd.results39, go_sem], by rw [← hres], ((HBE.out.trans (HB0.out.mono (by omega))).trans (HONE.out.below.mono (by omega))).trans (hb'.mono (by omega))⟩
      case stop =>
        rintro D c' pre W hD hSp ⟨rfl, pre', x, rfl, hx, hy, hone⟩ hK
        obtain ⟨n, kk⟩ := x
        have hmem := kidsL_mem es HGD.out now hnow (n, kk) (hSp.subset (by simp))
        dsimp only at hmem hx hone
        obtain ⟨m, rfl⟩ := Int.eq_ofNat_of_zero_le (show 0 ≤ kk by omega)
        have hfind := find_some_of hSp hy hx
        have hnc := blk1_cell hone.box
        have hnn : decide ((m : Int) < 0) = false := decide_eq_false (by omega)
        have HONE := Aside0.mk hone
        have HFIND := Aside0.mk hfind
        have HK := Aside0.mk hK
        clear hone hK hs0 hSp hx hy hfind
        gi_wp2
        have hs0 := HS0.out
        have hsW := HONE.out.below.size
        refine ⟨⟨_, _, _, _, _, _, _, _, _, _, _, _, _, _, _, _, _, _, _, _, _, k + 1, m, ⟨by omega, by omega, ?_, ?_, ?_, ?_, ?_, by omega⟩, rfl⟩, by simp [intOf]; omega⟩
        · have hres := HRES2.out
          rw [HDROP.out] at hres
          simp only [atGo] at hres
          rw [HFIND.out] at hres
          exact hres
        · exact (HONE.out.far _ (by omega) (by omega)).trans BX0.out
        · exact (HONE.out.far _ (by omega) (by omega)).trans BG0.out
        · exact (HBE.out.trans (HB0.out.mono (by omega))).trans (HONE.out.below.mono (by omega))
        · refine HM.out.cons (w := wr) (w' := W) (by omega) (by omega) HK.out (by omega) (fun k hk => ?_)
          obtain ⟨D2, e, h2, h3, h4⟩ := HM.out.mem _ hk
          cases e
          exact (HONE.out.far k (by omega) (by omega)).trans (HB0.out.block k h3)
    · obtain rfl : k = path.length := by omega
      rw [List.drop_eq_nil_of_le (Nat.le_refl _)] at hres
      have HR3 := Aside0.mk (show ((now : Int), (0 : Int)) = res from hres)
      clear hres bx bg below marks
      gi_wp2
      refine leaves_marks ds wr HM.out ?_
      intro w' hb' hk'
      refine ⟨.tuple #[.int .i64 now, .int .i64 0], by simp [results, Tryd.results39, go_sem], by rw [← HR3.out], HBE.out.trans (hb'.mono (by omega))⟩
set_option maxRecDepth 100000 in
set_option maxHeartbeats 1000000 in
theorem at_bad (A : Option Addr) (c : Nat) (t : List S51) (B : Option Addr) (n d : Nat) (w : World) (hr : Kd.C k51 w A t.length t) (hc : t.length ≤ c) (hG : G0 w) (hR : InR t) (h : (chkF t).2 ≠ 0) :
    Calls Tryd.prog 39 #[.slice A t.length c, .slice B n d] w fun e w' => e = .returned (.tuple #[.int .i64 0, .int .i64 (chkF t).2]) ∧ Below w.heap.size w w' := by
  have hcl := of_bad A c t w hr hc hG hR h
  have hne : ((chkF t).2 != 0) = true := bne_iff_ne.mpr h
  generalize (chkF t).2 = q at hcl hne
  have HC := Aside0.mk hcl
  clear hcl hr hc hG hR h
  go_enter Tryd.func39, Tryd.ntmps39
  go_wp2_with (go_at_call 62; refine HC.out.mono ?_; rintro e w1 ⟨⟨A1, n1, c1, A2, n2, c2, rfl⟩, hb1⟩)
  go_ret2
  exact ⟨rfl, below_alloc hb1 _⟩
/-- what At answers -/
def atF (t : List S51) (path : List Int) : Int × Int := if (chkF t).2 ≠ 0 then (0, (chkF t).2) else atGo (endsAll (kidsOf t)) path 0
def data_At.f (l0 : List (S51)) (l1 : List Int) : Option (Int × Int) := if inR l0 = true then some (atF l0 l1) else none
theorem data_At.calls (A0 : Option Addr) (c0 : Nat) (l0 : List (S51)) (A1 : Option Addr) (c1 : Nat) (l1 : List Int) (r1 : Int) (r2 : Int) (w : World) (hr0 : Kd.C k51 w A0 l0.length l0) (hc0 : l0.length ≤ c0) (hr1 : Kd.C (Kd.int .i64) w A1 l1.length l1) (hc1 : l1.length ≤ c1) (hG : G0 w) (h : data_At.f l0 l1 = some (r1, r2)) :
    Calls Tryd.prog 39 #[.slice A0 l0.length c0, .slice A1 l1.length c1] w fun e w' => e = .returned (.tuple #[.int .i64 r1, .int .i64 r2]) ∧ Below w.heap.size w w' := by
  unfold data_At.f at h
  by_cases hin : inR l0 = true
  · rw [if_pos hin] at h
    have hR := (inR_iff l0).mp hin
    have h2 : atF l0 l1 = (r1, r2) := Option.some.inj h
    unfold atF at h2
    by_cases e1 : (chkF l0).2 ≠ 0
    · rw [if_pos e1] at h2
      obtain ⟨rfl, rfl⟩ := Prod.mk.inj h2
      exact at_bad A0 c0 l0 A1 _ c1 w hr0 hc0 hG hR e1
    · rw [if_neg e1] at h2
      have := callsIn_wide.1 (at_in A0 c0 l0 A1 c1 l1 w hr0 hc0 hr1 hc1 hG hR (Decidable.not_not.mp e1))
      rw [h2] at this
      exact this
  · rw [if_neg hin] at h; cases h
end Go.Proofs.YtgmiekggdgmhkaaDoor.Q
end
section
/- data.Depth of any datum. -/
namespace Go.Proofs.YtgmiekggdgmhkaaDoor.Q
open Go.RowKit Go.Proofs.YtgmiekggdgmhkaaDoorW.PrintWords Go.Proofs.YtgmiekggdgmhkaaDoorW.PrintLast Go.Proofs.YtgmiekggdgmhkaaDoorW.PrintMore Go.Shelf
set_option linter.unusedVariables false
set_option linter.unusedSimpArgs false
attribute [local go_sem] Oper.semAt_some
/-- the depths, where some children of node i have theirs -/
def depIn (i : Nat) (D : List Int) (pre : List (Int × Int)) : List Int := pre.foldl (fun D x => D.set x.2.toNat (rd D i + 1)) D
/-- the depths, where the children of the first k nodes have theirs -/
def depAt (es : List Int) : Nat → List Int
  | 0 => List.replicate es.length 0
  | k + 1 => depIn k (depAt es k) (kidsL es k)
def DepOk (n : Nat) (D : List Int) : Prop := D.length = n ∧ ∀ j : Nat, j < n → 0 ≤ rd D j ∧ rd D j ≤ j
theorem i64_in' {x : Int} (h0 : -9223372036854775808 ≤ x) (h1 : x ≤ 9223372036854775807) : IntKind.i64.wrap x = x := IntWalk.i64_in _ ⟨h0, h1⟩
theorem rd_set (D : List Int) (a : Nat) (v : Int) (j : Nat) (h : a < D.length) : rd (D.set a v) j = if j = a then v else rd D j := by
  simp only [rd, Int.toNat_natCast, List.getD_eq_getElem?_getD, List.getElem?_set]
  by_cases hj : j = a
  · subst hj; simp [h]
  · rw [if_neg (fun e => hj e.symm), if_neg hj]
theorem DepOk.set {n : Nat} {D : List Int} (h : DepOk n D) {i k : Nat} (hi : i < k) (hk : k < n) : DepOk n (D.set k (rd D i + 1)) := by
  obtain ⟨h1, h2⟩ := h
  refine ⟨by simp [h1], fun j hj => ?_⟩
  rw [rd_set D k _ j (by omega)]
  by_cases e : j = k
  · rw [if_pos e]
    have := h2 i (by omega)
    omega
  · rw [if_neg e]; exact h2 j hj
theorem depIn_ok {n i : Nat} : ∀ (pre : List (Int × Int)) (D : List Int), DepOk n D → (∀ x ∈ pre, (i : Int) < x.2 ∧ x.2 < n) → DepOk n (depIn i D pre)
  | [], D, h, _ => h
  | x :: pre, D, h, hp => by
    have hx := hp x (List.mem_cons_self ..)
    refine depIn_ok pre _ ?_ (fun y hy => hp y (List.mem_cons_of_mem _ hy))
    exact h.set (i := i) (k := x.2.toNat) (by omega) (by omega)
theorem depAt_ok (es : List Int) (hg : GoodEnds es) : ∀ k, k ≤ es.length → DepOk es.length (depAt es k)
  | 0, _ => ⟨by simp [depAt], fun j hj => by
      have : rd (List.replicate es.length (0 : Int)) j = 0 := by simp [rd, List.getD_eq_getElem?_getD, hj]
      show 0 ≤ rd (List.replicate es.length (0 : Int)) j ∧ rd (List.replicate es.length (0 : Int)) j ≤ j
      rw [this]; omega⟩
  | k + 1, hk => depIn_ok _ _ (depAt_ok es hg k (by omega)) (fun x hx => kidsL_mem es hg k (by omega) x hx)
/-- what a round of Depth's loop finds -/
structure DepRel (es : List Int) (w w1 : World) (A1 : Option Addr) (n1 c1 c2 g : Nat) (ds : List Deferred) (k : Nat) (wr : World) : Prop where
  hk : k ≤ es.length
  bx : wr.heap[w1.heap.size]? = some (.cells #[.slice A1 n1 c1, .slice (some ⟨g, 0, none⟩) es.length c2] 78 (0, 0))
  gd : wr.heap[w1.heap.size + 1]? = some (.cells ((depAt es k).map (Value.int .i64)).toArray 3 (0, 0))
  bd : wr.heap[w1.heap.size + 2]? = some (.cells #[.slice (some ⟨w1.heap.size + 1, 0, none⟩) n1 n1] 30 (0, 0))
  bg : wr.heap[g]? = w1.heap[g]?
  below : Below w.heap.size w wr
  marks : Marks w1.heap.size ds wr
  size : w1.heap.size + 3 ≤ wr.heap.size
def DepI (n₀ : Nat) (W0 : World) (gd : Nat) (es : List Int) (i : Nat) (D : List Int) (pre : List (Kidt es i)) (W : World) : Prop :=
  One n₀ W0 gd 3 ((depIn i D (pre.map (·.1))).map (Value.int .i64)).toArray W
set_option maxRecDepth 100000 in
set_option maxHeartbeats 2000000 in
theorem dep_in (A : Option Addr) (c : Nat) (t : List S51) (w : World) (hr : Kd.C k51 w A t.length t) (hc : t.length ≤ c) (hG : G0 w) (hR : InR t) (hn : (chkF t).2 = 0) :
    CallsIn Fence.wide 4 Tryd.prog 35 #[.slice A t.length c] w (fun e w' => e = .returned (.tuple #[.int .i64 (Lib.maxOf (depAt (endsAll (kidsOf t)) t.length)), .int .i64 0]) ∧ Below w.heap.size w w') := by
  refine callsIn_of_wp_marks Tryd.func35 rfl trivial ?_ rfl
  simp only [Tryd.ntmps35, List.size_toArray, List.length_cons, List.length_nil, Nat.reduceAdd, Nat.reduceSub, Array.replicate_succ, Array.replicate_zero, List.push_toArray, List.append_toArray, List.nil_append, List.cons_append]
  have hN := of_ok2 A c t w hr hc hG hR hn
  obtain ⟨hgood, h00⟩ := ends_good t hR hn
  obtain ⟨_, _, hne, h400, _⟩ := chkF_ok t hR hn
  have hlen : (endsAll (kidsOf t)).length = t.length := by simp [endsAll, kidsOf]
  have hok := depAt_ok (endsAll (kidsOf t)) hgood
  generalize hes : endsAll (kidsOf t) = es at *
  have HN := Aside0.mk hN
  have HGD := Aside0.mk hgood
  have hel : es.length ≤ 400 := by omega
  have hep : 0 < es.length := by rw [hlen]; exact List.length_pos_iff.mpr hne
  have HEL := Aside0.mk hlen
  have HOK := Aside0.mk hok
  have hmk := run_make_row' (P := Tryd.prog) 30 3 (.int .i64 0) 8 Tryd.underlying30 (by kernel_rfl) rfl .i64 .i64 t.length (by omega) (by omega)
  clear hr hG hR hn hN hgood h00 hlen hes hne hok
  gi_wp2_with (first
    | (refine ⟨trivial, ?_⟩; gi_at_call 62; refine (callsIn_wide.2 HN.out).mono ?_; rintro e w1 ⟨A1, c1, g, c2, rfl, _, ⟨hc2, hC2, hg1, hg2, hg3⟩, hb1⟩; have HC2 := Aside0.mk hC2; clear hC2 hg3))
  have hz1 := hb1.size
  clear hmk
  refine wpIn_loop (fun a' wr => ∃ (u7 u9 u24 u25 u26 u27 u28 u29 u30 u31 u32 u33 u34 u35 u36 u37 u38 u39 : Value) (ds : List Deferred) (k : Nat), DepRel es w w1 A1 t.length c1 c2 g ds k wr ∧
    a' = { tmps := #[.slice A t.length c, undef, .int .i64 0, .int .i64 0, .pointer (some ⟨w1.heap.size, 0, none⟩), .int .i64 0, .pointer (some ⟨w1.heap.size + 1 + 1, 0, none⟩), u7, undef, u9,
      .tuple #[.agg #[.slice A1 t.length c1, .slice (some ⟨g, 0, none⟩) es.length c2], .int .i64 0], .slice A t.length c,
      .tuple #[.agg #[.slice A1 t.length c1, .slice (some ⟨g, 0, none⟩) es.length c2], .int .i64 0], .agg #[.slice A1 t.length c1, .slice (some ⟨g, 0, none⟩) es.length c2], .int .i64 0, .int .i64 0, .bool false, undef, .slice A t.length c, .int .i64 t.length, .slice (some ⟨w1.heap.size + 1, 0, none⟩) t.length t.length, .slice A t.length c, .int .i64 t.length, .int .i64 k,
      u24, u25, u26, u27, u28, u29, u30, u31, u32, u33, u34, u35, u36, u37, u38, u39, undef, undef], defers := ds })
    (fun a' _ => es.length - (intOf (a'.tmps.getD 23 undef)).toNat) ?start ?round
  case start =>
    refine ⟨undef, undef, undef, undef, undef, undef, undef, undef, undef, undef, undef, undef, undef, undef, undef, undef, undef, undef, [], 0, ?_, rfl⟩
    have e1 := World.alloc_heap_new w1 (.cells #[.slice A1 t.length c1, .slice (some ⟨g, 0, none⟩) es.length c2] 78)
    refine ⟨Nat.zero_le _, ?_, ?_, ?_, ?_, below_alloc (below_alloc (below_alloc hb1 _) _) _, trivial, by simp⟩
    · exact (Below.heap_alloc _ _ _ (by simp; omega)).trans ((Below.heap_alloc _ _ _ (by simp)).trans e1)
    · have := World.alloc_heap_new (w1.alloc (.cells #[.slice A1 t.length c1, .slice (some ⟨g, 0, none⟩) es.length c2] 78)) (.cells (madeCells #[.int .i64 0] t.length) 3)
      rw [World.size_alloc] at this
      refine (Below.heap_alloc _ _ _ (by simp)).trans (this.trans ?_)
      rw [made_int]
      show _ = some (Obj.cells ((List.replicate es.length (0 : Int)).map (Value.int .i64)).toArray 3 (0, 0))
      rw [HEL.out]
    · have := World.alloc_heap_new ((w1.alloc (.cells #[.slice A1 t.length c1, .slice (some ⟨g, 0, none⟩) es.length c2] 78)).alloc (.cells (madeCells #[.int .i64 0] t.length) 3)) (.cells #[.slice (some ⟨w1.heap.size + 1, 0, none⟩) t.length t.length] 30)
      simpa using this
    · exact (Below.heap_alloc _ _ _ (by simp; omega)).trans ((Below.heap_alloc _ _ _ (by simp; omega)).trans (Below.heap_alloc _ _ _ hg2))
  case round =>
    rintro a' wr ⟨u7, u9, u24, u25, u26, u27, u28, u29, u30, u31, u32, u33, u34, u35, u36, u37, u38, u39, ds, k, hrel, rfl⟩
    obtain ⟨hk, bx, gd, bd, bg, below, marks, size⟩ := hrel
    have HBX := Aside0.mk bx
    have HBG := Aside0.mk bg
    have HGDB := Aside0.mk gd
    have HBD := Aside0.mk bd
    have HBE := Aside0.mk below
    have HM := Aside0.mk marks
    have hkt : k ≤ t.length := by rw [← HEL.out]; exact hk
    by_cases hlt : k < es.length
    · have hltt : k < t.length := by rw [← HEL.out]; exact hlt
      have hkB : decide (k < t.length) = true := decide_eq_true hltt
      have hbx0 := blk2_cell0 bx
      have hbx1 := blk2_cell1 bx
      have hsz2 : w1.heap.size < wr.heap.size := by omega
      clear bx gd bd bg below marks
      gi_wp2_with (first
        | (refine ⟨trivial, ?_⟩; gi_at_call 71; refine (callsIn_wide.2 (kids_calls _ _ _ _ _ _ _ _)).mono ?_; rintro e w' ⟨rfl, rfl⟩))
      obtain ⟨W0, hW0⟩ : ∃ W0, (((wr.alloc (.cells #[.int .i64 k] 3)).alloc (.cells #[.slice A1 t.length c1, .slice (some ⟨g, 0, none⟩) es.length c2] 78)).alloc (.cells #[.int .i64 k] 3)) = W0 := ⟨_, rfl⟩
      have hs0 : W0.heap.size = wr.heap.size + 3 := by rw [← hW0]; simp
      have hB0 : Below wr.heap.size wr W0 := by rw [← hW0]; exact below_alloc (below_alloc (below_alloc (Below.refl _ _) _) _) _
      have e2 : W0.heap[wr.heap.size + 2]? = some (.cells #[.int .i64 k] 3 (0, 0)) := by
        rw [← hW0]
        have := World.alloc_heap_new ((wr.alloc (.cells #[.int .i64 k] 3)).alloc (.cells #[.slice A1 t.length c1, .slice (some ⟨g, 0, none⟩) es.length c2] 78)) (.cells #[.int .i64 k] 3)
        simpa using this
      have e3 : W0.heap[wr.heap.size + 1]? = some (.cells #[.slice A1 t.length c1, .slice (some ⟨g, 0, none⟩) es.length c2] 78 (0, 0)) := by
        rw [← hW0]
        have := World.alloc_heap_new (wr.alloc (.cells #[.int .i64 k] 3)) (.cells #[.slice A1 t.length c1, .slice (some ⟨g, 0, none⟩) es.length c2] 78)
        refine (Below.heap_alloc _ _ _ (by simp)).trans ?_
        simpa using this
      have ei : W0.heap[wr.heap.size]? = some (.cells #[.int .i64 k] 3 (0, 0)) := by
        rw [← hW0]
        exact (Boxed.new wr 3 (.int .i64 k)).alloc _ |>.alloc _
      rw [hW0]
      have bg0 : W0.heap[g]? = w1.heap[g]? := (hB0.block g (by omega)).trans HBG.out
      have bx0 := (hB0.block w1.heap.size (by omega)).trans HBX.out
      have bd0 := (hB0.block (w1.heap.size + 2) (by omega)).trans HBD.out
      have gd0 := (hB0.block (w1.heap.size + 1) (by omega)).trans HGDB.out
      have hst : DepI (w1.heap.size + 1) W0 (w1.heap.size + 1) es k (depAt es k) [] W0 := One.start gd0
      have hdk := HOK.out k hk
      have BG0 := Aside0.mk bg0
      have BX0 := Aside0.mk bx0
      have BD0 := Aside0.mk bd0
      have E2 := Aside0.mk e2
      have E3 := Aside0.mk e3
      have EI := Aside0.mk ei
      have HB0 := Aside0.mk hB0
      have HS0 := Aside0.mk hs0
      have HDK := Aside0.mk hdk
      clear hW0 bg0 bx0 bd0 gd0 e2 e3 ei hB0 hdk
      refine wpIn_rangeFunc_ownG rfl (by omega) (gf := 103) (lb := #[.pointer (some ⟨wr.heap.size + 1 + 1, 0, none⟩), .pointer (some ⟨wr.heap.size + 1, 0, none⟩)]) rfl trivial (enters_of Tryd.func103 (by kernel_rfl) rfl)
        (kids_stopsM _ (by omega) w1 W0 (wr.heap.size + 2) (wr.heap.size + 1) t.length c1 c2 (w1.heap.size + 1) A1 ⟨g, 0, none⟩ es HC2.out hc2 (by omega) HGD.out k hlt BG0.out (show g < W0.heap.size by omega) E2.out E3.out) (fun h k => h.t k) (KpC.b (by omega) (by omega) (by omega) (show g < W0.heap.size by omega)) (Below.refl _ _) (fun _ => rfl)
        (DepI (w1.heap.size + 1) W0 (w1.heap.size + 1) es k (depAt es k)) (fun _ _ _ => False)
        (One.own (f := fun pre : List (Kidt es k) => ((depIn k (depAt es k) (pre.map (·.1))).map (Value.int .i64)).toArray) (Nat.le_refl _) (by omega)) (fun _ _ _ _ _ hs _ _ => hs) hst ?a1 ?assign ?body ?done ?stop
      case assign =>
        intro l x W K hK
        gi_wp2
        exact hK
      case body =>
        rintro l pre ⟨⟨n, kk⟩, hmem⟩ W hone hlen
        have hmem2 := kidsL_mem es HGD.out k hlt (n, kk) hmem
        dsimp only at hmem2
        obtain ⟨m, rfl⟩ := Int.eq_ofNat_of_zero_le (show 0 ≤ kk by omega)
        have hpre : ∀ x ∈ pre.map (·.1), (k : Int) < x.2 ∧ x.2 < (es.length : Int) := fun (x : Int × Int) hx => by
          obtain ⟨y, _, rfl⟩ := List.mem_map.mp hx
          exact kidsL_mem es HGD.out k hlt y.1 y.2
        have hD := depIn_ok (pre.map (·.1)) _ HDK.out hpre
        have hone' : One (w1.heap.size + 1) W0 (w1.heap.size + 1) 3 ((depIn k (depAt es k) (pre.map (·.1))).map (Value.int .i64)).toArray W := hone
        have hnx : depIn k (depAt es k) (List.map (fun x : Kidt es k => x.1) (pre ++ [(show Kidt es k from ⟨(n, (m : Int)), hmem⟩)])) = (depIn k (depAt es k) (pre.map (·.1))).set m (rd (depIn k (depAt es k) (pre.map (·.1))) k + 1) := by
          rw [List.map_append]
          unfold depIn
          rw [List.foldl_append]
          rfl
        generalize depIn k (depAt es k) (pre.map (·.1)) = D at hD hone' hnx
        obtain ⟨dk, hdk⟩ : ∃ dk, rd D k = dk := ⟨_, rfl⟩
        have hdb := hD.2 k hlt
        rw [hdk] at hdb hnx
        have hci : W.cell? ⟨w1.heap.size + 1, k, none⟩ = some (.int .i64 dk) := by
          rw [blk_cell hone'.box, ← hdk]
          have : k < D.length := by rw [hD.1]; exact hlt
          simp [rd, List.getD_eq_getElem?_getD, this]
        have hfr : W.frozen? ⟨w1.heap.size + 1, m, none⟩ = false := blk_frozen hone'.box m
        have hbi := blk1_cell ((hone'.far wr.heap.size (by omega) (by omega)).trans EI.out)
        have hbd := blk1_cell ((hone'.far (w1.heap.size + 2) (by omega) (by omega)).trans BD0.out)
        have hcm : ∃ vm, W.cell? ⟨w1.heap.size + 1, m, none⟩ = some vm := by
          rw [blk_cell hone'.box]
          have : m < D.length := by rw [hD.1]; omega
          exact ⟨.int .i64 (D.getD m 0), by simp [List.getD_eq_getElem?_getD, this]⟩
        obtain ⟨vm, hvm⟩ := hcm
        have hmt : (m : Int) < t.length := by rw [← HEL.out]; omega
        have hkt2 : (k : Int) < t.length := by rw [← HEL.out]; omega
        have HONE := Aside0.mk hone'
        have HNX := Aside0.mk hnx
        have HD := Aside0.mk hD
        clear hone' hone hnx hD hs0 hpre hmem2 hdk
        have hw : IntKind.i64.wrap (dk + 1) = dk + 1 := i64_in' (by omega) (by omega)
        have hfin : KeepsFrom W0.heap.size W (W.setCell ⟨w1.heap.size + 1, m, none⟩ (.int .i64 (IntKind.i64.wrap (dk + 1)))).drew ∧ KpC (w1.heap.size + 1) (wr.heap.size + 2) (wr.heap.size + 1) g W (W.setCell ⟨w1.heap.size + 1, m, none⟩ (.int .i64 (IntKind.i64.wrap (dk + 1)))).drew ∧
            DepI (w1.heap.size + 1) W0 (w1.heap.size + 1) es k (depAt es k) (pre ++ [(show Kidt es k from ⟨(n, (m : Int)), hmem⟩)]) (W.setCell ⟨w1.heap.size + 1, m, none⟩ (.int .i64 (IntKind.i64.wrap (dk + 1)))).drew := by
          rw [hw]
          have hk1 : KeepsOthers W (W.setCell ⟨w1.heap.size + 1, m, none⟩ (.int .i64 (dk + 1))).drew := (KeepsOthers.setCell W ⟨w1.heap.size + 1, m, none⟩ _).trans (KeepsOthers.drew _)
          have hb1 : Below (w1.heap.size + 1) W (W.setCell ⟨w1.heap.size + 1, m, none⟩ (.int .i64 (dk + 1))).drew := below_drew ((Below.refl _ W).setCell (p := ⟨w1.heap.size + 1, m, none⟩) (Nat.le_refl _) _)
          have hf1 : ∀ k, k ≠ w1.heap.size + 1 → (W.setCell ⟨w1.heap.size + 1, m, none⟩ (.int .i64 (dk + 1))).drew.heap[k]? = W.heap[k]? := fun k hk => Below.heap_setCell W ⟨w1.heap.size + 1, m, none⟩ _ k hk
          refine ⟨hk1.from _, ⟨hb1, hf1 _ (by omega), hf1 _ (by omega), hf1 _ (by omega)⟩, ?_⟩
          show One _ _ _ _ _ _
          rw [HNX.out]
          refine HONE.out.step (blk_put HONE.out.box m _ ?_) (fun k _ hk => hf1 k hk) (hk1.from _) hb1
          simp [List.map_set]
        have HFIN := Aside0.mk hfin
        have hmx : Tryd.prog.follows .mixedOrders = true := by kernel_rfl
        clear hfin hw hdb
        gi_wp2
        gi_region_with_o (fail)
        all_goals exact HFIN.out
      case done =>
        rintro D ys W hD hys hone hK
        have hone' : One (w1.heap.size + 1) W0 (w1.heap.size + 1) 3 ((depIn k (depAt es k) (ys.map (·.1))).map (Value.int .i64)).toArray W := hone
        rw [hys] at hone'
        have HONE := Aside0.mk hone'
        have HK := Aside0.mk hK
        clear hone' hone hK hs0 hys
        gi_wp2
        have hs0 := HS0.out
        have hsW := HONE.out.below.size
        refine ⟨⟨_, _, _, _, _, _, _, _, _, _, _, _, _, _, _, _, _, _, _, k + 1, ⟨hlt, ?_, HONE.out.box, ?_, ?_, ?_, ?_, by omega⟩, rfl⟩, by simp [intOf]; omega⟩
        · exact (HONE.out.far _ (by omega) (by omega)).trans BX0.out
        · exact (HONE.out.far _ (by omega) (by omega)).trans BD0.out
        · exact (HONE.out.far _ (by omega) (by omega)).trans BG0.out
        · exact (HBE.out.trans (HB0.out.mono (by omega))).trans (HONE.out.below.mono (by omega))
        · refine HM.out.cons (w := wr) (w' := W) (by omega) (by omega) HK.out (by omega) (fun k hk => ?_)
          obtain ⟨D2, e, h2, h3, h4⟩ := HM.out.mem _ hk
          cases e
          exact (HONE.out.keeps.same k _ (Nat.zero_le _) ((HB0.out.block k h3).trans h4) rfl).trans h4.symm
      case stop =>
        rintro D c pre W _ _ h _
        exact h.elim
    · obtain rfl : k = es.length := by omega
      have hkB : decide (es.length < t.length) = false := by rw [HEL.out]; exact decide_eq_false (by omega)
      have hbd := blk1_cell bd
      clear bx gd bd bg below marks
      have hmxc := Any.slices_Max_int Tryd.lays113 (w1.heap.size + 1) 0 t.length t.length (depAt es es.length) wr (by rw [← HEL.out]; exact hep) (by rw [(HOK.out _ (Nat.le_refl _)).1, HEL.out]; exact Nat.le_refl _) (by rw [← HEL.out]; omega) (fun j hj => by
        rw [Nat.zero_add, blk_cell HGDB.out]
        simp [List.getD_eq_getElem?_getD, hj])
      rw [List.take_of_length_le (by rw [(HOK.out _ (Nat.le_refl _)).1, HEL.out]; exact Nat.le_refl _)] at hmxc
      have HMX := Aside0.mk hmxc
      clear hmxc
      gi_wp2_with fail
      refine ⟨trivial, ?_⟩
      refine (callsIn_wide.2 HMX.out).mono ?_
      rintro e w2 ⟨rfl, rfl⟩
      gi_wp2
      refine leaves_marks ds _ HM.out ?_
      intro w' hb' hk'
      refine ⟨.tuple #[.int .i64 (Lib.maxOf (depAt es es.length)), .int .i64 0], by simp [results, Tryd.results35, go_sem], by rw [HEL.out], HBE.out.trans (hb'.mono (by omega))⟩
set_option maxRecDepth 100000 in
set_option maxHeartbeats 1000000 in
theorem dep_bad (A : Option Addr) (c : Nat) (t : List S51) (w : World) (hr : Kd.C k51 w A t.length t) (hc : t.length ≤ c) (hG : G0 w) (hR : InR t) (h : (chkF t).2 ≠ 0) :
    Calls Tryd.prog 35 #[.slice A t.length c] w fun e w' => e = .returned (.tuple #[.int .i64 0, .int .i64 (chkF t).2]) ∧ Below w.heap.size w w' := by
  have hcl := of_bad A c t w hr hc hG hR h
  have hne : ((chkF t).2 != 0) = true := bne_iff_ne.mpr h
  generalize (chkF t).2 = q at hcl hne
  have HC := Aside0.mk hcl
  clear hcl hr hc hG hR h
  go_enter Tryd.func35, Tryd.ntmps35
  go_wp2_with (go_at_call 62; refine HC.out.mono ?_; rintro e w1 ⟨⟨A1, n1, c1, A2, n2, c2, rfl⟩, hb1⟩)
  go_ret2
  exact ⟨rfl, below_alloc hb1 _⟩
/-- what Depth answers -/
def depF (t : List S51) : Int × Int := if (chkF t).2 ≠ 0 then (0, (chkF t).2) else (Lib.maxOf (depAt (endsAll (kidsOf t)) t.length), 0)
def data_Depth.f (l0 : List (S51)) : Option (Int × Int) := if inR l0 = true then some (depF l0) else none
theorem data_Depth.calls (A0 : Option Addr) (c0 : Nat) (l0 : List (S51)) (r1 : Int) (r2 : Int) (w : World) (hr0 : Kd.C k51 w A0 l0.length l0) (hc0 : l0.length ≤ c0) (hG : G0 w) (h : data_Depth.f l0 = some (r1, r2)) :
    Calls Tryd.prog 35 #[.slice A0 l0.length c0] w fun e w' => e = .returned (.tuple #[.int .i64 r1, .int .i64 r2]) ∧ Below w.heap.size w w' := by
  unfold data_Depth.f at h
  by_cases hin : inR l0 = true
  · rw [if_pos hin] at h
    have hR := (inR_iff l0).mp hin
    have h2 : depF l0 = (r1, r2) := Option.some.inj h
    unfold depF at h2
    by_cases e1 : (chkF l0).2 ≠ 0
    · rw [if_pos e1] at h2
      obtain ⟨rfl, rfl⟩ := Prod.mk.inj h2
      exact dep_bad A0 c0 l0 w hr0 hc0 hG hR e1
    · rw [if_neg e1] at h2
      obtain ⟨rfl, rfl⟩ := Prod.mk.inj h2
      exact callsIn_wide.1 (dep_in A0 c0 l0 w hr0 hc0 hG hR (Decidable.not_not.mp e1))
  · rw [if_neg hin] at h; cases h
end Go.Proofs.YtgmiekggdgmhkaaDoor.Q
end
section
/- data.Kids of any datum. -/
namespace Go.Proofs.YtgmiekggdgmhkaaDoor.Q
open Go.RowKit Go.Proofs.YtgmiekggdgmhkaaDoorW.PrintWords Go.Proofs.YtgmiekggdgmhkaaDoorW.PrintLast Go.Proofs.YtgmiekggdgmhkaaDoorW.PrintMore Go.Shelf
set_option linter.unusedVariables false
set_option linter.unusedSimpArgs false
attribute [local go_sem] Oper.semAt_some
/-- the children of node i -/
def kidsI (es : List Int) (i : Nat) : List Int := (kidsL es i).map (·.2)
set_option maxRecDepth 100000 in
set_option maxHeartbeats 2000000 in
theorem kids_in (A : Option Addr) (c : Nat) (t : List S51) (i : Nat) (w : World) (hr : Kd.C k51 w A t.length t) (hc : t.length ≤ c) (hG : G0 w) (hR : InR t) (hn : nodeE t i = 0) :
    CallsIn Fence.wide 4 Tryd.prog 31 #[.slice A t.length c, .int .i64 i] w (fun e w' => ∃ v, e = .returned (.tuple #[v, .int .i64 0]) ∧ Kd.R (Kd.int .i64) 3 w' w.heap.size (fun _ => True) v (kidsI (endsAll (kidsOf t)) i) ∧ Below w.heap.size w w') := by
  refine callsIn_of_wp_marks Tryd.func31 rfl trivial ?_ rfl
  simp only [Tryd.ntmps31, List.size_toArray, List.length_cons, List.length_nil, Nat.reduceAdd, Nat.reduceSub, Array.replicate_succ, Array.replicate_zero, List.push_toArray, List.append_toArray, List.nil_append, List.cons_append]
  have hN := node_ok2 A c t i w hr hc hG hR hn
  have hnn := nodeE_ok hn
  have hchk : (chkF t).2 = 0 := by
    unfold nodeE at hn
    by_cases hh : (chkF t).2 ≠ 0
    · rw [if_pos hh] at hn; exact absurd hn hh
    · exact Decidable.not_not.mp hh
  obtain ⟨hgood, h00⟩ := ends_good t hR hchk
  obtain ⟨_, _, _, h400, _⟩ := chkF_ok t hR hchk
  have hlen : (endsAll (kidsOf t)).length = t.length := by simp [endsAll, kidsOf]
  generalize hes : endsAll (kidsOf t) = es at *
  have HN := Aside0.mk hN
  have HGD := Aside0.mk hgood
  have hil : i < es.length := by omega
  have hel : es.length ≤ 400 := by omega
  have HEL := Aside0.mk hlen
  clear hr hG hR hn hN hgood h00 hchk hlen hes h400 hnn
  gi_wp2_with (first
    | (refine ⟨trivial, ?_⟩; gi_at_call 63; refine (callsIn_wide.2 HN.out).mono ?_; rintro e w1 ⟨A1, c1, g, c2, rfl, _, ⟨hc2, hC2, hg1, hg2, hg3⟩, hb1⟩; have HC2 := Aside0.mk hC2; clear hC2 hg3)
    | (refine ⟨trivial, ?_⟩; gi_at_call 71; refine (callsIn_wide.2 (kids_calls _ _ _ _ _ _ _ _)).mono ?_; rintro e w' ⟨rfl, rfl⟩))
  have hz1 := hb1.size
  obtain ⟨W0, hW0⟩ : ∃ W0, ((((w1.alloc (.cells #[.slice A1 t.length c1, .slice (some ⟨g, 0, none⟩) es.length c2] 78)).alloc (.cells #[.slice none 0 0] 30)).alloc (.cells #[.slice A1 t.length c1, .slice (some ⟨g, 0, none⟩) es.length c2] 78)).alloc (.cells #[.int .i64 i] 3)) = W0 := ⟨_, rfl⟩
  have hs0 : W0.heap.size = w1.heap.size + 4 := by rw [← hW0]; simp
  have hB0 : Below w1.heap.size w1 W0 := by rw [← hW0]; exact below_alloc (below_alloc (below_alloc (below_alloc (Below.refl _ _) _) _) _) _
  have e2 : W0.heap[w1.heap.size + 3]? = some (.cells #[.int .i64 i] 3 (0, 0)) := by
    rw [← hW0]
    have := World.alloc_heap_new (((w1.alloc (.cells #[.slice A1 t.length c1, .slice (some ⟨g, 0, none⟩) es.length c2] 78)).alloc (.cells #[.slice none 0 0] 30)).alloc (.cells #[.slice A1 t.length c1, .slice (some ⟨g, 0, none⟩) es.length c2] 78)) (.cells #[.int .i64 i] 3)
    simpa using this
  have e3 : W0.heap[w1.heap.size + 2]? = some (.cells #[.slice A1 t.length c1, .slice (some ⟨g, 0, none⟩) es.length c2] 78 (0, 0)) := by
    rw [← hW0]
    have := World.alloc_heap_new ((w1.alloc (.cells #[.slice A1 t.length c1, .slice (some ⟨g, 0, none⟩) es.length c2] 78)).alloc (.cells #[.slice none 0 0] 30)) (.cells #[.slice A1 t.length c1, .slice (some ⟨g, 0, none⟩) es.length c2] 78)
    refine (Below.heap_alloc _ _ _ (by simp)).trans ?_
    simpa using this
  have bl0 : Boxed W0 (w1.heap.size + 1) 30 (.slice none 0 0) := by
    rw [← hW0]
    have := Boxed.new (w1.alloc (.cells #[.slice A1 t.length c1, .slice (some ⟨g, 0, none⟩) es.length c2] 78)) 30 (.slice none 0 0)
    rw [World.size_alloc] at this
    exact (this.alloc _).alloc _
  rw [hW0]
  have bg0 : W0.heap[g]? = w1.heap[g]? := hB0.block g hg2
  have hst : BagI w1.heap.size W0 (w1.heap.size + 1) 30 3 (.slice none 0 0) (Value.int .i64) (fun pre : List (Int × Int) => pre.map (·.2)) [] W0 := ⟨.slice none 0 0, Bag.start bl0 (own_nil _ _ _ _)⟩
  have hkl := kids_len es i
  have HKL := Aside0.mk hkl
  have BG0 := Aside0.mk bg0
  have E2 := Aside0.mk e2
  have E3 := Aside0.mk e3
  have HB0 := Aside0.mk hB0
  have HB1 := Aside0.mk hb1
  have HS0 := Aside0.mk hs0
  clear hW0 bl0 hkl bg0 e2 e3 hB0 hb1
  refine wpIn_rangeFunc_ownG rfl (by omega) (gf := 103) (lb := #[.pointer (some ⟨w1.heap.size + 1 + 1 + 1, 0, none⟩), .pointer (some ⟨w1.heap.size + 1 + 1, 0, none⟩)]) rfl trivial (enters_of Tryd.func103 (by kernel_rfl) rfl)
    (kids_stops _ (by omega) w1 W0 (w1.heap.size + 3) (w1.heap.size + 2) t.length c1 c2 w1.heap.size A1 ⟨g, 0, none⟩ es HC2.out hc2 (by omega) HGD.out i (by omega) BG0.out (show g < W0.heap.size by omega) E2.out E3.out) (fun h k => h.t k) (KpC.b (by omega) (by omega) (by omega) (show g < W0.heap.size by omega)) (Below.refl _ _) (fun _ => rfl)
    (BagI w1.heap.size W0 (w1.heap.size + 1) 30 3 (.slice none 0 0) (Value.int .i64) (fun pre : List (Int × Int) => pre.map (·.2)))
    (fun _ _ _ => False) (BagI.own (Nat.le_refl _) (by omega)) (fun _ _ _ _ _ hs _ _ => hs) hst ?a1 ?assign ?body ?done ?stop
  case assign =>
    intro l x W K hK
    gi_wp2
    exact hK
  case body =>
    rintro l pre ⟨n, k⟩ W ⟨v', hbag⟩ hlt
    have hblc := hbag.box.cell
    have hsn : (pre ++ [(n, k)]).map (·.2) = pre.map (·.2) ++ [k] := by simp
    have hyl : (pre.map (·.2)).length ≤ 2000 := by rw [List.length_map]; have := HKL.out; omega
    dsimp only at hbag
    generalize pre.map (·.2) = ys at hsn hyl hbag
    have HBAG := Aside0.mk hbag
    have HSN := Aside0.mk hsn
    clear hbag hsn hs0
    gi_wp2_with (gi_at_builtin; refine HBAG.out.append (by decide) (by have := HS0.out; omega) (by omega) (by have := HS0.out; omega) rfl (.tmp 25) (.tmp 27) 30 rfl 8 (.int .i64 0) Tryd.underlying30 (by kernel_rfl) rfl (.int .i64 k) rfl rfl rfl (by unfold maxLen; omega) (by omega) ?_; intro g' cap w3 hv3 hbag3 hk3 hb3 hfar3; have hv3c := hv3.cell; have hv3f := hv3.frozen; have HB3 := Aside0.mk hbag3; have HF3 := Aside0.mk hfar3; clear hbag3 hfar3 hv3)
    have hfr := HF3.out
    have hs0 := HS0.out
    refine ⟨hk3.from _, ⟨hb3, hfr _ (by omega) (by omega) (by simp [Value.ownBlock]), hfr _ (by omega) (by omega) (by simp [Value.ownBlock]), hfr _ (by omega) (by omega) (by simp [Value.ownBlock])⟩, .slice (some ⟨g', 0, none⟩) (ys.length + 1) cap, ?_⟩
    dsimp only
    rw [HSN.out]
    have := HB3.out
    simpa [nums, encs] using this
  case done =>
    rintro D ys W hD rfl ⟨v', hbag⟩ hK
    have hblc := hbag.box.cell
    have HBAG := Aside0.mk hbag
    have HK := Aside0.mk hK
    clear hbag hK hs0
    gi_wp2
    refine ⟨by simp, .inl ⟨_, _, rfl, run_takeDeferred HK.out, ?_⟩⟩
    have hs0 := HS0.out
    refine ⟨.tuple #[v', .int .i64 0], by simp [results, Tryd.results31, go_sem], v', rfl, ?_, ?_⟩
    · refine Kd.R_lower (Kd.R_of_own (enc := Value.int .i64) ?_ (fun _ _ => trivial)) hz1
      exact ownsRow_putObj HBAG.out.row _ HK.out rfl
    · refine (HB1.out.trans ((HB0.out.trans HBAG.out.below).mono hz1)).trans (belowK_b (w := w) (Nat.le_refl _) W D _ _ (by omega) HK.out rfl rfl)
  case stop =>
    rintro D c pre W _ _ h _
    exact h.elim
set_option maxRecDepth 100000 in
set_option maxHeartbeats 1000000 in
theorem kids_bad (A : Option Addr) (c : Nat) (t : List S51) (i : Int) (w : World) (hr : Kd.C k51 w A t.length t) (hc : t.length ≤ c) (hG : G0 w) (hR : InR t) (hn : nodeE t i ≠ 0) :
    Calls Tryd.prog 31 #[.slice A t.length c, .int .i64 i] w fun e w' => e = .returned (.tuple #[.slice none 0 0, .int .i64 (nodeE t i)]) ∧ Below w.heap.size w w' := by
  have hN := node_bad A c t i w hr hc hG hR
  generalize hq : nodeE t i = q at *
  have hne : (q != 0) = true := by rw [bne_iff_ne]; exact hn
  have HN := Aside0.mk hN
  clear hr hG hR hn hN hq
  go_enter Tryd.func31, Tryd.ntmps31
  go_wp2_with (go_at_call 63; refine HN.out.mono ?_; rintro e w1 ⟨⟨A1', n1', c1', A2', n2', c2', rfl⟩, hb1⟩)
  go_ret2
  exact ⟨rfl, below_alloc hb1 _⟩
/-- what Kids answers -/
def kidsF (t : List S51) (i : Int) : List Int × Int := if nodeE t i ≠ 0 then ([], nodeE t i) else (kidsI (endsAll (kidsOf t)) i.toNat, 0)
def data_Kids.f (l0 : List (S51)) (a1 : Int) : Option (List Int × Int) := if inR l0 = true then some (kidsF l0 a1) else none
theorem data_Kids.calls (A0 : Option Addr) (c0 : Nat) (l0 : List (S51)) (a1 : Int) (r1 : List Int) (r2 : Int) (w : World) (hr0 : Kd.C k51 w A0 l0.length l0) (hc0 : l0.length ≤ c0) (hG : G0 w) (h : data_Kids.f l0 a1 = some (r1, r2)) :
    Calls Tryd.prog 31 #[.slice A0 l0.length c0, .int .i64 a1] w fun e w' => ∃ v0_ : Value, e = .returned (.tuple #[v0_, .int .i64 r2]) ∧ Kd.R (Kd.int .i64) 3 w' w.heap.size (fun _ => True) v0_ r1 ∧ Below w.heap.size w w' := by
  unfold data_Kids.f at h
  by_cases hin : inR l0 = true
  · rw [if_pos hin] at h
    have hR := (inR_iff l0).mp hin
    have h2 : kidsF l0 a1 = (r1, r2) := Option.some.inj h
    unfold kidsF at h2
    by_cases e1 : nodeE l0 a1 ≠ 0
    · rw [if_pos e1] at h2
      obtain ⟨rfl, rfl⟩ := Prod.mk.inj h2
      exact (kids_bad A0 c0 l0 a1 w hr0 hc0 hG hR e1).mono fun e w' ⟨he, hb⟩ => ⟨_, he, Kd.R_nil _ _ _ _ _, hb⟩
    · rw [if_neg e1] at h2
      have e1' := Decidable.not_not.mp e1
      obtain ⟨rfl, rfl⟩ := Prod.mk.inj h2
      obtain ⟨h0, _⟩ := nodeE_ok e1'
      obtain ⟨i, rfl⟩ := Int.eq_ofNat_of_zero_le h0
      rw [Int.toNat_natCast]
      exact callsIn_wide.1 (kids_in A0 c0 l0 i w hr0 hc0 hG hR e1')
  · rw [if_neg hin] at h; cases h
end Go.Proofs.YtgmiekggdgmhkaaDoor.Q
end
