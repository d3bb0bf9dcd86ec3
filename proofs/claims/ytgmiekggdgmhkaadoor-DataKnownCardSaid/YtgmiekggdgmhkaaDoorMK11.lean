import Derived.Outline
import Derived.Shelf.Small.Utf8
import Derived.Test.YtgmiekggdgmhkaaDoorMK10
section
/- runes.Check and runes.Runes of any bytes. -/
namespace Go.Proofs.YtgmiekggdgmhkaaDoor.Q
open Go.RowKit Go.Proofs.YtgmiekggdgmhkaaDoorW.PrintWords Go.Proofs.YtgmiekggdgmhkaaDoorW.PrintLast Go.Proofs.YtgmiekggdgmhkaaDoorW.PrintMore Go.Shelf
set_option linter.unusedVariables false
set_option linter.unusedSimpArgs false
attribute [local go_sem] Oper.semAt_some
theorem KeepsOthers.below {W W' : World} (h : Below W.heap.size W W') : KeepsOthers W W' := KeepsOthers.of_grownBy (grown_of_below h none) (fun j o e => by cases e)
theorem cell_new_l (W : World) (v : Value) (t : TypeId) : (W.alloc (.cells #[v] t)).cell? ⟨W.heap.size, 0, none⟩ = some v ∧ (W.alloc (.cells #[v] t)).frozen? ⟨W.heap.size, 0, none⟩ = false :=
  ⟨blk1_cell (World.alloc_heap_new W _), blk_frozen (World.alloc_heap_new W _) 0⟩
theorem cell_alloc_l {W : World} {a : Addr} {v : Value} (o : Obj) (h : W.cell? a = some v) : (W.alloc o).cell? a = some v := (World.cell?_alloc_lt W o a (World.block_lt_of_cell? W a h)).trans h
theorem frozen_alloc_l {W : World} {a : Addr} {v : Value} (o : Obj) (h : W.cell? a = some v) (hf : W.frozen? a = false) : (W.alloc o).frozen? a = false := ((Below.refl W.heap.size W).alloc (Nat.le_refl _) o).frozen (World.block_lt_of_cell? W a h) |>.trans hf
theorem blk_new (w : World) (cs : Array Value) (t : TypeId) : (w.alloc (.cells cs t)).heap[w.heap.size]? = some (.cells cs t (0, 0)) := World.alloc_heap_new w _
set_option maxRecDepth 100000 in
set_option maxHeartbeats 4000000 in
theorem rchk_long (A : Option Addr) (c n : Nat) (w : World) (hn : (8000 : Int) < n) :
    Calls Tryd.prog 88 #[.slice A n c] w fun e w' => e = .returned (.tuple #[.int .i64 0, .int .i64 3]) ∧ Below w.heap.size w w' := by
  have d : decide ((8000 : Int) < n) = true := decide_eq_true hn
  have d' : decide (8000 < n) = true := decide_eq_true (by omega)
  go_enter Tryd.func88, Tryd.ntmps88
  go_wp2
  exact bodyPost_ret (v := .tuple #[.int .i64 0, .int .i64 3]) (by simp [results, Tryd.results88, go_sem]) rfl ⟨rfl, (Below.refl _ _).alloc (Nat.le_refl _) _⟩
def atW (ys : List (Int × Int)) : Int := match ys.getLast? with
  | none => 0
  | some (i, r) => wrap64 (i + Lib.runeLen r)
theorem atW_snoc (ys : List (Int × Int)) (x : Int × Int) : atW (ys ++ [x]) = wrap64 (x.1 + Lib.runeLen x.2) := by simp [atW]
theorem atW_items (bs : List Int) (h : bs.length ≤ 8000) : atW (items bs) = vend bs := by
  obtain ⟨h1, h2, _⟩ := vend_stop bs
  unfold vend atW at *
  unfold atOf at *
  split
  · rename_i e; simp [e]
  · rename_i i r e
    simp only [e] at h1 h2 ⊢
    unfold wrap64; omega
/-- what runes.Check says: is the text one of runes? -/
def ChkPost (bs : List Int) (w : World) (e : Ending) (w' : World) : Prop := (∃ a q : Int, e = .returned (.tuple #[.int .i64 a, .int .i64 q]) ∧ (okB bs = true → q = 0) ∧ (okB bs = false → q ≠ 0)) ∧ Below w.heap.size w w'
set_option maxRecDepth 100000 in
set_option maxHeartbeats 4000000 in
theorem rchk_in (A : Option Addr) (c : Nat) (bs : List Int) (w : World) (hr : Kd.C (Kd.int .u8) w A bs.length bs) (hcap : bs.length ≤ c) (hsz : bs.length ≤ 8000) (hb : Bytes bs) (hG : G0 w) :
    CallsIn Fence.wide 4 Tryd.prog 88 #[.slice A bs.length c] w (ChkPost bs w) := by
  refine callsIn_of_wp_marks Tryd.func88 rfl trivial ?_ rfl
  simp only [Tryd.ntmps88, List.size_toArray, List.length_cons, List.length_nil, Nat.reduceAdd, Nat.reduceSub, Array.replicate_succ, Array.replicate_zero, List.push_toArray, List.append_toArray, List.nil_append, List.cons_append]
  have d : decide ((8000 : Int) < bs.length) = false := decide_eq_false (by omega)
  have d' : decide (8000 < bs.length) = false := decide_eq_false (by omega)
  have HR := Aside0.mk hr
  have HBy := Aside0.mk hb
  have HGl := Aside0.mk hG
  clear hr hb hG
  gi_wp2_with (refine ⟨trivial, ?_⟩; gi_at_call 89; refine (callsIn_wide.2 (all_calls A bs.length c _)).mono ?_; rintro e w' ⟨rfl, rfl⟩)
  have hs := cell_new_l w (.int .i64 0) 3
  have hB0 : Below w.heap.size w ((w.alloc (.cells #[.int .i64 0] 3)).alloc (.cells #[.slice A bs.length c] 71)) := ((Below.refl _ w).alloc (Nat.le_refl _) _).alloc (by simp) _
  have hbx : ((w.alloc (.cells #[.int .i64 0] 3)).alloc (.cells #[.slice A bs.length c] 71)).heap[w.heap.size + 1]? = some (.cells #[.slice A bs.length c] 71 (0, 0)) := by
    have := blk_new (w.alloc (.cells #[.int .i64 0] 3)) #[.slice A bs.length c] 71
    rwa [World.size_alloc] at this
  refine wpIn_rangeFunc_ownF rfl (by omega) (gf := 115) (lb := #[.pointer (some ⟨w.heap.size + 1, 0, none⟩)]) rfl trivial (enters_of Tryd.func115 (by kernel_rfl) rfl)
    (all_stops _ (by omega) w _ (w.heap.size + 1) c A bs HR.out hcap hsz HBy.out HGl.out hB0 hbx) (fun h k => h.t k) (KpB.b (by simp; omega) (by simp)) (Below.refl _ _) (fun _ => rfl)
    (fun pre W => (W.cell? ⟨w.heap.size, 0, none⟩ = some (.int .i64 (atW pre)) ∧ W.frozen? ⟨w.heap.size, 0, none⟩ = false) ∧ Below w.heap.size w W)
    (fun _ _ _ => False)
    (OwnFrom.and (Own.from (fun s A B row hs hg hr => ⟨cell_kept hs.1 hg hr, (frozen_kept hs.1 hg hr).trans hs.2⟩) _) (ownFrom_below (Nat.le_refl _) (by simp; omega)))
    (fun _ _ _ _ _ hs _ _ => hs)
    ⟨⟨cell_alloc_l _ hs.1, frozen_alloc_l _ hs.1 hs.2⟩, hB0⟩
    (fun x => { tmps := #[.slice A bs.length c, undef, .pointer (some ⟨w.heap.size, 0, none⟩), .int .i64 0, .int .i64 x.1, .int .i32 x.2, .slice A bs.length c, .int .i64 bs.length, .bool false, .slice A bs.length c, .func (.func 115) #[] #[.pointer (some ⟨w.heap.size + 1, 0, none⟩)], .int .i64 x.1, .int .i32 x.2, undef, undef, undef, undef, undef, undef, undef, undef, undef, undef, undef, undef, undef, undef, undef, undef, undef], defers := [] }) ?assign ?body ?done ?stop
  case assign =>
    intro l x W K hK
    gi_wp2
    exact hK
  case body =>
    rintro l pre ⟨x1, x2⟩ W ⟨⟨hc, hf⟩, hB⟩ _
    dsimp only
    gi_wp2_with (refine ⟨trivial, ?_⟩; gi_at_call 113; refine (CallsIn.inRound l (callsIn_wide.2 (Any.utf8_RuneLen Tryd.lays118 x2 _))).mono ?_; rintro e w' ⟨rfl, rfl⟩)
    exact ⟨KeepsOthers.setCell _ _ _, ⟨(Below.refl w.heap.size _).setCell (p := ⟨w.heap.size, 0, none⟩) (Nat.le_refl _) _, Below.heap_setCell _ ⟨w.heap.size, 0, none⟩ _ _ (by simp)⟩, ⟨by rw [atW_snoc]; exact World.cell?_setCell_same' _ _ _ (by rw [hc]; rfl), by rw [World.frozen?_setCell]; exact hf⟩, hB.setCell (p := ⟨w.heap.size, 0, none⟩) (Nat.le_refl _) _⟩
  case done =>
    rintro D ys W hD rfl ⟨⟨hc, hf⟩, hB⟩ hK
    rw [atW_items bs hsz] at hc
    obtain ⟨v0, v1, v2⟩ := vend_stop bs
    have hok : okB bs = decide (vend bs = bs.length) := by unfold okB; rw [decide_eq_true hsz]; rfl
    by_cases hv : vend bs < bs.length
    · have dv : decide (vend bs < bs.length) = true := decide_eq_true hv
      have hpos : 0 < bs.length := by omega
      have hnot : okB bs = false := by rw [hok]; exact decide_eq_false (by omega)
      obtain ⟨b, off, rfl, hC⟩ := BC.of HR.out hpos
      have hdec := rdec_in b off c bs.length bs (vend bs) W rfl v0 hv hcap (hC.below hB) HBy.out (G0_keep HGl.out hB)
      have hdec' : Calls Tryd.prog 114 #[.slice (some ⟨b, off, none⟩) bs.length c, .int .i64 (vend bs)] W fun e w' => (∃ q : Int, q ≠ 0 ∧ e = .returned (.tuple #[.int .i32 0, .int .i64 0, .int .i64 q])) ∧ Below W.heap.size W w' :=
        hdec.mono fun e w' h => by
          unfold DecPost at h
          rw [v2] at h
          exact h
      clear hdec v2
      have HN := Aside0.mk hnot
      clear hnot hok
      gi_wp2_with (refine ⟨trivial, ?_⟩; gi_at_call 114; refine (callsIn_wide.2 hdec').mono ?_; rintro e w1 ⟨⟨q, hq, rfl⟩, hb1⟩; have hc1 := pw_cell_below hb1 hc; have hf1 := (hb1.frozen (World.block_lt_of_cell? W _ hc)).trans hf; have hK1 := (hb1.block D (Array.getElem?_eq_some_iff.1 hK).1).trans hK)
      have hK2 : (w1.setCell ⟨w.heap.size, 0, none⟩ (.int .i64 (vend bs))).heap[D]? = some (.deferred (some [])) := (KeepsOthers.setCell w1 ⟨w.heap.size, 0, none⟩ _).same D _ hK1 rfl
      refine ⟨by simp, .inl ⟨_, _, rfl, run_takeDeferred hK2, ?_⟩⟩
      have hc2 : (w1.setCell ⟨w.heap.size, 0, none⟩ (.int .i64 (vend bs))).cell? ⟨w.heap.size, 0, none⟩ = some (.int .i64 (vend bs)) := World.cell?_setCell_same' _ _ _ (by rw [hc1]; rfl)
      have hc3 := cell_kept hc2 (grownBy_putObj' _ D (.deferred none)) (fun r e => by cases e; exact ⟨_, hK2, rfl⟩)
      refine ⟨.tuple #[.int .i64 (vend bs), .int .i64 q], by simp [results, Tryd.results88, go_sem, hc3], ⟨_, _, rfl, (fun h => by rw [HN.out] at h; cases h), fun _ => hq⟩, ?_⟩
      have hb2 := (below_then hB hB.size hb1).setCell (p := ⟨w.heap.size, 0, none⟩) (Nat.le_refl _) (.int .i64 (vend bs))
      exact hb2.trans (belowK_b (w := w) (Nat.le_refl _) _ D _ _ (by simp at hD; omega) hK2 rfl rfl)
    · have dv : decide (vend bs < bs.length) = false := decide_eq_false hv
      have hyes : okB bs = true := by rw [hok]; exact decide_eq_true (by omega)
      have HN := Aside0.mk hyes
      clear hyes hok v2
      gi_wp2
      have hK2 : (W.setCell ⟨w.heap.size, 0, none⟩ (.int .i64 (vend bs))).heap[D]? = some (.deferred (some [])) := (KeepsOthers.setCell W ⟨w.heap.size, 0, none⟩ _).same D _ hK rfl
      refine ⟨by simp, .inl ⟨_, _, rfl, run_takeDeferred hK2, ?_⟩⟩
      have hc2 : (W.setCell ⟨w.heap.size, 0, none⟩ (.int .i64 (vend bs))).cell? ⟨w.heap.size, 0, none⟩ = some (.int .i64 (vend bs)) := World.cell?_setCell_same' _ _ _ (by rw [hc]; rfl)
      have hc3 := cell_kept hc2 (grownBy_putObj' _ D (.deferred none)) (fun r e => by cases e; exact ⟨_, hK2, rfl⟩)
      refine ⟨.tuple #[.int .i64 (vend bs), .int .i64 0], by simp [results, Tryd.results88, go_sem, hc3], ⟨_, _, rfl, fun h => rfl, (fun h => by rw [HN.out] at h; cases h)⟩, ?_⟩
      have hb2 := hB.setCell (p := ⟨w.heap.size, 0, none⟩) (Nat.le_refl _) (.int .i64 (vend bs))
      exact hb2.trans (belowK_b (w := w) (Nat.le_refl _) _ D _ _ (by simp at hD; omega) hK2 rfl rfl)
  case stop =>
    rintro D c pre W _ _ h _
    exact h.elim
/-- runes.Check of any bytes -/
theorem rchk_any (A : Option Addr) (c : Nat) (bs : List Int) (w : World) (hr : Kd.C (Kd.int .u8) w A bs.length bs) (hcap : bs.length ≤ c) (hb : Bytes bs) (hG : G0 w) :
    Calls Tryd.prog 88 #[.slice A bs.length c] w (ChkPost bs w) := by
  by_cases hsz : bs.length ≤ 8000
  · exact callsIn_wide.1 (rchk_in A c bs w hr hcap hsz hb hG)
  · refine (rchk_long A c bs.length w (by omega)).mono ?_
    rintro e w' ⟨rfl, hb'⟩
    have : okB bs = false := by unfold okB; rw [decide_eq_false hsz]; rfl
    exact ⟨⟨_, _, rfl, (fun h => by rw [this] at h; cases h), fun _ => by decide⟩, hb'⟩
theorem infoI32 : (Tryd.prog.info? 21).map (fun i => (i.zero, i.size, i.bytes)) = some (some (.int .i32 0), 1, 4) := by kernel_rfl
/-- the runes of some bytes -/
def runesOf (bs : List Int) : List Int := (items bs).map (·.2)
/-- what runes.Runes hands back -/
def RunPost (bs : List Int) (w : World) (e : Ending) (w' : World) : Prop :=
  (okB bs = true → ∃ v, e = .returned (.tuple #[v, .int .i64 0]) ∧ w'.ownsRow w.heap.size 21 1 v (runesOf bs).length (nums .i32 (runesOf bs))) ∧
  (okB bs = false → ∃ q : Int, q ≠ 0 ∧ e = .returned (.tuple #[.slice none 0 0, .int .i64 q])) ∧ Below w.heap.size w w'
set_option maxRecDepth 100000 in
set_option maxHeartbeats 4000000 in
theorem rrun_no (A : Option Addr) (c : Nat) (bs : List Int) (w : World) (hr : Kd.C (Kd.int .u8) w A bs.length bs) (hcap : bs.length ≤ c) (hb : Bytes bs) (hG : G0 w) (hok : okB bs = false) :
    Calls Tryd.prog 53 #[.slice A bs.length c] w (RunPost bs w) := by
  have hchk := rchk_any A c bs w hr hcap hb hG
  have HN := Aside0.mk hok
  clear hr hb hG hok
  go_enter Tryd.func53, Tryd.ntmps53
  go_wp2_with (go_at_call 88; refine hchk.mono ?_; rintro e w1 ⟨⟨a, q, rfl, hq1, hq2⟩, hb1⟩; have hq : (q != 0) = true := (by rw [bne_iff_ne]; exact hq2 HN.out); clear hq1 hq2)
  go_ret2
  exact ⟨(fun h => by rw [HN.out] at h; cases h), fun _ => ⟨q, by rwa [bne_iff_ne] at hq, rfl⟩, hb1⟩
set_option maxRecDepth 100000 in
set_option maxHeartbeats 4000000 in
theorem rrun_yes (A : Option Addr) (c : Nat) (bs : List Int) (w : World) (hr : Kd.C (Kd.int .u8) w A bs.length bs) (hcap : bs.length ≤ c) (hsz : bs.length ≤ 8000) (hb : Bytes bs) (hG : G0 w) (hok : okB bs = true) :
    CallsIn Fence.wide 4 Tryd.prog 53 #[.slice A bs.length c] w (RunPost bs w) := by
  obtain ⟨i0, hi, hz0, hz1, hz2⟩ := info_parts infoI32
  refine callsIn_of_wp_marks Tryd.func53 rfl trivial ?_ rfl
  simp only [Tryd.ntmps53, List.size_toArray, List.length_cons, List.length_nil, Nat.reduceAdd, Nat.reduceSub, Array.replicate_succ, Array.replicate_zero, List.push_toArray, List.append_toArray, List.nil_append, List.cons_append]
  have hchk := rchk_any A c bs w hr hcap hb hG
  have HN := Aside0.mk hok
  have HR := Aside0.mk hr
  have HBy := Aside0.mk hb
  have HGl := Aside0.mk hG
  clear hr hb hG hok
  gi_wp2_with (first
    | (refine ⟨trivial, ?_⟩; gi_at_call 88; refine (callsIn_wide.2 hchk).mono ?_; rintro e w1 ⟨⟨a, q, rfl, hq1, hq2⟩, hb1⟩; obtain rfl := hq1 HN.out; clear hq1 hq2)
    | (refine ⟨trivial, ?_⟩; gi_at_call 89; refine (callsIn_wide.2 (all_calls A bs.length c _)).mono ?_; rintro e w' ⟨rfl, rfl⟩))
  have bO := Boxed.new w1 68 (.slice none 0 0)
  have bN := Boxed.new (w1.alloc (.cells #[.slice none 0 0] 68)) 71 (.slice A bs.length c)
  rw [World.size_alloc] at bN
  have hB0 : Below w.heap.size w ((w1.alloc (.cells #[.slice none 0 0] 68)).alloc (.cells #[.slice A bs.length c] 71)) := (hb1.alloc hb1.size _).alloc (by have := hb1.size; simp; omega) _
  have hsz1 := hb1.size
  refine wpIn_rangeFunc_ownG rfl (by omega) (gf := 115) (lb := #[.pointer (some ⟨w1.heap.size + 1, 0, none⟩)]) rfl trivial (enters_of Tryd.func115 (by kernel_rfl) rfl)
    (all_stops _ (by omega) w _ (w1.heap.size + 1) c A bs HR.out hcap hsz HBy.out HGl.out hB0 bN) (fun h k => h.t k) (KpB.b (by simp; omega) (by simp)) (Below.refl _ _) (fun _ => rfl)
    (fun pre W => (∃ v, Boxed W w1.heap.size 68 v ∧ W.ownsRow w.heap.size 21 1 v (pre.map (·.2)).length (nums .i32 (pre.map (·.2))) ∧ True) ∧ Boxed W (w1.heap.size + 1) 71 (.slice A bs.length c) ∧ Below w.heap.size w W)
    (fun _ _ _ => False)
    (OwnFrom.and (Own.from (holdsRow_own w.heap.size w1.heap.size 68 21 1 (fun pre : List (Int × Int) => (pre.map (·.2)).length) (fun pre => nums .i32 (pre.map (·.2))) (fun pre v => True)) _) (OwnFrom.and (Own.from (boxed_own _ _ _) _) (ownFrom_below (Nat.le_refl _) (by simp; omega))))
    (fun _ _ _ _ _ hs _ _ => hs)
    ⟨⟨_, bO.alloc _, World.ownsRow_nil _ _ _ _, trivial⟩, bN, hB0⟩
    (fun x => { tmps := #[.slice A bs.length c, undef, .slice none 0 0, .int .i64 0, .int .i64 a, .int .i64 0, .pointer (some ⟨w1.heap.size, 0, none⟩), undef, .int .i32 x.2, .tuple #[.int .i64 a, .int .i64 0], .slice A bs.length c, .tuple #[.int .i64 a, .int .i64 0], .int .i64 a, .int .i64 0, .int .i64 0, .bool false, undef, .slice A bs.length c, .func (.func 115) #[] #[.pointer (some ⟨w1.heap.size + 1, 0, none⟩)], .int .i64 x.1, .int .i32 x.2, undef, undef, undef, undef, undef], defers := [] }) ?assign ?body ?done ?stop
  case assign =>
    intro l x W K hK
    gi_wp2
    exact hK
  case body =>
    rintro l pre ⟨x1, x2⟩ W ⟨⟨v, hv, hrow, _⟩, hbx, hB⟩ hlt
    have hc := hv.cell
    have hil := items_len bs
    have hml : (pre.map (·.2)).length = pre.length := List.length_map _
    dsimp only
    gi_wp2_with (gi_at_builtin; refine wpListIn_append_own _ rfl _ _ 68 rfl w.heap.size 21 i0 (.int .i32 0) 1 4 Tryd.underlying68 hi hz0 hz1 hz2 rfl (by decide) _ _ _ rfl (hrow.alloc _) ⟨W.heap.size, 0, none⟩ 1 1 [.int .i32 x2] rfl rfl (cell_one_new _ _ _) (by simp [Value.oneCell']) (by unfold maxLen; omega) (by omega) (by have := hB.size; simp; omega) ?_; intro v' w2 hown' hgrow _; obtain ⟨g', cap', rfl⟩ := ownsRow_succ hown'; obtain ⟨hv1, hv2, hr2, hk2, hb2⟩ := hv.appended (by decide) hrow hB.size (by omega) hown' hgrow; have hc1 := hv1.cell; have hf1 := hv1.frozen)
    have hbeq : (w2.setCell ⟨w1.heap.size, 0, none⟩ (.slice (some ⟨g', 0, none⟩) (pre.length + 1) cap')).heap[w1.heap.size + 1]? = W.heap[w1.heap.size + 1]? := by
      refine (Below.heap_setCell w2 ⟨w1.heap.size, 0, none⟩ _ _ (by simp)).trans ?_
      exact (hgrow.block _ (by have := hbx.lt; simp; omega) (hbx.not_row (by decide) hrow)).trans (Below.heap_alloc W _ _ hbx.lt)
    rw [hml] at hk2 hb2 hv2 hr2
    exact ⟨hk2.from _, ⟨hb2, hbeq⟩, ⟨_, hv2, by simpa [nums] using hr2⟩, hbeq.trans hbx, hB.trans hb2⟩
  case done =>
    rintro D ys W hD rfl ⟨⟨v, hv, hrow, _⟩, hbx, hB⟩ hK
    have hc := hv.cell
    gi_wp2
    refine ⟨by simp, .inl ⟨_, _, rfl, run_takeDeferred hK, ?_⟩⟩
    refine ⟨.tuple #[v, .int .i64 0], by simp [results, Tryd.results53, go_sem], fun _ => ⟨v, rfl, ?_⟩, (fun h => by rw [HN.out] at h; cases h), ?_⟩
    · exact ownsRow_putObj (by simpa [runesOf] using hrow) _ hK rfl
    · exact hB.trans (belowK_b (w := w) (Nat.le_refl _) W D _ _ (by simp at hD; omega) hK rfl rfl)
  case stop =>
    rintro D c pre W _ _ h _
    exact h.elim
/-- runes.Runes of any bytes -/
theorem rrun_any (A : Option Addr) (c : Nat) (bs : List Int) (w : World) (hr : Kd.C (Kd.int .u8) w A bs.length bs) (hcap : bs.length ≤ c) (hb : Bytes bs) (hG : G0 w) :
    Calls Tryd.prog 53 #[.slice A bs.length c] w (RunPost bs w) := by
  cases hok : okB bs with
  | false => exact rrun_no A c bs w hr hcap hb hG hok
  | true =>
    have hsz : bs.length ≤ 8000 := by
      unfold okB at hok
      simp at hok
      exact hok.1
    exact callsIn_wide.1 (rrun_yes A c bs w hr hcap hsz hb hG hok)
end Go.Proofs.YtgmiekggdgmhkaaDoor.Q
end
section
/- The marks that ranges over functions leave behind, in a loop; a world in which all but two blocks lie as they lay. -/
namespace Go.Proofs.YtgmiekggdgmhkaaDoor.Q
open Go.RowKit Go.Proofs.YtgmiekggdgmhkaaDoorW.PrintWords Go.Shelf
set_option linter.unusedVariables false
set_option linter.unusedSimpArgs false
/-- the marks: blocks of deferred calls, none in them; each younger than those behind it -/
def Marks (base : Nat) : List Deferred → World → Prop
  | [], _ => True
  | d :: ds, w => ∃ D, d = { target := .collected D, args := #[] } ∧ base ≤ D ∧ D < w.heap.size ∧ w.heap[D]? = some (.deferred (some [])) ∧ (∀ D', { target := .collected D', args := #[] } ∈ ds → D' < D) ∧ Marks base ds w
theorem Marks.mem {base : Nat} : ∀ {ds : List Deferred} {w : World}, Marks base ds w → ∀ d ∈ ds, ∃ D, d = { target := .collected D, args := #[] } ∧ base ≤ D ∧ D < w.heap.size ∧ w.heap[D]? = some (.deferred (some []))
  | [], _, _, d, h => by simp at h
  | d0 :: ds, w, h, d, hd => by
    obtain ⟨D, h1, h2, h3, h4, _, h5⟩ := h
    rcases List.mem_cons.mp hd with rfl | hd
    · exact ⟨D, h1, h2, h3, h4⟩
    · exact h5.mem d hd
theorem Marks.keep {base : Nat} : ∀ {ds : List Deferred} {w w' : World}, Marks base ds w → w.heap.size ≤ w'.heap.size → (∀ D, { target := .collected D, args := #[] } ∈ ds → w'.heap[D]? = w.heap[D]?) → Marks base ds w'
  | [], _, _, _, _, _ => trivial
  | d :: ds, w, w', h, hs, hk => by
    obtain ⟨D, rfl, h2, h3, h4, h5, h6⟩ := h
    exact ⟨D, rfl, h2, Nat.lt_of_lt_of_le h3 hs, (hk D (List.mem_cons_self ..)).trans h4, h5, h6.keep hs (fun D' hD' => hk D' (List.mem_cons_of_mem _ hD'))⟩
theorem Marks.cons {base D : Nat} {ds : List Deferred} {w w' : World} (h : Marks base ds w) (hb : base ≤ w.heap.size) (hD : w.heap.size ≤ D) (hd : w'.heap[D]? = some (.deferred (some []))) (hs : w.heap.size ≤ w'.heap.size) (hk : ∀ k, { target := .collected k, args := #[] } ∈ ds → w'.heap[k]? = w.heap[k]?) : Marks base ({ target := .collected D, args := #[] } :: ds) w' :=
  ⟨D, rfl, Nat.le_trans hb hD, (Array.getElem?_eq_some_iff.1 hd).1, hd, fun D' hD' => by
    obtain ⟨D2, e, _, h3, _⟩ := h.mem _ hD'
    injection e with e
    injection e with e
    omega, h.keep hs hk⟩
/-- all the marks are shut, one by one: what is no mark lies as it lay -/
theorem leaves_marks {F : Fence} {n : Nat} {P : Program} {fn : Func} {tmps : Array Value} {R : Ending → World → Prop} {base : Nat} : ∀ (ds : List Deferred) (w : World), Marks base ds w →
    (∀ w', Below base w w' → (∀ (k : Nat) (t : TypeId) (c : Array Value), w.heap[k]? = some (Obj.cells c t (0, 0)) → w'.heap[k]? = some (Obj.cells c t (0, 0))) → LeavesIn F n P fn tmps R [] .returning w') → LeavesInM F n P fn tmps R ds .returning w
  | [], w, _, h => h w (Below.refl _ _) (fun _ _ _ h => h)
  | d :: ds, w, hm, h => by
    obtain ⟨D, rfl, h2, h3, h4, h5, h6⟩ := hm
    refine ⟨by simp, .inl ⟨D, _, rfl, run_takeDeferred h4, leaves_marks ds _ (h6.keep (by simp [World.putObj]) (fun D' hD' => World.putObj_heap_other (by have := h5 D' hD'; omega))) (fun w' hb hk => h w' ?_ ?_)⟩⟩
    · exact ((Below.refl base w).grown (grownBy_putObj' w D (.deferred none)) (by omega) (fun k e => by cases e; exact h2)).trans hb
    · intro k t c hc
      refine hk k t c ?_
      rw [World.putObj_heap_other (by rintro rfl; rw [h4] at hc; cases hc)]
      exact hc
end Go.Proofs.YtgmiekggdgmhkaaDoor.Q
end
