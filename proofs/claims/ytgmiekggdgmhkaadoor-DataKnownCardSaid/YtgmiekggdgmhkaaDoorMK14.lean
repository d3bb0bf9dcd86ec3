import Derived.Deep.OwnRows
import Derived.Laws.EntriesVeiled
import Derived.Laws.NewBlocks
import Derived.Laws.OwnMore
import Derived.LoopN
import Derived.LoopTactic
import Derived.Outline
import Derived.Test.YtgmiekggdgmhkaaDoorMK0
import Derived.Test.YtgmiekggdgmhkaaDoorMK10
import Derived.Test.YtgmiekggdgmhkaaDoorMK6
section
/- data.Shape of any numbers. -/
namespace Go.Proofs.YtgmiekggdgmhkaaDoor.Q
open Go.RowKit Go.Proofs.YtgmiekggdgmhkaaDoorW.PrintWords Go.Proofs.YtgmiekggdgmhkaaDoorW.PrintLast Go.Proofs.YtgmiekggdgmhkaaDoorW.PrintMore
set_option linter.unusedVariables false
set_option linter.unusedSimpArgs false
set_option maxRecDepth 100000 in
set_option maxHeartbeats 2000000 in
theorem neg1_any (x : Int) (w : World) : Calls Tryd.prog 59 #[.int .i64 x] w fun e w' => e = .returned (.bool (decide (x < 0))) ∧ w = w' := by
  go_enter Tryd.func59, Tryd.ntmps59
  go_wp2
  go_ret
  exact ⟨rfl, rfl⟩
theorem any_take_succ (l : List Int) (k : Nat) (hk : k < l.length) (h : (l.take k).any (fun x => decide (x < 0)) = false) : (l.take (k + 1)).any (fun x => decide (x < 0)) = decide (rd l k < 0) := by
  rw [List.take_succ_eq_append_getElem hk, List.any_append, h]
  simp [rd, List.getD_eq_getElem?_getD, List.getElem?_eq_getElem hk]
theorem any_true_of_take (l : List Int) (k : Nat) (h : (l.take k).any (fun x => decide (x < 0)) = true) : l.any (fun x => decide (x < 0)) = true := by
  rw [← List.take_append_drop k l, List.any_append, h]; rfl
set_option maxRecDepth 100000 in
set_option maxHeartbeats 2000000 in
theorem idx_int (A : Option Addr) (c : Nat) (l : List Int) (w : World) (hr : Kd.C (Kd.int .i64) w A l.length l) :
    Calls Tryd.prog 97 #[.slice A l.length c, .func (.func 59) #[] #[]] w fun e w' => (∃ q : Int, e = .returned (.int .i64 q) ∧ decide (0 ≤ q) = l.any (fun x => decide (x < 0))) ∧ w = w' := by
  have hread : ReadsInt w .i64 A l.length l := Kd.reads_of_C hr
  have HRD := Aside0.mk hread
  have hmax := hr.2.1
  clear hr hread
  go_enter Tryd.func97, Tryd.ntmps97
  go_wp2
  go_loopw [8] (fun i wr => ∃ k : Nat, i = .int .i64 k ∧ k ≤ l.length ∧ Aside0 ((l.take k).any (fun x => decide (x < 0)) = false) ∧ w = wr) (fun i _ => l.length - (intOf i).toNat)
  case atStart => exact ⟨0, rfl, Nat.zero_le _, ⟨rfl⟩, rfl⟩
  case round =>
    obtain ⟨k, rfl, hk, HS, rfl⟩ := hrel
    by_cases hlt : k < l.length
    · have hltI : (k : Int) < l.length := by omega
      obtain ⟨ad, rfl, hcell⟩ := HRD.out.at_ k (by omega) hltI
      rw [Int.toNat_natCast] at hcell
      have hsucc := any_take_succ l k hlt HS.out
      cases hb : decide (rd l k < 0) with
      | true =>
        have hall := any_true_of_take l (k + 1) (hsucc.trans hb)
        have hq : ∀ W, Calls Tryd.prog 59 #[.int .i64 (rd l k)] W fun e w' => e = .returned (.bool true) ∧ W = w' := fun W => by have := neg1_any (rd l k) W; rwa [hb] at this
        have HQ := Aside0.mk hq
        have HA := Aside0.mk hall
        clear hsucc hb hq hall
        go_wp2_with (go_at_call 59; refine (HQ.out _).mono ?_; rintro e w1 ⟨rfl, rfl⟩)
        go_ret
        exact ⟨⟨k, rfl, by rw [HA.out]; exact decide_eq_true (by omega)⟩, rfl⟩
      | false =>
        have hall := hsucc.trans hb
        have hq : ∀ W, Calls Tryd.prog 59 #[.int .i64 (rd l k)] W fun e w' => e = .returned (.bool false) ∧ W = w' := fun W => by have := neg1_any (rd l k) W; rwa [hb] at this
        have HQ := Aside0.mk hq
        have HA := Aside0.mk hall
        clear hsucc hb hq hall
        go_wp2_with (go_at_call 59; refine (HQ.out _).mono ?_; rintro e w1 ⟨rfl, rfl⟩)
        go_roundw
        case rel => exact ⟨k + 1, by go_num, hlt, HA, trivial⟩
        case measure => simp [intOf]; omega
    · have hk2 : k = l.length := by omega
      have hall : l.any (fun x => decide (x < 0)) = false := by have := HS.out; rwa [hk2, List.take_length] at this
      have HA := Aside0.mk hall
      clear hall hk2
      go_wp2
      go_ret
      exact ⟨⟨-1, rfl, by rw [HA.out]; rfl⟩, rfl⟩
set_option maxRecDepth 100000 in
set_option maxHeartbeats 2000000 in
theorem has_int (A : Option Addr) (c : Nat) (l : List Int) (w : World) (hr : Kd.C (Kd.int .i64) w A l.length l) :
    Calls Tryd.prog 58 #[.slice A l.length c, .func (.func 59) #[] #[]] w fun e w' => e = .returned (.bool (l.any (fun x => decide (x < 0)))) ∧ w = w' := by
  have HI := Aside0.mk (idx_int A c l w hr)
  clear hr
  go_enter Tryd.func58, Tryd.ntmps58
  go_wp2_with (go_at_call 97; refine HI.out.mono ?_; rintro e w1 ⟨⟨q, rfl, hq⟩, rfl⟩)
  go_ret
  exact ⟨by rw [← hq]; rfl, rfl⟩
/-! ### the closure that walks -/
structure ShS (n n' : Nat) (A : Option Addr) (c : Nat) (w0 : World) (Bk Bn Bw Be be : Nat) (W : World) (nx : Int) (es : List Int) : Prop where
  below : Below w0.heap.size w0 W
  bk : W.heap[Bk]? = some (.cells #[.slice A n c] 30 (0, 0))
  bw : W.heap[Bw]? = some (.cells #[.func (.func 60) #[] #[.pointer (some ⟨Bk, 0, none⟩), .pointer (some ⟨Bn, 0, none⟩), .pointer (some ⟨Bw, 0, none⟩), .pointer (some ⟨Be, 0, none⟩)]] 74 (0, 0))
  bb : W.heap[Be]? = some (.cells #[.slice (some ⟨be, 0, none⟩) n n'] 30 (0, 0))
  bn : W.heap[Bn]? = some (.cells #[.int .i64 nx] 3 (0, 0))
  be_ : W.heap[be]? = some (.cells (es.map (Value.int .i64)).toArray 3 (0, 0))
  len : es.length = n
theorem ShS.next {n n' : Nat} {A : Option Addr} {c : Nat} {w0 : World} {Bk Bn Bw Be be : Nat} {W : World} {nx : Int} {es : List Int} (h : ShS n n' A c w0 Bk Bn Bw Be be W nx es) (hB : w0.heap.size ≤ Bn) (hne : Bn ≠ be) (x : Int) : ShS n n' A c w0 Bk Bn Bw Be be (W.setCell ⟨Bn, 0, none⟩ (.int .i64 x)) x es :=
  { below := h.below.setCell (p := ⟨Bn, 0, none⟩) hB _
    bk := blk_far h.bk (p := ⟨Bn, 0, none⟩) (blk_ne h.bk h.bn (by decide)) _
    bw := blk_far h.bw (p := ⟨Bn, 0, none⟩) (blk_ne h.bw h.bn (by decide)) _
    bb := blk_far h.bb (p := ⟨Bn, 0, none⟩) (blk_ne h.bb h.bn (by decide)) _
    bn := blk_put h.bn 0 _ rfl
    be_ := blk_far h.be_ (p := ⟨Bn, 0, none⟩) (Ne.symm hne) _
    len := h.len }
theorem ShS.put {n n' : Nat} {A : Option Addr} {c : Nat} {w0 : World} {Bk Bn Bw Be be : Nat} {W : World} {nx : Int} {es : List Int} (h : ShS n n' A c w0 Bk Bn Bw Be be W nx es) (hB : w0.heap.size ≤ be) (hne : Bn ≠ be) (i : Nat) (x : Int) : ShS n n' A c w0 Bk Bn Bw Be be (W.setCell ⟨be, i, none⟩ (.int .i64 x)) nx (es.set i x) :=
  { below := h.below.setCell (p := ⟨be, i, none⟩) hB _
    bk := blk_far h.bk (p := ⟨be, i, none⟩) (blk_ne h.bk h.be_ (by decide)) _
    bw := blk_far h.bw (p := ⟨be, i, none⟩) (blk_ne h.bw h.be_ (by decide)) _
    bb := blk_far h.bb (p := ⟨be, i, none⟩) (blk_ne h.bb h.be_ (by decide)) _
    bn := blk_far h.bn (p := ⟨be, i, none⟩) hne _
    be_ := blk_put h.be_ i _ (by simp)
    len := by simp [h.len] }
/-- what the closure answers at node i -/
def WalkPost (ks : List Int) (n' : Nat) (A : Option Addr) (c : Nat) (w0 : World) (Bk Bn Bw Be be : Nat) (i : Nat) (es : List Int) (e : Ending) (W' : World) : Prop :=
  ∃ nx' es', ShS ks.length n' A c w0 Bk Bn Bw Be be W' nx' es' ∧ match eat (ks.drop i) 1 with
    | none => e = .returned (.bool false)
    | some m => e = .returned (.bool true) ∧ nx' = i + m ∧ ∀ j : Nat, es'.getD j 0 = if i ≤ j ∧ j < i + m then (endAt ks j : Int) else es.getD j 0
theorem WalkPost.no {ks : List Int} {n' : Nat} {A : Option Addr} {c : Nat} {w0 : World} {Bk Bn Bw Be be i : Nat} {es : List Int} {e : Ending} {W' : World} (hq : eat (ks.drop i) 1 = none) (h : WalkPost ks n' A c w0 Bk Bn Bw Be be i es e W') : e = .returned (.bool false) ∧ ∃ nx' es', Aside0 (ShS ks.length n' A c w0 Bk Bn Bw Be be W' nx' es') := by
  unfold WalkPost at h
  rw [hq] at h
  obtain ⟨nx, es', h1, h2⟩ := h
  exact ⟨h2, nx, es', ⟨h1⟩⟩
theorem WalkPost.yes {ks : List Int} {n' : Nat} {A : Option Addr} {c : Nat} {w0 : World} {Bk Bn Bw Be be i : Nat} {es : List Int} {e : Ending} {W' : World} {m : Nat} (hq : eat (ks.drop i) 1 = some m) (h : WalkPost ks n' A c w0 Bk Bn Bw Be be i es e W') : e = .returned (.bool true) ∧ ∃ es', Aside0 (ShS ks.length n' A c w0 Bk Bn Bw Be be W' ((i + m : Nat) : Int) es' ∧ ∀ j : Nat, es'.getD j 0 = if i ≤ j ∧ j < i + m then (endAt ks j : Int) else es.getD j 0) := by
  unfold WalkPost at h
  rw [hq] at h
  obtain ⟨nx, es', h1, h2, h3, h4⟩ := h
  have e : ((i + m : Nat) : Int) = nx := by omega
  rw [e]
  exact ⟨h2, es', ⟨h1, h4⟩⟩
theorem WalkPost.mk_no {ks : List Int} {n' : Nat} {A : Option Addr} {c : Nat} {w0 : World} {Bk Bn Bw Be be i : Nat} {es : List Int} {W' : World} {nx' : Int} {es' : List Int} (hq : eat (ks.drop i) 1 = none) (h : ShS ks.length n' A c w0 Bk Bn Bw Be be W' nx' es') : WalkPost ks n' A c w0 Bk Bn Bw Be be i es (.returned (.bool false)) W' := by
  unfold WalkPost
  rw [hq]
  exact ⟨nx', es', h, rfl⟩
theorem WalkPost.mk_yes {ks : List Int} {n' : Nat} {A : Option Addr} {c : Nat} {w0 : World} {Bk Bn Bw Be be i : Nat} {es : List Int} {W' : World} {m : Nat} {nx' : Int} {es' : List Int} (hq : eat (ks.drop i) 1 = some m) (h : ShS ks.length n' A c w0 Bk Bn Bw Be be W' nx' es') (hn : nx' = i + m) (hj : ∀ j : Nat, es'.getD j 0 = if i ≤ j ∧ j < i + m then (endAt ks j : Int) else es.getD j 0) : WalkPost ks n' A c w0 Bk Bn Bw Be be i es (.returned (.bool true)) W' := by
  unfold WalkPost
  rw [hq]
  exact ⟨nx', es', h, rfl, hn, hj⟩
theorem eat_one (ks : List Int) (i : Nat) (hi : i < ks.length) : eat (ks.drop i) 1 = (eat (ks.drop (i + 1)) (rd ks i).toNat).map (· + 1) := by
  rw [List.drop_eq_getElem_cons hi]
  simp only [eat, Nat.zero_add]
  congr 2
  simp [rd, List.getD_eq_getElem?_getD, List.getElem?_eq_getElem hi]
set_option maxRecDepth 100000 in
set_option maxHeartbeats 1000000 in
theorem walk_any (ks : List Int) (n' : Nat) (A : Option Addr) (c : Nat) (w0 : World) (Bk Bn Bw Be be : Nat) (hread : Kd.C (Kd.int .i64) w0 A ks.length ks) (hnn : ∀ x ∈ ks, 0 ≤ x) (hlen : ks.length ≤ 2000) (hc : ks.length ≤ c) (hcap : ks.length ≤ n')
    (hBn : w0.heap.size ≤ Bn) (hbe : w0.heap.size ≤ be) (hne : Bn ≠ be) :
    ∀ (d i : Nat), ks.length - i ≤ d → i ≤ ks.length → ∀ W nx es, ShS ks.length n' A c w0 Bk Bn Bw Be be W nx es →
      Calls Tryd.prog 60 #[.int .i64 i, .pointer (some ⟨Bk, 0, none⟩), .pointer (some ⟨Bn, 0, none⟩), .pointer (some ⟨Bw, 0, none⟩), .pointer (some ⟨Be, 0, none⟩)] W (WalkPost ks n' A c w0 Bk Bn Bw Be be i es) := by
  intro d
  induction d with
  | zero =>
    intro i h1 h2 W nx es hS
    have hk0 := blk1_cell hS.bk
    have hge : decide ((i : Int) ≥ ks.length) = true := decide_eq_true (by omega)
    have hge' : decide ((ks.length : Int) ≤ i) = true := decide_eq_true (by omega)
    have hE : eat (ks.drop i) 1 = none := by rw [List.drop_eq_nil_of_le (by omega)]; rfl
    have HS := Aside0.mk hS
    have HE := Aside0.mk hE
    clear hS hE
    go_enter Tryd.func60, Tryd.ntmps60
    go_wp2
    go_ret
    exact WalkPost.mk_no HE.out HS.out
  | succ d ih =>
    intro i h1 h2 W nx es hS
    have hk0 := blk1_cell hS.bk
    by_cases hlt : i < ks.length
    · have hge : decide ((i : Int) ≥ ks.length) = false := decide_eq_false (by omega)
      have hge2 : decide (ks.length ≤ i) = false := decide_eq_false (by omega)
      have hge' : decide ((ks.length : Int) ≤ i) = false := decide_eq_false (by omega)
      have hS1 := hS.next hBn hne ((i : Int) + 1)
      have hk1 := blk1_cell hS1.bk
      have hn0 := blk1_cell hS.bn
      have hnf0 := blk_frozen hS.bn 0
      have hrI : ReadsInt (W.setCell ⟨Bn, 0, none⟩ (.int .i64 ((i : Int) + 1))) .i64 A ks.length ks := (Kd.reads_of_C hread).below hS1.below
      obtain ⟨ad, rfl, hcell⟩ := hrI.at_ i (by omega) (by omega)
      rw [Int.toNat_natCast] at hcell
      have hE := eat_one ks i hlt
      have hkn : 0 ≤ rd ks i := by
        have : rd ks i = ks[i]'hlt := by simp [rd, List.getD_eq_getElem?_getD, List.getElem?_eq_getElem hlt]
        rw [this]; exact hnn _ (List.getElem_mem hlt)
      obtain ⟨kk, hkk⟩ : ∃ kk : Nat, rd ks i = kk := ⟨(rd ks i).toNat, by omega⟩
      rw [hkk] at hE hcell
      rw [Int.toNat_natCast] at hE
      have hS1 := Aside0.mk hS1
      have HE := Aside0.mk hE
      have HIH := Aside0.mk ih
      have HNN := Aside0.mk hnn
      have HRD := Aside0.mk hread
      clear hE ih hnn hread hkk hkn hrI hS
      obtain ⟨W1, hW1⟩ : ∃ W1, W1 = W.setCell ⟨Bn, 0, none⟩ (.int .i64 ((i : Int) + 1)) := ⟨_, rfl⟩
      have hi1 : (i : Int) + 1 ≤ 2000 := by omega
      go_enter Tryd.func60, Tryd.ntmps60
      go_wp2
      rw [← hW1]
      rw [← hW1] at hS1
      clear hW1 hk0 hn0 hnf0 hk1 hcell
      go_loopw [17] (fun r wr => ∃ (k m : Nat) (es' : List Int), r = .int .i64 k ∧ k ≤ kk ∧ Aside0 (eat (ks.drop (i + 1)) k = some m) ∧ Aside0 (∀ j : Nat, es'.getD j 0 = if i + 1 ≤ j ∧ j < i + 1 + m then (endAt ks j : Int) else es.getD j 0) ∧ Aside0 (ShS ks.length n' (some ad) c w0 Bk Bn Bw Be be wr ((i + 1 + m : Nat) : Int) es')) (fun r _ => kk - (intOf r).toNat)
      case atStart => exact ⟨0, 0, es, rfl, Nat.zero_le _, ⟨eat_zero _⟩, ⟨fun j => by rw [if_neg (by omega)]⟩, hS1⟩
      case round =>
        obtain ⟨k, m, es', rfl, hk, HM, HJ, HW⟩ := hrel
        obtain ⟨p, hp⟩ : ∃ p, p = i + 1 + m := ⟨_, rfl⟩
        have hm := eat_le _ _ _ HM.out
        rw [List.length_drop] at hm
        have hkm := eat_ge _ _ _ HM.out
        have hk2000 : k ≤ 2000 := by omega
        have hpn : p ≤ ks.length := by omega
        have hS2 := HW.out
        rw [← hp] at hS2
        have hb2 := blk1_cell hS2.bw
        have hn2 := blk1_cell hS2.bn
        have HS2 := Aside0.mk hS2
        have HP := Aside0.mk hp
        clear HW
        by_cases hlt2 : k < kk
        · have hltI : (k : Int) < kk := by omega
          have hcall := HIH.out p (by omega) hpn wr _ es' hS2
          have hadd := eat_add (ks.drop (i + 1)) k 1
          rw [HM.out, Option.bind_some, List.drop_drop, ← hp] at hadd
          cases hq : eat (ks.drop p) 1 with
          | none =>
            rw [hq] at hadd
            replace hcall := hcall.mono fun e w' h => h.no hq
            have hE : eat (ks.drop i) 1 = none := by rw [HE.out, eat_none_mono _ (k + 1) kk hadd hlt2]; rfl
            have HC := Aside0.mk hcall
            have HEE := Aside0.mk hE
            clear hcall hadd hq hE hS2 hp hm
            go_wp2_with (go_at_call 60; refine HC.out.mono ?_; rintro e w3 ⟨rfl, nx3, es3, HS3⟩)
            go_ret
            exact WalkPost.mk_no HEE.out HS3.out
          | some q =>
            rw [hq] at hadd
            replace hcall := hcall.mono fun e w' h => h.yes hq
            have HC := Aside0.mk hcall
            have HA := Aside0.mk hadd
            clear hcall hadd hq hS2 hp hm
            go_wp2_with (go_at_call 60; refine HC.out.mono ?_; rintro e w3 ⟨rfl, es3, HS3⟩)
            go_roundw
            case rel =>
              have hp := HP.out
              refine ⟨k + 1, m + q, es3, by go_num, hlt2, HA, ⟨fun j => ?_⟩, ⟨?_⟩⟩
              · rw [HS3.out.2 j, HJ.out j]
                by_cases c1 : p ≤ j ∧ j < p + q
                · rw [if_pos c1, if_pos (by omega)]
                · rw [if_neg c1]
                  by_cases c2 : i + 1 ≤ j ∧ j < i + 1 + m
                  · rw [if_pos c2, if_pos (by omega)]
                  · rw [if_neg c2, if_neg (by omega)]
              · have e : i + 1 + (m + q) = p + q := by omega
                rw [e]; exact HS3.out.1
            case measure => simp [intOf]; omega
        · have hkk : k = kk := by omega
          have hltI : ¬ (k : Int) < kk := by omega
          have hE : eat (ks.drop i) 1 = some (m + 1) := by rw [HE.out, ← hkk, HM.out]; rfl
          have hbb := blk1_cell hS2.bb
          have hfz := blk_frozen hS2.be_ i
          have hcl : wr.cell? ⟨be, i, none⟩ = some (.int .i64 (es'.getD i 0)) := by
            rw [blk_cell hS2.be_ i]
            have : i < es'.length := by rw [hS2.len]; exact hlt
            simp [List.getD_eq_getElem?_getD, List.getElem?_eq_getElem this]
          have HEE := Aside0.mk hE
          have hS3 := hS2.put hbe hne i (p : Int)
          have HS3 := Aside0.mk hS3
          have hend : endAt ks i = p := by unfold endAt; rw [hE]; simp; omega
          have HEND := Aside0.mk hend
          clear hE hS2 hend hS3 hp hm
          go_wp2
          go_ret
          have hp := HP.out
          refine WalkPost.mk_yes HEE.out HS3.out (by omega) (fun j => ?_)
          have hle : i < es'.length := by rw [HS2.out.len]; exact hlt
          by_cases c0 : j = i
          · subst c0
            rw [if_pos (by omega), HEND.out]
            simp [List.getD_eq_getElem?_getD, hle]
          · have : (es'.set i p).getD j 0 = es'.getD j 0 := by simp [List.getD_eq_getElem?_getD, List.getElem?_set_ne (Ne.symm c0)]
            rw [this, HJ.out j]
            by_cases c2 : i + 1 ≤ j ∧ j < i + 1 + m
            · rw [if_pos c2, if_pos (by omega)]
            · rw [if_neg c2, if_neg (by omega)]
    · have hge : decide ((i : Int) ≥ ks.length) = true := decide_eq_true (by omega)
      have hge' : decide ((ks.length : Int) ≤ i) = true := decide_eq_true (by omega)
      have hE : eat (ks.drop i) 1 = none := by rw [List.drop_eq_nil_of_le (by omega)]; rfl
      have HS := Aside0.mk hS
      have HE := Aside0.mk hE
      clear hS hE
      go_enter Tryd.func60, Tryd.ntmps60
      go_wp2
      go_ret
      exact WalkPost.mk_no HE.out HS.out
/-- what Shape answers -/
def shapeF (l : List Int) : List Int × Int := if 2000 < l.length then ([], 3) else if l.any (fun x => decide (x < 0)) = true then ([], 7) else if eat l 1 = some l.length then (endsAll l, 0) else ([], 6)
def data_Shape.f (l0 : List Int) : Option (List Int × Int) := some (shapeF l0)
set_option maxRecDepth 100000 in
set_option maxHeartbeats 2000000 in
theorem shape_long (A : Option Addr) (c : Nat) (l : List Int) (w : World) (h : 2000 < l.length) :
    Calls Tryd.prog 18 #[.slice A l.length c] w fun e w' => e = .returned (.tuple #[.slice none 0 0, .int .i64 3]) ∧ Below w.heap.size w w' := by
  have d : decide ((2000 : Int) < l.length) = true := decide_eq_true (by omega)
  have d' : decide (2000 < l.length) = true := decide_eq_true (by omega)
  go_enter Tryd.func18, Tryd.ntmps18
  go_wp2
  exact bodyPost_ret (v := .tuple #[.slice none 0 0, .int .i64 3]) (by simp [results, Tryd.results18, go_sem]) rfl ⟨rfl, by repeat (first | exact Below.refl _ _ | apply below_alloc)⟩
set_option maxRecDepth 100000 in
set_option maxHeartbeats 2000000 in
theorem shape_neg (A : Option Addr) (c : Nat) (l : List Int) (w : World) (h : ¬ 2000 < l.length) (hr : Kd.C (Kd.int .i64) w A l.length l) (hn : l.any (fun x => decide (x < 0)) = true) :
    Calls Tryd.prog 18 #[.slice A l.length c] w fun e w' => e = .returned (.tuple #[.slice none 0 0, .int .i64 7]) ∧ Below w.heap.size w w' := by
  have d : decide ((2000 : Int) < l.length) = false := decide_eq_false (by omega)
  have d' : decide (2000 < l.length) = false := decide_eq_false (by omega)
  have hcall : ∀ W, Below w.heap.size w W → Calls Tryd.prog 58 #[.slice A l.length c, .func (.func 59) #[] #[]] W fun e w' => e = .returned (.bool true) ∧ W = w' := fun W hb => by
    have := has_int A c l W (Kd.C_below hr hb)
    rwa [hn] at this
  have HC := Aside0.mk hcall
  clear hcall hr hn
  go_enter Tryd.func18, Tryd.ntmps18
  go_wp2_with (go_at_call 58; refine (HC.out _ (by repeat (first | exact Below.refl _ _ | apply below_alloc))).mono ?_; rintro e w1 ⟨rfl, rfl⟩)
  exact bodyPost_ret (v := .tuple #[.slice none 0 0, .int .i64 7]) (by simp [results, Tryd.results18, go_sem]) rfl ⟨rfl, by repeat (first | exact Below.refl _ _ | apply below_alloc)⟩
theorem made_int (n : Nat) : madeCells #[.int .i64 0] n = ((List.replicate n (0 : Int)).map (Value.int .i64)).toArray := by
  apply Array.ext'
  rw [toList_madeCells_one]
  simp
theorem own_block_ints (w : World) (base g n : Nat) (es : List Int) (h : w.heap[g]? = some (.cells (es.map (Value.int .i64)).toArray 3 (0, 0))) (hb : base ≤ g) (hl : es.length = n) (hn : n ≤ 2000) : Kd.R (Kd.int .i64) 3 w base (fun _ => True) (.slice (some ⟨g, 0, none⟩) n n) es := by
  subst hl
  refine Kd.R_of_own ⟨by simp [encs], .inr ⟨g, es.length, _, rfl, hb, h, Nat.le_refl _, by unfold maxLen; omega, by simp, ?_⟩⟩ (fun _ _ => trivial)
  simp [encs, Kd.int, List.take_of_length_le]
theorem endsAll_of (l es : List Int) (hl : es.length = l.length) (h : ∀ j : Nat, es.getD j 0 = if 0 ≤ j ∧ j < l.length then (endAt l j : Int) else (List.replicate l.length (0 : Int)).getD j 0) : es = endsAll l := by
  apply List.ext_getElem
  · simp [endsAll, hl]
  · intro j h1 h2
    have := h j
    rw [if_pos ⟨Nat.zero_le _, by omega⟩] at this
    simp only [List.getD_eq_getElem?_getD, List.getElem?_eq_getElem h1, Option.getD_some] at this
    rw [this]
    simp [endsAll]
theorem box_load {w : World} {g : Nat} {t : TypeId} {x : Value} (h : w.heap[g]? = some (.cells #[x] t (0, 0))) (v : Value) : (w.setCell ⟨g, 0, none⟩ v).cell? ⟨g, 0, none⟩ = some v := World.cell?_setCell_same' _ _ _ (by rw [blk1_cell h]; rfl)
/-- the world when the walk begins -/
theorem sh_start (w : World) (A : Option Addr) (n c : Nat) (F : Value) (X : World)
    (hF : F = .func (.func 60) #[] #[.pointer (some ⟨w.heap.size, 0, none⟩), .pointer (some ⟨w.heap.size + 1 + 1 + 1 + 1, 0, none⟩), .pointer (some ⟨w.heap.size + 1 + 1 + 1, 0, none⟩), .pointer (some ⟨w.heap.size + 1, 0, none⟩)])
    (hX : X = ((((w.alloc (.cells #[.slice A n c] 30)).alloc (.cells #[.slice (some ⟨w.heap.size + 1 + 1, 0, none⟩) n n] 30)).alloc (.cells (madeCells #[.int .i64 0] n) 3)).alloc (.cells #[F] 74)).alloc (.cells #[.int .i64 0] 3)) :
    Aside0 (ShS n n A c w w.heap.size (w.heap.size + 1 + 1 + 1 + 1) (w.heap.size + 1 + 1 + 1) (w.heap.size + 1) (w.heap.size + 1 + 1) X 0 (List.replicate n 0)) := by
  have h1 := blk_new w (.cells #[.slice A n c] 30)
  have h2 := blk_new (w.alloc (.cells #[.slice A n c] 30)) (.cells #[.slice (some ⟨w.heap.size + 1 + 1, 0, none⟩) n n] 30)
  have h3 := blk_new ((w.alloc (.cells #[.slice A n c] 30)).alloc (.cells #[.slice (some ⟨w.heap.size + 1 + 1, 0, none⟩) n n] 30)) (.cells (madeCells #[.int .i64 0] n) 3)
  have h4 := blk_new (((w.alloc (.cells #[.slice A n c] 30)).alloc (.cells #[.slice (some ⟨w.heap.size + 1 + 1, 0, none⟩) n n] 30)).alloc (.cells (madeCells #[.int .i64 0] n) 3)) (.cells #[F] 74)
  have h5 := blk_new ((((w.alloc (.cells #[.slice A n c] 30)).alloc (.cells #[.slice (some ⟨w.heap.size + 1 + 1, 0, none⟩) n n] 30)).alloc (.cells (madeCells #[.int .i64 0] n) 3)).alloc (.cells #[F] 74)) (.cells #[.int .i64 0] 3)
  simp only [World.size_alloc] at h2 h3 h4 h5
  have k4 := blk_alloc h4 (.cells #[.int .i64 0] 3)
  have k3 := blk_alloc (blk_alloc h3 (.cells #[F] 74)) (.cells #[.int .i64 0] 3)
  have k2 := blk_alloc (blk_alloc (blk_alloc h2 (.cells (madeCells #[.int .i64 0] n) 3)) (.cells #[F] 74)) (.cells #[.int .i64 0] 3)
  have k1 := blk_alloc (blk_alloc (blk_alloc (blk_alloc h1 (.cells #[.slice (some ⟨w.heap.size + 1 + 1, 0, none⟩) n n] 30)) (.cells (madeCells #[.int .i64 0] n) 3)) (.cells #[F] 74)) (.cells #[.int .i64 0] 3)
  have hB : Below w.heap.size w X := by
    rw [hX]
    exact (((((Below.refl _ w).alloc (Nat.le_refl _) _).alloc (by simp) _).alloc (by simp; omega) _).alloc (by simp; omega) _).alloc (by simp; omega) _
  rw [← hX] at h5 k4 k3 k2 k1
  subst hF
  exact ⟨{ below := hB, bk := k1, bw := k4, bb := k2, bn := h5, be_ := by rw [← made_int]; exact k3, len := by simp }⟩
set_option maxRecDepth 100000 in
set_option maxHeartbeats 2000000 in
theorem shape_walk (A : Option Addr) (c : Nat) (l : List Int) (w : World) (h : ¬ 2000 < l.length) (hcap : l.length ≤ c) (hr : Kd.C (Kd.int .i64) w A l.length l) (hn : l.any (fun x => decide (x < 0)) = false) :
    Calls Tryd.prog 18 #[.slice A l.length c] w fun e w' => ∃ v0_ : Value, e = .returned (.tuple #[v0_, .int .i64 (shapeF l).2]) ∧ Kd.R (Kd.int .i64) 3 w' w.heap.size (fun _ => True) v0_ (shapeF l).1 ∧ Below w.heap.size w w' := by
  have d : decide ((2000 : Int) < l.length) = false := decide_eq_false (by omega)
  have d' : decide (2000 < l.length) = false := decide_eq_false (by omega)
  have hcall : ∀ W, Below w.heap.size w W → Calls Tryd.prog 58 #[.slice A l.length c, .func (.func 59) #[] #[]] W fun e w' => e = .returned (.bool false) ∧ W = w' := fun W hb => by
    have := has_int A c l W (Kd.C_below hr hb)
    rwa [hn] at this
  have HC := Aside0.mk hcall
  have HS := sh_start w A l.length c _ _ rfl rfl
  have hnn : ∀ x ∈ l, 0 ≤ x := fun x hx => by
    have := List.any_eq_false.mp hn x hx
    simpa using this
  have hw := walk_any l l.length A c w w.heap.size (w.heap.size + 1 + 1 + 1 + 1) (w.heap.size + 1 + 1 + 1) (w.heap.size + 1) (w.heap.size + 1 + 1) hr hnn (by omega) hcap (Nat.le_refl _) (by omega) (by omega) (by omega) l.length 0 (by omega) (by omega) _ _ _ HS.out
  have hmk := run_make_row' (P := Tryd.prog) 30 3 (.int .i64 0) 8 Tryd.underlying30 (by kernel_rfl) rfl .i64 .i64 l.length (by omega) (by omega)
  have hmf : ∀ (fn : Fn) (first cap : Array Value) (w : World), (Instr.makeFunc fn first cap).run Tryd.prog w = .ok (.func fn first cap) w := fun _ _ _ _ => rfl
  have e2 : shapeF l = if eat l 1 = some l.length then (endsAll l, 0) else ([], 6) := by
    unfold shapeF; rw [if_neg h, if_neg (by rw [hn]; decide)]
  have HL : Aside0 (l.length ≤ 2000) := ⟨by omega⟩
  clear hcall hr hnn
  replace hw : Calls Tryd.prog 60 #[.int .i64 0, .pointer (some ⟨w.heap.size, 0, none⟩), .pointer (some ⟨w.heap.size + 1 + 1 + 1 + 1, 0, none⟩), .pointer (some ⟨w.heap.size + 1 + 1 + 1, 0, none⟩), .pointer (some ⟨w.heap.size + 1, 0, none⟩)] _ _ := hw
  cases hq : eat l 1 with
  | none =>
    replace hw := hw.mono fun e w' h => h.no (by rw [List.drop_zero]; exact hq)
    have HW := Aside0.mk hw
    have E2 := Aside0.mk (e2.trans (if_neg (by rw [hq]; simp)))
    clear hw e2 hq hn h
    go_enter Tryd.func18, Tryd.ntmps18
    go_wp2_with (first
      | (go_at_call 58; refine (HC.out _ (by repeat (first | exact Below.refl _ _ | apply below_alloc))).mono ?_; rintro e w1 ⟨rfl, rfl⟩)
      | (go_at_call 60; refine HW.out.mono ?_; rintro e w3 ⟨rfl, nx3, es3, HS3⟩; have hbb := blk1_cell HS3.out.bb; have hbf := blk_frozen HS3.out.bb 0))
    have hbl := box_load HS3.out.bb (.slice none 0 0)
    refine bodyPost_ret (v := .tuple #[.slice none 0 0, .int .i64 6]) (by simp [results, Tryd.results18, go_sem, hbl]) rfl ⟨.slice none 0 0, ?_, ?_, ?_⟩
    · rw [E2.out]
    · rw [E2.out]; exact Kd.R_nil _ _ _ _ _
    · exact HS3.out.below.setCell (p := ⟨w.heap.size + 1, 0, none⟩) (by simp) _
  | some m =>
    replace hw := hw.mono fun e w' h => h.yes (by rw [List.drop_zero]; exact hq)
    rw [Nat.zero_add] at hw
    have hm := eat_le _ _ _ hq
    by_cases hml : m = l.length
    · subst hml
      have HW := Aside0.mk hw
      have E2 := Aside0.mk (e2.trans (if_pos hq))
      clear hw e2 hq hn h
      go_enter Tryd.func18, Tryd.ntmps18
      go_wp2_with (first
        | (go_at_call 58; refine (HC.out _ (by repeat (first | exact Below.refl _ _ | apply below_alloc))).mono ?_; rintro e w1 ⟨rfl, rfl⟩)
        | (go_at_call 60; refine HW.out.mono ?_; rintro e w3 ⟨rfl, es3, HS3⟩; have hbb := blk1_cell HS3.out.1.bb; have hbn := blk1_cell HS3.out.1.bn; have hbk := blk1_cell HS3.out.1.bk; have hbf := blk_frozen HS3.out.1.bb 0))
      have hbl := box_load HS3.out.1.bb (.slice (some ⟨w.heap.size + 1 + 1, 0, none⟩) l.length l.length)
      refine bodyPost_ret (v := .tuple #[.slice (some ⟨w.heap.size + 1 + 1, 0, none⟩) l.length l.length, .int .i64 0]) (by simp [results, Tryd.results18, go_sem, hbl]) rfl ⟨.slice (some ⟨w.heap.size + 1 + 1, 0, none⟩) l.length l.length, ?_, ?_, ?_⟩
      · rw [E2.out]
      · rw [E2.out, ← endsAll_of l es3 HS3.out.1.len (by simpa using HS3.out.2)]
        exact own_block_ints _ _ _ _ _ (blk_far HS3.out.1.be_ (by simp) _) (by omega) HS3.out.1.len HL.out
      · exact HS3.out.1.below.setCell (p := ⟨w.heap.size + 1, 0, none⟩) (by simp) _
    · have HW := Aside0.mk hw
      have E2 := Aside0.mk (e2.trans (if_neg (by rw [hq]; simpa using hml)))
      clear hw e2 hq hn h
      have hne : (m == l.length) = false := beq_eq_false_iff_ne.mpr hml
      have hneI : ((m : Int) == l.length) = false := beq_eq_false_iff_ne.mpr (by omega)
      have hneB : ((m : Int) != l.length) = true := bne_iff_ne.mpr (by omega)
      go_enter Tryd.func18, Tryd.ntmps18
      go_wp2_with (first
        | (go_at_call 58; refine (HC.out _ (by repeat (first | exact Below.refl _ _ | apply below_alloc))).mono ?_; rintro e w1 ⟨rfl, rfl⟩)
        | (go_at_call 60; refine HW.out.mono ?_; rintro e w3 ⟨rfl, es3, HS3⟩; have hbb := blk1_cell HS3.out.1.bb; have hbn := blk1_cell HS3.out.1.bn; have hbk := blk1_cell HS3.out.1.bk; have hbf := blk_frozen HS3.out.1.bb 0))
      have hbl := box_load HS3.out.1.bb (.slice none 0 0)
      refine bodyPost_ret (v := .tuple #[.slice none 0 0, .int .i64 6]) (by simp [results, Tryd.results18, go_sem, hbl]) rfl ⟨.slice none 0 0, ?_, ?_, ?_⟩
      · rw [E2.out]
      · rw [E2.out]; exact Kd.R_nil _ _ _ _ _
      · exact HS3.out.1.below.setCell (p := ⟨w.heap.size + 1, 0, none⟩) (by simp) _
theorem data_Shape.calls (A0 : Option Addr) (c0 : Nat) (l0 : List Int) (r1 : List Int) (r2 : Int) (w : World) (hr0 : Kd.C (Kd.int .i64) w A0 l0.length l0) (hc0 : l0.length ≤ c0) (h : data_Shape.f l0 = some (r1, r2)) :
    Calls Tryd.prog 18 #[.slice A0 l0.length c0] w fun e w' => ∃ v0_ : Value, e = .returned (.tuple #[v0_, .int .i64 r2]) ∧ Kd.R (Kd.int .i64) 3 w' w.heap.size (fun _ => True) v0_ r1 ∧ Below w.heap.size w w' := by
  have h2 : shapeF l0 = (r1, r2) := Option.some.inj h
  by_cases hl : 2000 < l0.length
  · unfold shapeF at h2
    rw [if_pos hl] at h2
    obtain ⟨rfl, rfl⟩ := Prod.mk.inj h2
    exact (shape_long A0 c0 l0 w hl).mono fun e w' ⟨he, hb⟩ => ⟨_, he, Kd.R_nil _ _ _ _ _, hb⟩
  · cases hn : l0.any (fun x => decide (x < 0)) with
    | true =>
      unfold shapeF at h2
      rw [if_neg hl, if_pos hn] at h2
      obtain ⟨rfl, rfl⟩ := Prod.mk.inj h2
      exact (shape_neg A0 c0 l0 w hl hr0 hn).mono fun e w' ⟨he, hb⟩ => ⟨_, he, Kd.R_nil _ _ _ _ _, hb⟩
    | false =>
      have := shape_walk A0 c0 l0 w hl hc0 hr0 hn
      rwa [h2] at this
end Go.Proofs.YtgmiekggdgmhkaaDoor.Q
end
