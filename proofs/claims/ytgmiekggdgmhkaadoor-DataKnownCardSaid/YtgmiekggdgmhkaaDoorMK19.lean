import Derived.Lib.SliceRun
import Derived.LoopTactic
import Derived.Test.YtgmiekggdgmhkaaDoorMK5
import Derived.Test.YtgmiekggdgmhkaaDoorMK6
section
/- slices.Clone, slices.Concat of nodes. -/
namespace Go.Proofs.YtgmiekggdgmhkaaDoor.Q
open Go.RowKit Go.Proofs.YtgmiekggdgmhkaaDoorW.PrintWords Go.Proofs.YtgmiekggdgmhkaaDoorW.PrintLast Go.Proofs.YtgmiekggdgmhkaaDoorW.PrintMore
set_option linter.unusedVariables false
set_option linter.unusedSimpArgs false
theorem R_made0 (w : World) (base : Nat) (hb : base ≤ w.heap.size) : Kd.R k51 51 (w.alloc (.cells #[] 51)) base (fun _ => True) (.slice (some ⟨w.heap.size, 0, none⟩) 0 0) [] :=
  ⟨fun _ _ => trivial, [], World.ownsRow_made w #[] 0 hb (Nat.zero_le _) rfl, Reps.none _ _⟩
theorem k51_MK (W : World) (base : Nat) (ok : Nat → Prop) (x : S51) (cs : List Value) (h : k51.K W x cs) : k51.M W base ok x cs := by rw [k51_open h]; exact k51_mkM _ _ _ x
set_option maxRecDepth 100000 in
set_option maxHeartbeats 2000000 in
theorem clone_some (ad : Addr) (c : Nat) (l : List S51) (w : World) (hr : Kd.C k51 w (some ad) l.length l) (hl : l.length ≤ 100000) :
    Calls Tryd.prog 66 #[.slice (some ad) l.length c] w fun e w' => ∃ v, e = .returned v ∧ Kd.R k51 51 w' w.heap.size (fun _ => True) v l ∧ Below w.heap.size w w' := by
  have q : ∀ (w : World) (a : Option Addr) (n c n' c' : Nat), (binOp .eql 22 (.slice a n c) (.slice none n' c')).run Tryd.prog w = .ok (.bool a.isNone) w := fun w a n c n' c' => Lib.run_eql_slice_nil w _ _ a n c n' c' Tryd.underlying22
  have HR := Aside0.mk hr
  have HL := Aside0.mk hl
  clear hr hl
  go_enter Tryd.func66, Tryd.ntmps66
  go_wp2_with (at_builtin; refine Kd.R_append_rows k51 (w0 := w) w.heap.size rfl (.tmp 5) (.tmp 6) 22 51 (.agg #[(.int .i64 0), (.int .i64 0), (.int .i64 0), (.string ⟨#[]⟩)]) 40 rfl Tryd.underlying22 info51 rfl (by decide) (by omega) _ [] l _ _ _ (fun _ => True) (fun _ => False) rfl rfl (R_made0 w _ (Nat.le_refl _)) (Kd.C_below HR.out (by repeat (first | exact Below.refl _ _ | apply below_alloc))) (fun x cs h => k51_MK _ _ _ x cs h) (fun _ h => h.elim) (fun _ _ => trivial) (by repeat (first | exact Below.refl _ _ | apply below_alloc)) (by simp) ?len ?_)
  case len => have := HL.out; simp; omega
  intro v1 w1 hR hB hg hat
  have H1 := Aside0.mk hR
  have H2 := Aside0.mk hB
  clear hR hB hg hat
  go_wp2
  go_ret
  exact ⟨v1, rfl, H1.out, H2.out⟩
set_option maxRecDepth 100000 in
set_option maxHeartbeats 2000000 in
theorem clone_nil (n c : Nat) (w : World) :
    Calls Tryd.prog 66 #[.slice none n c] w fun e w' => e = .returned (.slice none 0 0) ∧ w = w' := by
  have q : ∀ (w : World) (a : Option Addr) (n c n' c' : Nat), (binOp .eql 22 (.slice a n c) (.slice none n' c')).run Tryd.prog w = .ok (.bool a.isNone) w := fun w a n c n' c' => Lib.run_eql_slice_nil w _ _ a n c n' c' Tryd.underlying22
  go_enter Tryd.func66, Tryd.ntmps66
  go_wp2
  go_ret
  exact ⟨rfl, rfl⟩
theorem bytes51 : Tryd.t51.bytes = 40 := by kernel_rfl
theorem slicecap0 (n : Nat) (h : 0 < n) : Builtin.nextslicecap n 0 = n := by unfold Builtin.nextslicecap; rw [if_pos (by omega)]
theorem R_grown0 (w : World) (n : Nat) (hn : n ≤ 100000) (cap : Nat) (hc : cap = grownCap w n 0 51) : Kd.R k51 51 (w.alloc (.cells (Builtin.zeroCells #[.int .i64 0, .int .i64 0, .int .i64 0, .string ⟨#[]⟩] n ++ Builtin.zeroCells #[.int .i64 0, .int .i64 0, .int .i64 0, .string ⟨#[]⟩] (cap - n)) 51)).drew w.heap.size (fun _ => True) (.slice (some ⟨w.heap.size, 0, none⟩) 0 cap) [] := by
  have h1 := grownCap_ge w n 0 51
  have h2 := grownCap_le_maxLen w n 0 51 (by unfold maxLen; omega)
  rw [← hc] at h1 h2
  refine Kd.R_drew ⟨fun _ _ => trivial, [], World.ownsRow_made w _ cap (Nat.le_refl _) h2 ?_, Reps.none _ _⟩
  rw [Array.size_append, size_zeroCells, size_zeroCells]
  have e : k51.sz = 4 := rfl
  simp [e]; omega
set_option maxRecDepth 100000 in
set_option maxHeartbeats 2000000 in
theorem grow_any (n : Nat) (w : World) (hn : n ≤ 100000) :
    Calls Tryd.prog 98 #[.slice none 0 0, .int .i64 n] w fun e w' => ∃ v, e = .returned v ∧ Kd.R k51 51 w' w.heap.size (fun _ => True) v [] ∧ Below w.heap.size w w' := by
  go_enter Tryd.func98, Tryd.ntmps98
  go_wp2
  all_goals (try simp only [bytes51] at *)
  all_goals (try rw [slicecap0 n (by omega)] at *)
  all_goals try (exfalso; omega)
  · go_ret
    exact ⟨_, rfl, R_grown0 w n hn _ rfl, (below_drew (below_alloc (Below.refl _ _) _))⟩
  · go_ret
    exact ⟨_, rfl, Kd.R_nil _ _ _ _ _, Below.refl _ _⟩
def rd_LD (xs : List (List S51)) (i : Int) : List S51 := xs.getD i.toNat ([] : List S51)
theorem at_LD {w : World} {A : Option Addr} {n : Nat} {xs : List (List S51)} (h : Kd.C (Kd.slice 51 k51) w A n xs) (i : Int) (h0 : 0 ≤ i) (h1 : i < n) : ∃ ad A0 c0, A = some ad ∧ w.cell? (ad.add i.toNat) = some (.slice A0 (rd_LD xs i).length c0) ∧ (rd_LD xs i).length ≤ c0 ∧ Kd.C k51 w A0 (rd_LD xs i).length (rd_LD xs i) := by
  obtain ⟨ad, c, e, _, hK, hc0⟩ := Kd.C_get h ([] : List S51) i h0 h1
  have hc : ∀ j u, c[j]? = some u → w.cell? (ad.add (i.toNat * 1 + j)) = some u := hc0
  obtain ⟨A0, c0, rfl, l0, g0⟩ := hK
  exact ⟨ad, A0, c0, e, by have hq := hc 0 _ rfl; rwa [Nat.mul_one, Nat.add_zero] at hq, l0, g0⟩
theorem flat_take_succ (l : List (List S51)) (k : Nat) (hk : k < l.length) : (l.take (k + 1)).flatten = (l.take k).flatten ++ rd_LD l k := by
  rw [List.take_succ_eq_append_getElem hk, List.flatten_append]
  simp [rd_LD, List.getD_eq_getElem?_getD, List.getElem?_eq_getElem hk]
theorem flat_take_le (l : List (List S51)) (k : Nat) : (l.take k).flatten.length ≤ l.flatten.length := by
  conv => rhs; rw [← List.take_append_drop k l, List.flatten_append, List.length_append]
  omega
set_option maxRecDepth 100000 in
set_option maxHeartbeats 400000 in
theorem concat_any (A : Option Addr) (c : Nat) (l : List (List S51)) (w : World) (hr : Kd.C (Kd.slice 51 k51) w A l.length l) (hl : l.length ≤ 1000) (hs : l.flatten.length ≤ 100000) :
    Calls Tryd.prog 65 #[.slice A l.length c] w fun e w' => ∃ v, e = .returned v ∧ Kd.R k51 51 w' w.heap.size (fun _ => True) v l.flatten ∧ Below w.heap.size w w' := by
  have HR := Aside0.mk hr
  have HS := Aside0.mk hs
  clear hr hs
  go_enter Tryd.func65, Tryd.ntmps65
  go_wp2
  go_loopw [3, 11] (fun s i wr => ∃ k : Nat, s = .int .i64 ((l.take k).flatten.length : Nat) ∧ i = .int .i64 k ∧ k ≤ l.length ∧ w = wr) (fun _ i _ => l.length - (intOf i).toNat)
  case atStart => exact ⟨0, rfl, rfl, Nat.zero_le _, rfl⟩
  case round =>
    obtain ⟨k, rfl, rfl, hk, rfl⟩ := hrel
    by_cases hlt : k < l.length
    · have hltI : (k : Int) < l.length := by omega
      obtain ⟨ad, A0, c0, rfl, hcell, hc0, hC⟩ := at_LD HR.out k (by omega) hltI
      rw [Int.toNat_natCast] at hcell
      have hsucc := congrArg List.length (flat_take_succ l k hlt)
      rw [List.length_append] at hsucc
      have hle := Nat.le_trans (flat_take_le l (k + 1)) HS.out
      generalize hq : (l.take k).flatten.length = q at *
      generalize hy : (rd_LD l k).length = y at *
      have hqy : q + y ≤ 100000 := by omega
      have HSU := Aside0.mk hsucc
      clear hsucc hC hle
      go_wp2
      exact ⟨⟨k + 1, by rw [← Int.natCast_add, ← HSU.out], by go_num, hlt, trivial⟩, by simp [intOf]; omega⟩
    · have hk2 : k = l.length := by omega
      subst hk2
      rw [List.take_length]
      have hG := grow_any l.flatten.length w HS.out
      generalize hq : l.flatten.length = q at *
      have HG := Aside0.mk hG
      clear hG
      go_wp2_with (go_at_call 98; refine HG.out.mono ?_; rintro e w1 ⟨v0, rfl, hv0, hb0⟩; have HV0 := Aside0.mk hv0; have HB0 := Aside0.mk hb0; clear hv0 hb0)
      clear HG
      have HQ := Aside0.mk hq
      clear hq
      go_loopw [6, 27] (fun v i wr => ∃ k : Nat, i = .int .i64 k ∧ k ≤ l.length ∧ Aside0 (Kd.R k51 51 wr w.heap.size (fun _ => True) v (l.take k).flatten) ∧ Aside0 (Below w.heap.size w wr)) (fun _ i _ => l.length - (intOf i).toNat)
      case atStart => exact ⟨0, rfl, Nat.zero_le _, HV0, HB0⟩
      case round =>
        obtain ⟨k, rfl, hk, HV, HB⟩ := hrel
        by_cases hlt : k < l.length
        · have hltI : (k : Int) < l.length := by omega
          obtain ⟨ad, A0, c0, rfl, hcell, hc0, hC⟩ := at_LD (Kd.C_below HR.out HB.out) k (by omega) hltI
          rw [Int.toNat_natCast] at hcell
          have HCC := Aside0.mk hC
          have hsucc := flat_take_succ l k hlt
          have hle := flat_take_le l (k + 1)
          rw [HQ.out] at hle
          replace hle := Nat.le_trans hle HS.out
          rw [hsucc, List.length_append] at hle
          have HSU := Aside0.mk hsucc
          have HLE := Aside0.mk hle
          clear hsucc hC hle
          generalize hT : (l.take k).flatten = T at *
          generalize hYY : rd_LD l k = Y at *
          go_wp2_with (at_builtin; refine Kd.R_append_rows k51 (w0 := w) w.heap.size rfl (.tmp 31) (.tmp 32) 22 51 (.agg #[(.int .i64 0), (.int .i64 0), (.int .i64 0), (.string ⟨#[]⟩)]) 40 rfl Tryd.underlying22 info51 rfl (by decide) (by omega) _ T Y _ _ _ (fun _ => True) (fun _ => False) rfl rfl HV.out HCC.out (fun x cs h => k51_MK _ _ _ x cs h) (fun _ h => h.elim) (fun _ _ => trivial) HB.out HB.out.size ?len ?_)
          case len => have := HLE.out; omega
          intro v1 w1 hR hB hg hat
          have H1 := Aside0.mk hR
          have H2 := Aside0.mk hB
          clear hR hB hg hat
          go_wp2
          go_roundw
          case rel => exact ⟨k + 1, by go_num, hlt, ⟨by rw [HSU.out]; exact H1.out⟩, H2⟩
          case measure => simp [intOf]; omega
        · have hk2 : k = l.length := by omega
          subst hk2
          have HV1 : Aside0 (Kd.R k51 51 wr w.heap.size (fun _ => True) u6 l.flatten) := ⟨by have := HV.out; rwa [List.take_length] at this⟩
          clear HV
          go_wp2
          go_ret
          exact ⟨_, rfl, HV1.out, HB.out⟩
/-- slices.Clone of nodes -/
def api_DtNode.f (l0 : List (S51)) : Option ((List (S51))) := if l0.length ≤ 100000 then some l0 else none
theorem api_DtNode.calls (A0 : Option Addr) (c0 : Nat) (l0 : List (S51)) (r : List (S51)) (w : World) (hr0 : Kd.C k51 w A0 l0.length l0) (hc0 : l0.length ≤ c0) (h : api_DtNode.f l0 = some r) :
    Calls Tryd.prog 66 #[.slice A0 l0.length c0] w fun e w' => ∃ v0_ : Value, e = .returned (v0_) ∧ Kd.R k51 51 w' w.heap.size (fun _ => True) v0_ r ∧ Below w.heap.size w w' := by
  unfold api_DtNode.f at h
  by_cases hl : l0.length ≤ 100000
  · rw [if_pos hl] at h
    obtain rfl := Option.some.inj h
    cases A0 with
    | none =>
      have h0 : l0 = [] := by
        by_cases h1 : 0 < l0.length
        · obtain ⟨ad, e, _⟩ := hr0.2.2 h1
          cases e
        · exact List.length_eq_zero_iff.mp (by omega)
      subst h0
      exact (clone_nil _ _ w).mono fun e w' ⟨he, hw⟩ => ⟨_, he, Kd.R_nil _ _ _ _ _, hw ▸ Below.refl _ _⟩
    | some ad => exact clone_some ad c0 l0 w hr0 hl
  · rw [if_neg hl] at h; cases h
end Go.Proofs.YtgmiekggdgmhkaaDoor.Q
end
