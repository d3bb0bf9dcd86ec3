import Derived.Lib.SliceRun
import Derived.LoopTactic
import Derived.Test.YtgmiekggdgmhkaaDoorMO5
import Derived.Test.YtgmiekggdgmhkaaDoorMO6
section
/- slices.Clone, slices.Concat of nodes. -/
namespace Go.Proofs.YtgmiekggdgmhkaaDoor.Q
open Go.RowKit Go.Proofs.YtgmiekggdgmhkaaDoorW.PrintWords Go.Proofs.YtgmiekggdgmhkaaDoorW.PrintLast Go.Proofs.YtgmiekggdgmhkaaDoorW.PrintMore
set_option linter.unusedVariables false
set_option linter.unusedSimpArgs false
theorem k51_MK (W : World) (base : Nat) (ok : Nat → Prop) (x : S51) (cs : List Value) (h : k51.K W x cs) : k51.M W base ok x cs := by rw [k51_open h]; exact k51_mkM _ _ _ x
theorem bytes51 : Tryd.t51.bytes = 40 := by kernel_rfl
theorem slicecap0 (n : Nat) (h : 0 < n) : Builtin.nextslicecap n 0 = n := by unfold Builtin.nextslicecap; rw [if_pos (by omega)]
theorem R_grown0 (w : World) (n : Nat) (hn : n ≤ 100000) (cap : Nat) (hc : cap = grownCap w n 0 51) : Kd.R k51 51 (w.alloc (.cells (Builtin.zeroCells #[.int .i64 0, .int .i64 0, .int .i64 0, .string ⟨#[]⟩] n ++ Builtin.zeroCells #[.int .i64 0, .int .i64 0, .int .i64 0, .string ⟨#[]⟩] (cap - n)) 51)).drew w.heap.size (fun _ => True) (.slice (some ⟨w.heap.size, 0, none⟩) 0 cap) [] := by
  have h1 := grownCap_ge w n 0 51
  have h2 := grownCap_le_maxLen w n 0 51 (by unfold maxLen; omega)
  rw [← hc] at h1 h2
  refine Kd.R_drew ⟨fun _ _ => trivial, [], World.ownsRow_made w _ cap (Nat.le_refl _) h2 ?_, Reps.none _ _⟩
  rw [Array.size_append, size_zeroCells, size_zeroCells]
  have e : k51.sz = 4 := rfl
  simp [e]; omega
set_option maxRecDepth 100000 in
set_option maxHeartbeats 2000000 in
theorem grow_any (n : Nat) (w : World) (hn : n ≤ 100000) :
    Calls Tryd.prog 98 #[.slice none 0 0, .int .i64 n] w fun e w' => ∃ v, e = .returned v ∧ Kd.R k51 51 w' w.heap.size (fun _ => True) v [] ∧ Below w.heap.size w w' := by
  go_enter Tryd.func98, Tryd.ntmps98
  go_wp2
  all_goals (try simp only [bytes51] at *)
  all_goals (try rw [slicecap0 n (by omega)] at *)
  all_goals try (exfalso; omega)
  · go_ret
    exact ⟨_, rfl, R_grown0 w n hn _ rfl, (below_drew (below_alloc (Below.refl _ _) _))⟩
  · go_ret
    exact ⟨_, rfl, Kd.R_nil _ _ _ _ _, Below.refl _ _⟩
theorem flat_take_succ (l : List (List S51)) (k : Nat) (hk : k < l.length) : (l.take (k + 1)).flatten = (l.take k).flatten ++ rd_L3 l k := by
  rw [List.take_succ_eq_append_getElem hk, List.flatten_append]
  simp [rd_L3, List.getD_eq_getElem?_getD, List.getElem?_eq_getElem hk]
theorem flat_take_le (l : List (List S51)) (k : Nat) : (l.take k).flatten.length ≤ l.flatten.length := by
  conv => rhs; rw [← List.take_append_drop k l, List.flatten_append, List.length_append]
  omega
set_option maxRecDepth 100000 in
set_option maxHeartbeats 400000 in
theorem concat_any (A : Option Addr) (c : Nat) (l : List (List S51)) (w : World) (hr : Kd.C (Kd.slice 51 k51) w A l.length l) (hl : l.length ≤ 1000) (hs : l.flatten.length ≤ 100000) :
    Calls Tryd.prog 65 #[.slice A l.length c] w fun e w' => ∃ v, e = .returned v ∧ Kd.R k51 51 w' w.heap.size (fun _ => True) v l.flatten ∧ Below w.heap.size w w' := by
  have HR := Aside0.mk hr
  have HS := Aside0.mk hs
  clear hr hs
  go_enter Tryd.func65, Tryd.ntmps65
  go_wp2
  go_loopw [3, 11] (fun s i wr => ∃ k : Nat, s = .int .i64 ((l.take k).flatten.length : Nat) ∧ i = .int .i64 k ∧ k ≤ l.length ∧ w = wr) (fun _ i _ => l.length - (intOf i).toNat)
  case atStart => exact ⟨0, rfl, rfl, Nat.zero_le _, rfl⟩
  case round =>
    obtain ⟨k, rfl, rfl, hk, rfl⟩ := hrel
    by_cases hlt : k < l.length
    · have hltI : (k : Int) < l.length := by omega
      obtain ⟨ad, A0, c0, rfl, hcell, hc0, hC⟩ := at_L3 HR.out k (by omega) hltI
      rw [Int.toNat_natCast] at hcell
      have hsucc := congrArg List.length (flat_take_succ l k hlt)
      rw [List.length_append] at hsucc
      have hle := Nat.le_trans (flat_take_le l (k + 1)) HS.out
      generalize hq : (l.take k).flatten.length = q at *
      generalize hy : (rd_L3 l k).length = y at *
      have hqy : q + y ≤ 100000 := by omega
      have HSU := Aside0.mk hsucc
      clear hsucc hC hle
      go_wp2
      exact ⟨⟨k + 1, by rw [← Int.natCast_add, ← HSU.out], by go_num, hlt, trivial⟩, by simp [intOf]; omega⟩
    · have hk2 : k = l.length := by omega
      subst hk2
      rw [List.take_length]
      have hG := grow_any l.flatten.length w HS.out
      generalize hq : l.flatten.length = q at *
      have HG := Aside0.mk hG
      clear hG
      go_wp2_with (go_at_call 98; refine HG.out.mono ?_; rintro e w1 ⟨v0, rfl, hv0, hb0⟩; have HV0 := Aside0.mk hv0; have HB0 := Aside0.mk hb0; clear hv0 hb0)
      clear HG
      have HQ := Aside0.mk hq
      clear hq
      go_loopw [6, 27] (fun v i wr => ∃ k : Nat, i = .int .i64 k ∧ k ≤ l.length ∧ Aside0 (Kd.R k51 51 wr w.heap.size (fun _ => True) v (l.take k).flatten) ∧ Aside0 (Below w.heap.size w wr)) (fun _ i _ => l.length - (intOf i).toNat)
      case atStart => exact ⟨0, rfl, Nat.zero_le _, HV0, HB0⟩
      case round =>
        obtain ⟨k, rfl, hk, HV, HB⟩ := hrel
        by_cases hlt : k < l.length
        · have hltI : (k : Int) < l.length := by omega
          obtain ⟨ad, A0, c0, rfl, hcell, hc0, hC⟩ := at_L3 (Kd.C_below HR.out HB.out) k (by omega) hltI
          rw [Int.toNat_natCast] at hcell
          have HCC := Aside0.mk hC
          have hsucc := flat_take_succ l k hlt
          have hle := flat_take_le l (k + 1)
          rw [HQ.out] at hle
          replace hle := Nat.le_trans hle HS.out
          rw [hsucc, List.length_append] at hle
          have HSU := Aside0.mk hsucc
          have HLE := Aside0.mk hle
          clear hsucc hC hle
          generalize hT : (l.take k).flatten = T at *
          generalize hYY : rd_L3 l k = Y at *
          go_wp2_with (at_builtin; refine Kd.R_append_rows k51 (w0 := w) w.heap.size rfl (.tmp 31) (.tmp 32) 22 51 (.agg #[(.int .i64 0), (.int .i64 0), (.int .i64 0), (.string ⟨#[]⟩)]) 40 rfl Tryd.underlying22 info51 rfl (by decide) (by omega) _ T Y _ _ _ (fun _ => True) (fun _ => False) rfl rfl HV.out HCC.out (fun x cs h => k51_MK _ _ _ x cs h) (fun _ h => h.elim) (fun _ _ => trivial) HB.out HB.out.size ?len ?_)
          case len => have := HLE.out; omega
          intro v1 w1 hR hB hg hat
          have H1 := Aside0.mk hR
          have H2 := Aside0.mk hB
          clear hR hB hg hat
          go_wp2
          go_roundw
          case rel => exact ⟨k + 1, by go_num, hlt, ⟨by rw [HSU.out]; exact H1.out⟩, H2⟩
          case measure => simp [intOf]; omega
        · have hk2 : k = l.length := by omega
          subst hk2
          have HV1 : Aside0 (Kd.R k51 51 wr w.heap.size (fun _ => True) u6 l.flatten) := ⟨by have := HV.out; rwa [List.take_length] at this⟩
          clear HV
          go_wp2
          go_ret
          exact ⟨_, rfl, HV1.out, HB.out⟩
end Go.Proofs.YtgmiekggdgmhkaaDoor.Q
end
