import Derived.Lib.SlicesCompact
import Derived.Sort.OwnSorted
import Derived.Test.YtgmiekggdgmhkaaDoorMK15
section
/- data.Symbols of any datum: the walk, over what Sort and Compact answer. -/
namespace Go.Proofs.YtgmiekggdgmhkaaDoor.Q
open Go.RowKit Go.Proofs.YtgmiekggdgmhkaaDoorW.PrintWords Go.Proofs.YtgmiekggdgmhkaaDoorW.PrintLast Go.Proofs.YtgmiekggdgmhkaaDoorW.PrintMore Go.Shelf Go.Sort
set_option linter.unusedVariables false
set_option linter.unusedSimpArgs false
/-- what slices.Sort makes of a row of the call's own -/
def SortSaid : Prop := ∀ (base : Nat) (v : Value) (ss : List (List UInt8)) (W : World), W.ownsRow base 9 1 v ss.length (ss.map encStr) → ss.length ≤ 1000000 →
    Calls Tryd.prog 75 #[v] W fun e w' => e = .returned (.tuple #[]) ∧ w'.ownsRow base 9 1 v ss.length ((ss.mergeSort fun x y => decide (x ≤ y)).map encStr) ∧ Below base W w'
/-- what slices.Compact makes of one -/
def CompactSaid : Prop := ∀ (base : Nat) (v : Value) (ss : List (List UInt8)) (W : World), W.ownsRow base 9 1 v ss.length (ss.map encStr) → ss.length ≤ 1000000 →
    Calls Tryd.prog 76 #[v] W fun e w' => ∃ v', e = .returned v' ∧ w'.ownsRow base 9 1 v' (Lib.compact ss).length ((Lib.compact ss).map encStr) ∧ Below base W w'
/-- the symbols of some nodes -/
def symsOf (l : List S51) : List ByteArray := (l.filter fun x => x.f0 == 3).map (·.f3)
def tidy (l : List ByteArray) : List ByteArray := (Lib.compact ((l.map (·.data.toList)).mergeSort fun x y => decide (x ≤ y))).map fun s => (⟨s.toArray⟩ : ByteArray)
theorem symsOf_take (t : List S51) (k : Nat) (hk : k < t.length) : symsOf (t.take (k + 1)) = symsOf (t.take k) ++ (if (rd_T51 t k).f0 = 3 then [(rd_T51 t k).f3] else []) := by
  have e : rd_T51 t k = t[k] := by simp [rd_T51, List.getD_eq_getElem?_getD, hk]
  rw [List.take_succ_eq_append_getElem hk, e]
  unfold symsOf
  rw [List.filter_append, List.map_append]
  congr 1
  by_cases h : t[k].f0 = 3
  · rw [if_pos h]; simp [h]
  · rw [if_neg h]; simp [h]
theorem symsOf_len (t : List S51) : (symsOf t).length ≤ t.length := by
  unfold symsOf; rw [List.length_map]; exact List.length_filter_le ..
theorem own_str {W : World} {base : Nat} {ok : Nat → Prop} {v : Value} {l : List ByteArray} (h : Kd.R Kd.string 9 W base ok v l) : W.ownsRow base 9 1 v (l.map (·.data.toList)).length ((l.map (·.data.toList)).map encStr) := by
  have := Kd.own_of_R h
  rw [List.length_map, List.map_map]
  have e : (encs Value.string l) = l.map (encStr ∘ fun x => x.data.toList) := by
    unfold encs
    apply List.map_congr_left
    intro x hx
    rfl
  rw [← e]; exact this
theorem str_own {W : World} {base : Nat} {v : Value} {ss : List (List UInt8)} (h : W.ownsRow base 9 1 v ss.length (ss.map encStr)) : Kd.R Kd.string 9 W base (fun _ => True) v (ss.map fun s => (⟨s.toArray⟩ : ByteArray)) := by
  refine Kd.R_of_own (enc := Value.string) ?_ (fun _ _ => trivial)
  rw [List.length_map]
  have e : encs Value.string (ss.map fun s => (⟨s.toArray⟩ : ByteArray)) = ss.map encStr := by
    unfold encs; rw [List.map_map]; rfl
  rw [e]; exact h
theorem info9' : (Tryd.prog.info? 9).map (fun i => (i.zero, i.size, i.bytes)) = some (some (.string ⟨#[]⟩), 1, 16) := by kernel_rfl
set_option maxRecDepth 100000 in
set_option maxHeartbeats 2000000 in
theorem syms_ok (hS : SortSaid) (hC : CompactSaid) (A : Option Addr) (c : Nat) (t : List S51) (w : World) (hr : Kd.C k51 w A t.length t) (hc : t.length ≤ c) (hG : G0 w) (hR : InR t) (hn : (chkF t).2 = 0) :
    Calls Tryd.prog 42 #[.slice A t.length c] w fun e w' => ∃ v, e = .returned (.tuple #[v, .int .i64 0]) ∧ Kd.R Kd.string 9 w' w.heap.size (fun _ => True) v (tidy (symsOf t)) ∧ Below w.heap.size w w' := by
  have hN := chk_cl A c t w hr hc hG hR
  obtain ⟨_, _, _, h400, h00⟩ := chkF_ok t hR hn
  rw [h00] at hN
  have HN := Aside0.mk hN
  have HR := Aside0.mk hr
  have hlen : t.length ≤ 400 := h400
  clear hr hG hR hn hN h00 h400 hc
  go_enter Tryd.func42, Tryd.ntmps42
  go_wp2_with (go_at_call 14; refine HN.out.mono ?_; rintro e w1 ⟨rfl, hb1⟩)
  have HB1 := Aside0.mk hb1
  clear hb1 HN
  go_loopw [6, 19] (fun v i wr => ∃ k : Nat, i = .int .i64 k ∧ k ≤ t.length ∧ Aside0 (Kd.R Kd.string 9 wr w.heap.size (fun _ => True) v (symsOf (t.take k))) ∧ Aside0 (Below w.heap.size w wr)) (fun _ i _ => t.length - (intOf i).toNat)
  case atStart => exact ⟨0, rfl, Nat.zero_le _, ⟨Kd.R_nil _ _ _ _ _⟩, HB1⟩
  case round =>
    obtain ⟨k, rfl, hk, HV, HB⟩ := hrel
    by_cases hlt : k < t.length
    · have hltI : (k : Int) < t.length := by omega
      obtain ⟨ad, rfl, hx0, hx1, hx2, hx3⟩ := at_T51 (Kd.C_below HR.out HB.out) k (by omega) hltI
      rw [Int.toNat_natCast] at hx0 hx1 hx2 hx3
      have hsucc := symsOf_take t k hlt
      have hsl : (symsOf (t.take k)).length ≤ 400 := Nat.le_trans (symsOf_len _) (by simp; omega)
      generalize hT : symsOf (t.take k) = T at *
      generalize rd_T51 t k = x at *
      by_cases h3 : x.f0 = 3
      · rw [if_pos h3] at hsucc
        have h3b : (x.f0 == 3) = true := beq_iff_eq.2 h3
        have HSU := Aside0.mk hsucc
        clear hsucc h3 hT
        go_wp2_with (at_builtin; (refine Kd.R_append Kd.string (w0 := w) w.heap.size rfl (.tmp 26) (.tmp 29) 53 9 (.string ⟨#[]⟩) 16 rfl Tryd.underlying53 info9' rfl (by decide) (by omega) _ T x.f3 [.string x.f3] (fun _ => True) (fun _ => False) rfl (by first | (go_simp; done) | (go_simp; rfl)) rfl (fun _ hk => hk.elim) (fun _ _ => trivial) (Kd.R_alloc HV.out _) (below_alloc HB.out _) (Nat.le_trans HB.out.size (by simp)) ?len ?_))
        case len => omega
        intro v1 w2 hR1 hB1 hg1 hat1
        have H1 := Aside0.mk hR1
        have H2 := Aside0.mk hB1
        clear hR1 hB1 hg1 hat1
        go_wp2
        go_roundw
        case rel => exact ⟨k + 1, by go_num, hlt, ⟨by rw [HSU.out]; exact H1.out⟩, H2⟩
        case measure => simp [intOf]; omega
      · rw [if_neg h3, List.append_nil] at hsucc
        have h3b : (x.f0 == 3) = false := beq_eq_false_iff_ne.2 h3
        have HSU := Aside0.mk hsucc
        clear hsucc h3 hT
        go_wp2
        exact ⟨⟨k + 1, by go_num, hlt, ⟨by rw [HSU.out]; exact Kd.R_alloc HV.out _⟩, ⟨below_alloc HB.out _⟩⟩, by simp [intOf]; omega⟩
    · have hk2 : k = t.length := by omega
      subst hk2
      rw [List.take_length] at HV
      have hl : ((symsOf t).map (·.data.toList)).length ≤ 1000000 := by rw [List.length_map]; have := symsOf_len t; omega
      have hso := hS w.heap.size _ _ wr (own_str HV.out) hl
      have htd : tidy (symsOf t) = (Lib.compact (((symsOf t).map (·.data.toList)).mergeSort fun x y => decide (x ≤ y))).map fun s => (⟨s.toArray⟩ : ByteArray) := rfl
      have hsl : (((symsOf t).map (·.data.toList)).mergeSort fun x y => decide (x ≤ y)).length = ((symsOf t).map (·.data.toList)).length := List.length_mergeSort ..
      rw [← hsl] at hso hl
      generalize ((symsOf t).map (·.data.toList)).mergeSort (fun x y => decide (x ≤ y)) = SS at *
      have HSO := Aside0.mk hso
      have HTD := Aside0.mk htd
      have HL := Aside0.mk hl
      have HCC := Aside0.mk hC
      clear hso htd hl hsl hC hS HV
      go_wp2_with (first
        | (go_at_call 75; refine HSO.out.mono ?_; rintro e w2 ⟨rfl, hr2, hb2⟩; have HR2 := Aside0.mk hr2; have HB2 := Aside0.mk hb2; clear hr2 hb2)
        | (go_at_call 76; refine (HCC.out w.heap.size _ SS _ HR2.out HL.out).mono ?_; rintro e w3 ⟨v3, rfl, hr3, hb3⟩; have HR3 := Aside0.mk hr3; have HB3 := Aside0.mk hb3; clear hr3 hb3))
      go_ret2
      exact ⟨_, rfl, by rw [HTD.out]; exact str_own HR3.out, (HB.out.trans HB2.out).trans HB3.out⟩
set_option maxRecDepth 100000 in
set_option maxHeartbeats 1000000 in
theorem syms_bad (A : Option Addr) (c : Nat) (t : List S51) (w : World) (hr : Kd.C k51 w A t.length t) (hc : t.length ≤ c) (hG : G0 w) (hR : InR t) (h : (chkF t).2 ≠ 0) :
    Calls Tryd.prog 42 #[.slice A t.length c] w fun e w' => e = .returned (.tuple #[.slice none 0 0, .int .i64 (chkF t).2]) ∧ Below w.heap.size w w' := by
  have hcl := chk_cl A c t w hr hc hG hR
  have hne : ((chkF t).2 != 0) = true := bne_iff_ne.mpr h
  generalize (chkF t).2 = q at hcl hne
  generalize (chkF t).1 = p at hcl
  have HC := Aside0.mk hcl
  clear hcl hr hc hG hR h
  go_enter Tryd.func42, Tryd.ntmps42
  go_wp2_with (go_at_call 14; refine HC.out.mono ?_; rintro e w1 ⟨rfl, hb1⟩)
  go_ret2
  exact ⟨rfl, hb1⟩
/-- what Symbols answers -/
def symF (t : List S51) : List ByteArray × Int := if (chkF t).2 ≠ 0 then ([], (chkF t).2) else (tidy (symsOf t), 0)
def data_Symbols.f (l0 : List (S51)) : Option (List ByteArray × Int) := if inR l0 = true then some (symF l0) else none
theorem syms_calls (hS : SortSaid) (hC : CompactSaid) (A0 : Option Addr) (c0 : Nat) (l0 : List (S51)) (r1 : List ByteArray) (r2 : Int) (w : World) (hr0 : Kd.C k51 w A0 l0.length l0) (hc0 : l0.length ≤ c0) (hG : G0 w) (h : data_Symbols.f l0 = some (r1, r2)) :
    Calls Tryd.prog 42 #[.slice A0 l0.length c0] w fun e w' => ∃ v0_ : Value, e = .returned (.tuple #[v0_, .int .i64 r2]) ∧ Kd.R Kd.string 9 w' w.heap.size (fun _ => True) v0_ r1 ∧ Below w.heap.size w w' := by
  unfold data_Symbols.f at h
  by_cases hin : inR l0 = true
  · rw [if_pos hin] at h
    have hR := (inR_iff l0).mp hin
    have h2 : symF l0 = (r1, r2) := Option.some.inj h
    unfold symF at h2
    by_cases e1 : (chkF l0).2 ≠ 0
    · rw [if_pos e1] at h2
      obtain ⟨rfl, rfl⟩ := Prod.mk.inj h2
      exact (syms_bad A0 c0 l0 w hr0 hc0 hG hR e1).mono fun e w' ⟨he, hb⟩ => ⟨_, he, Kd.R_nil _ _ _ _ _, hb⟩
    · rw [if_neg e1] at h2
      obtain ⟨rfl, rfl⟩ := Prod.mk.inj h2
      exact syms_ok hS hC A0 c0 l0 w hr0 hc0 hG hR (Decidable.not_not.mp e1)
  · rw [if_neg hin] at h; cases h
end Go.Proofs.YtgmiekggdgmhkaaDoor.Q
end
