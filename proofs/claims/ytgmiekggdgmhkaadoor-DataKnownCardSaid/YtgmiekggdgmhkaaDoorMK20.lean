import Derived.Test.YtgmiekggdgmhkaaDoorMK13
import Derived.Test.YtgmiekggdgmhkaaDoorMK15
import Derived.Test.YtgmiekggdgmhkaaDoorMK19
import Derived.Test.YtgmiekggdgmhkaaDoorMK5
section
/- Strings of a slice: place, whether all are symbols, Concat. -/
namespace Go.Proofs.YtgmiekggdgmhkaaDoor.Q
open Go.RowKit Go.Proofs.YtgmiekggdgmhkaaDoorW.PrintWords Go.Proofs.YtgmiekggdgmhkaaDoorW.PrintLast Go.Proofs.YtgmiekggdgmhkaaDoorW.PrintMore
set_option linter.unusedVariables false
set_option linter.unusedSimpArgs false
def strAt (l : List ByteArray) (i : Nat) : ByteArray := rdOf ByteArray.empty l i
theorem strAt_eq (l : List ByteArray) (i : Nat) (h : i < l.length) : strAt l i = l[i] := by
  simp [strAt, rdOf, List.getD_eq_getElem?_getD, h]
theorem at_str {w : World} {A : Option Addr} {n : Nat} {xs : List ByteArray} (h : Kd.C Kd.string w A n xs) (i : Nat) (h1 : (i : Int) < n) : ∃ ad, A = some ad ∧ w.cell? (ad.add i) = some (.string (strAt xs i)) := by
  obtain ⟨ad, c, e, _, hK, hc0⟩ := Kd.C_get h ByteArray.empty i (by omega) h1
  have hc : ∀ j u, c[j]? = some u → w.cell? (ad.add ((i : Int).toNat * 1 + j)) = some u := hc0
  have hK' : c = [.string (xs.getD (i : Int).toNat ByteArray.empty)] := hK
  subst hK'
  exact ⟨ad, e, by have hq := hc 0 _ rfl; rw [Nat.mul_one, Nat.add_zero, Int.toNat_natCast] at hq; exact hq⟩
/-! ### place -/
/-- where a string stands in a list, from number i on -/
def placeGo (x : ByteArray) : List ByteArray → Int → Int
  | [], _ => -1
  | y :: l, i => if x = y then i else placeGo x l (i + 1)
def placeI (l : List ByteArray) (x : ByteArray) : Int := placeGo x l 0
theorem toList_inj {a b : ByteArray} : a.toList = b.toList ↔ a = b := by
  constructor
  · intro h
    rw [ByteArray.toList_eq, ByteArray.toList_eq] at h
    cases a; cases b
    simpa using h
  · intro h; rw [h]
theorem place_l0 (l : List ByteArray) (x : ByteArray) (hl : l.length ≤ 100000) : ∀ r pre : List ByteArray, l = pre ++ r → Ev (fun k => U.data_place_string.l0 k x l (l.length : Int) (pre.length : Nat)) (placeGo x r (pre.length : Nat))
  | [], pre, e => by
    refine Ev.step (f := fun _ => some (-1)) (fun k => ?_) (Ev.now _)
    simp only [U.data_place_string.l0]
    exact if_neg (by rw [e]; simp)
  | y :: r, pre, e => by
    have h1 : pre.length < l.length := by rw [e]; simp
    have hy : rdOf ByteArray.empty l (pre.length : Nat) = y := by rw [e]; simp [rdOf]
    have hw : wrap64 ((pre.length : Nat) + 1) = ((pre ++ [y]).length : Nat) := by
      have e1 : ((pre ++ [y]).length : Int) = (pre.length : Int) + 1 := by simp
      have e2 : -9223372036854775808 ≤ (pre.length : Int) + 1 ∧ (pre.length : Int) + 1 ≤ 9223372036854775807 := by omega
      rw [e1]; unfold wrap64; omega
    have hst : ∀ k, U.data_place_string.l0 (k + 1) x l (l.length : Int) (pre.length : Nat) = if x.toList = y.toList then some ((pre.length : Nat) : Int) else U.data_place_string.l0 k x l (l.length : Int) ((pre ++ [y]).length : Nat) := fun k => by
      simp only [U.data_place_string.l0]
      rw [if_pos (by clear hw; omega), if_pos (by clear hw; omega), if_pos (by clear hw; omega), hy, hw]
    simp only [placeGo]
    by_cases h : x = y
    · rw [if_pos h]
      exact Ev.step (f := fun _ => some ((pre.length : Nat) : Int)) (fun k => by rw [hst, if_pos (toList_inj.mpr h)]) (Ev.now _)
    · rw [if_neg h]
      have := place_l0 l x hl r (pre ++ [y]) (by simp [e])
      have e1 : ((pre ++ [y]).length : Int) = (pre.length : Int) + 1 := by simp
      rw [← e1]
      exact Ev.step (fun k => by rw [hst, if_neg (fun hh => h (toList_inj.mp hh))]) this
theorem place_any (A : Option Addr) (c : Nat) (l : List ByteArray) (x : ByteArray) (w : World) (hr : Kd.C Kd.string w A l.length l) (hc : l.length ≤ c) (hl : l.length ≤ 100000) :
    Calls Tryd.prog 80 #[.slice A l.length c, .string x] w fun e w' => e = .returned (.int .i64 (placeI l x)) ∧ Drawn0 w w' := by
  obtain ⟨k, hk⟩ := (place_l0 l x hl l [] rfl).rounds
  exact U.data_place_string.calls k A c l x _ w hr hc hk
theorem placeGo_range (x : ByteArray) : ∀ (l : List ByteArray) (i : Int), placeGo x l i = -1 ∨ (i ≤ placeGo x l i ∧ placeGo x l i < i + l.length ∧ l[(placeGo x l i - i).toNat]? = some x)
  | [], i => Or.inl rfl
  | y :: l, i => by
    unfold placeGo
    by_cases h : x = y
    · rw [if_pos h]
      exact Or.inr ⟨Int.le_refl _, by simp; omega, by simp [h]⟩
    · rw [if_neg h]
      rcases placeGo_range x l (i + 1) with e | ⟨a, b, c⟩
      · exact Or.inl e
      · refine Or.inr ⟨by omega, by simp; omega, ?_⟩
        have e : (placeGo x l (i + 1) - i).toNat = (placeGo x l (i + 1) - (i + 1)).toNat + 1 := by omega
        rw [e, List.getElem?_cons_succ]; exact c
theorem placeI_lt (l : List ByteArray) (x : ByteArray) : placeI l x < l.length := by
  rcases placeGo_range x l 0 with e | ⟨_, b, _⟩
  · unfold placeI; omega
  · unfold placeI; omega
/-! ### whether all are symbols -/
theorem sym_cl (s : ByteArray) (w : World) (hG : G0 w) : Calls Tryd.prog 16 #[.string s] w fun e w' => e = .returned (.bool (symB s)) ∧ Below w.heap.size w w' := data_Symbol.calls s _ w hG rfl
theorem nsym_any (s : ByteArray) (w : World) (hG : G0 w) : Calls Tryd.prog 79 #[.string s] w fun e w' => e = .returned (.bool (!symB s)) ∧ Below w.heap.size w w' := by
  have hc := sym_cl s w hG
  generalize symB s = b at *
  have HC := Aside0.mk hc
  clear hc hG
  go_enter Tryd.func79, Tryd.ntmps79
  go_wp2_with (go_at_call 16; refine HC.out.mono ?_; rintro e w1 ⟨rfl, hb1⟩)
  go_ret
  exact ⟨rfl, hb1⟩
def badB (l : List ByteArray) : Bool := l.any fun s => !symB s
theorem badB_take_succ (l : List ByteArray) (k : Nat) (hk : k < l.length) (h : badB (l.take k) = false) : badB (l.take (k + 1)) = !symB (strAt l k) := by
  unfold badB at *
  rw [List.take_succ_eq_append_getElem hk, List.any_append, h, strAt_eq l k hk]
  simp
theorem badB_of_take (l : List ByteArray) (k : Nat) (h : badB (l.take k) = true) : badB l = true := by
  unfold badB at *
  rw [← List.take_append_drop k l, List.any_append, h]; rfl
set_option maxRecDepth 100000 in
set_option maxHeartbeats 2000000 in
theorem idx_str (A : Option Addr) (c : Nat) (l : List ByteArray) (w : World) (hr : Kd.C Kd.string w A l.length l) (hG : G0 w) :
    Calls Tryd.prog 106 #[.slice A l.length c, .func (.func 79) #[] #[]] w fun e w' => (∃ q : Int, e = .returned (.int .i64 q) ∧ decide (0 ≤ q) = badB l) ∧ Below w.heap.size w w' := by
  have HRD := Aside0.mk hr
  have HG := Aside0.mk hG
  have hmax := hr.2.1
  clear hr hG
  go_enter Tryd.func106, Tryd.ntmps106
  go_wp2
  go_loopw [8] (fun i wr => ∃ k : Nat, i = .int .i64 k ∧ k ≤ l.length ∧ Aside0 (badB (l.take k) = false) ∧ Aside0 (Below w.heap.size w wr)) (fun i _ => l.length - (intOf i).toNat)
  case atStart => exact ⟨0, rfl, Nat.zero_le _, ⟨rfl⟩, ⟨Below.refl _ _⟩⟩
  case round =>
    obtain ⟨k, rfl, hk, HS, HB⟩ := hrel
    by_cases hlt : k < l.length
    · have hltI : (k : Int) < l.length := by omega
      obtain ⟨ad, rfl, hcell⟩ := at_str (Kd.C_below HRD.out HB.out) k hltI
      have hsucc := badB_take_succ l k hlt HS.out
      have hcl := nsym_any (strAt l k) wr (G0_keep HG.out HB.out)
      generalize strAt l k = x at *
      cases hb : symB x with
      | false =>
        rw [hb] at hsucc hcl
        have hall := badB_of_take l (k + 1) hsucc
        have HQ := Aside0.mk hcl
        have HA := Aside0.mk hall
        clear hsucc hb hall hcl
        go_wp2_with (go_at_call 79; refine HQ.out.mono ?_; rintro e w1 ⟨rfl, hb1⟩; have HB1 := Aside0.mk hb1; clear hb1)
        go_ret
        exact ⟨⟨k, rfl, by rw [HA.out]; exact decide_eq_true (by omega)⟩, below_step HB.out HB1.out⟩
      | true =>
        rw [hb] at hsucc hcl
        have HQ := Aside0.mk hcl
        have HA := Aside0.mk hsucc
        clear hsucc hb hcl
        go_wp2_with (go_at_call 79; refine HQ.out.mono ?_; rintro e w1 ⟨rfl, hb1⟩; have HB1 := Aside0.mk hb1; clear hb1)
        go_roundw
        case rel => exact ⟨k + 1, by go_num, hlt, HA, ⟨below_step HB.out HB1.out⟩⟩
        case measure => simp [intOf]; omega
    · have hk2 : k = l.length := by omega
      have hall : badB l = false := by have := HS.out; rwa [hk2, List.take_length] at this
      have HA := Aside0.mk hall
      clear hall hk2
      go_wp2
      go_ret
      exact ⟨⟨-1, rfl, by rw [HA.out]; rfl⟩, HB.out⟩
set_option maxRecDepth 100000 in
set_option maxHeartbeats 2000000 in
theorem has_str (A : Option Addr) (c : Nat) (l : List ByteArray) (w : World) (hr : Kd.C Kd.string w A l.length l) (hG : G0 w) :
    Calls Tryd.prog 77 #[.slice A l.length c, .func (.func 79) #[] #[]] w fun e w' => e = .returned (.bool (badB l)) ∧ Below w.heap.size w w' := by
  have HI := Aside0.mk (idx_str A c l w hr hG)
  clear hr hG
  go_enter Tryd.func77, Tryd.ntmps77
  go_wp2_with (go_at_call 106; refine HI.out.mono ?_; rintro e w1 ⟨⟨q, rfl, hq⟩, hb1⟩; have HQ := Aside0.mk hq; clear hq)
  go_ret
  exact ⟨by rw [← HQ.out]; rfl, hb1⟩
end Go.Proofs.YtgmiekggdgmhkaaDoor.Q
end
section
/- slices.Concat of strings. -/
namespace Go.Proofs.YtgmiekggdgmhkaaDoor.Q
open Go.RowKit Go.Proofs.YtgmiekggdgmhkaaDoorW.PrintWords Go.Proofs.YtgmiekggdgmhkaaDoorW.PrintLast Go.Proofs.YtgmiekggdgmhkaaDoorW.PrintMore
set_option linter.unusedVariables false
set_option linter.unusedSimpArgs false
theorem info9'' : (Tryd.prog.info? 9).map (fun i => (i.zero, i.size, i.bytes)) = some (some (.string ⟨#[]⟩), 1, 16) := by kernel_rfl
def rd_Ls (xs : List (List ByteArray)) (i : Int) : List ByteArray := xs.getD i.toNat ([] : List ByteArray)
theorem at_Ls {w : World} {A : Option Addr} {n : Nat} {xs : List (List ByteArray)} (h : Kd.C (Kd.slice 9 Kd.string) w A n xs) (i : Int) (h0 : 0 ≤ i) (h1 : i < n) : ∃ ad A0 c0, A = some ad ∧ w.cell? (ad.add i.toNat) = some (.slice A0 (rd_Ls xs i).length c0) ∧ (rd_Ls xs i).length ≤ c0 ∧ Kd.C Kd.string w A0 (rd_Ls xs i).length (rd_Ls xs i) := by
  obtain ⟨ad, c, e, _, hK, hc0⟩ := Kd.C_get h ([] : List ByteArray) i h0 h1
  have hc : ∀ j u, c[j]? = some u → w.cell? (ad.add (i.toNat * 1 + j)) = some u := hc0
  obtain ⟨A0, c0, rfl, l0, g0⟩ := hK
  exact ⟨ad, A0, c0, e, by have hq := hc 0 _ rfl; rwa [Nat.mul_one, Nat.add_zero] at hq, l0, g0⟩
theorem bytes9s : Tryd.t9.bytes = 16 := by kernel_rfl
theorem R_grown0s (w : World) (n : Nat) (hn : n ≤ 100000) (cap : Nat) (hc : cap = grownCap w n 0 9) : Kd.R Kd.string 9 (w.alloc (.cells (Builtin.zeroCells #[.string ⟨#[]⟩] n ++ Builtin.zeroCells #[.string ⟨#[]⟩] (cap - n)) 9)).drew w.heap.size (fun _ => True) (.slice (some ⟨w.heap.size, 0, none⟩) 0 cap) [] := by
  have h1 := grownCap_ge w n 0 9
  have h2 := grownCap_le_maxLen w n 0 9 (by unfold maxLen; omega)
  rw [← hc] at h1 h2
  refine Kd.R_drew ⟨fun _ _ => trivial, [], World.ownsRow_made w _ cap (Nat.le_refl _) h2 ?_, Reps.none _ _⟩
  rw [Array.size_append, size_zeroCells, size_zeroCells]
  have e : (Kd.string).sz = 1 := rfl
  simp [e]; omega
set_option maxRecDepth 100000 in
set_option maxHeartbeats 2000000 in
theorem grow_str (n : Nat) (w : World) (hn : n ≤ 100000) :
    Calls Tryd.prog 107 #[.slice none 0 0, .int .i64 n] w fun e w' => ∃ v, e = .returned v ∧ Kd.R Kd.string 9 w' w.heap.size (fun _ => True) v [] ∧ Below w.heap.size w w' := by
  go_enter Tryd.func107, Tryd.ntmps107
  go_wp2
  all_goals (try simp only [bytes9s] at *)
  all_goals (try rw [slicecap0 n (by omega)] at *)
  all_goals try (exfalso; omega)
  · go_ret
    exact ⟨_, rfl, R_grown0s w n hn _ rfl, (below_drew (below_alloc (Below.refl _ _) _))⟩
  · go_ret
    exact ⟨_, rfl, Kd.R_nil _ _ _ _ _, Below.refl _ _⟩
theorem flat_take_succ_s (l : List (List ByteArray)) (k : Nat) (hk : k < l.length) : (l.take (k + 1)).flatten = (l.take k).flatten ++ rd_Ls l k := by
  rw [List.take_succ_eq_append_getElem hk, List.flatten_append]
  simp [rd_Ls, List.getD_eq_getElem?_getD, List.getElem?_eq_getElem hk]
theorem flat_take_le_s (l : List (List ByteArray)) (k : Nat) : (l.take k).flatten.length ≤ l.flatten.length := by
  conv => rhs; rw [← List.take_append_drop k l, List.flatten_append, List.length_append]
  omega
set_option maxRecDepth 100000 in
set_option maxHeartbeats 400000 in
theorem concat_str (A : Option Addr) (c : Nat) (l : List (List ByteArray)) (w : World) (hr : Kd.C (Kd.slice 9 Kd.string) w A l.length l) (hl : l.length ≤ 1000) (hs : l.flatten.length ≤ 100000) :
    Calls Tryd.prog 78 #[.slice A l.length c] w fun e w' => ∃ v, e = .returned v ∧ Kd.R Kd.string 9 w' w.heap.size (fun _ => True) v l.flatten ∧ Below w.heap.size w w' := by
  have HR := Aside0.mk hr
  have HS := Aside0.mk hs
  clear hr hs
  go_enter Tryd.func78, Tryd.ntmps78
  go_wp2
  go_loopw [3, 11] (fun s i wr => ∃ k : Nat, s = .int .i64 ((l.take k).flatten.length : Nat) ∧ i = .int .i64 k ∧ k ≤ l.length ∧ w = wr) (fun _ i _ => l.length - (intOf i).toNat)
  case atStart => exact ⟨0, rfl, rfl, Nat.zero_le _, rfl⟩
  case round =>
    obtain ⟨k, rfl, rfl, hk, rfl⟩ := hrel
    by_cases hlt : k < l.length
    · have hltI : (k : Int) < l.length := by omega
      obtain ⟨ad, A0, c0, rfl, hcell, hc0, hC⟩ := at_Ls HR.out k (by omega) hltI
      rw [Int.toNat_natCast] at hcell
      have hsucc := congrArg List.length (flat_take_succ_s l k hlt)
      rw [List.length_append] at hsucc
      have hle := Nat.le_trans (flat_take_le_s l (k + 1)) HS.out
      generalize hq : (l.take k).flatten.length = q at *
      generalize hy : (rd_Ls l k).length = y at *
      have hqy : q + y ≤ 100000 := by omega
      have HSU := Aside0.mk hsucc
      clear hsucc hC hle
      go_wp2
      exact ⟨⟨k + 1, by rw [← Int.natCast_add, ← HSU.out], by go_num, hlt, trivial⟩, by simp [intOf]; omega⟩
    · have hk2 : k = l.length := by omega
      subst hk2
      rw [List.take_length]
      have hG := grow_str l.flatten.length w HS.out
      generalize hq : l.flatten.length = q at *
      have HG := Aside0.mk hG
      clear hG
      go_wp2_with (go_at_call 107; refine HG.out.mono ?_; rintro e w1 ⟨v0, rfl, hv0, hb0⟩; have HV0 := Aside0.mk hv0; have HB0 := Aside0.mk hb0; clear hv0 hb0)
      clear HG
      have HQ := Aside0.mk hq
      clear hq
      go_loopw [6, 27] (fun v i wr => ∃ k : Nat, i = .int .i64 k ∧ k ≤ l.length ∧ Aside0 (Kd.R Kd.string 9 wr w.heap.size (fun _ => True) v (l.take k).flatten) ∧ Aside0 (Below w.heap.size w wr)) (fun _ i _ => l.length - (intOf i).toNat)
      case atStart => exact ⟨0, rfl, Nat.zero_le _, HV0, HB0⟩
      case round =>
        obtain ⟨k, rfl, hk, HV, HB⟩ := hrel
        by_cases hlt : k < l.length
        · have hltI : (k : Int) < l.length := by omega
          obtain ⟨ad, A0, c0, rfl, hcell, hc0, hC⟩ := at_Ls (Kd.C_below HR.out HB.out) k (by omega) hltI
          rw [Int.toNat_natCast] at hcell
          have HCC := Aside0.mk hC
          have hsucc := flat_take_succ_s l k hlt
          have hle := flat_take_le_s l (k + 1)
          rw [HQ.out] at hle
          replace hle := Nat.le_trans hle HS.out
          rw [hsucc, List.length_append] at hle
          have HSU := Aside0.mk hsucc
          have HLE := Aside0.mk hle
          clear hsucc hC hle
          generalize hT : (l.take k).flatten = T at *
          generalize hYY : rd_Ls l k = Y at *
          go_wp2_with (at_builtin; refine Kd.R_append_rows Kd.string (w0 := w) w.heap.size rfl (.tmp 31) (.tmp 32) 53 9 (.string ⟨#[]⟩) 16 rfl Tryd.underlying53 info9'' rfl (by decide) (by omega) _ T Y _ _ _ (fun _ => True) (fun _ => False) rfl rfl HV.out HCC.out (fun x cs h => (h : _)) (fun _ h => h.elim) (fun _ _ => trivial) HB.out HB.out.size ?len ?_)
          case len => have := HLE.out; omega
          intro v1 w1 hR hB hg hat
          have H1 := Aside0.mk hR
          have H2 := Aside0.mk hB
          clear hR hB hg hat
          go_wp2
          go_roundw
          case rel => exact ⟨k + 1, by go_num, hlt, ⟨by rw [HSU.out]; exact H1.out⟩, H2⟩
          case measure => simp [intOf]; omega
        · have hk2 : k = l.length := by omega
          subst hk2
          have HV1 : Aside0 (Kd.R Kd.string 9 wr w.heap.size (fun _ => True) u6 l.flatten) := ⟨by have := HV.out; rwa [List.take_length] at this⟩
          clear HV
          go_wp2
          go_ret
          exact ⟨_, rfl, HV1.out, HB.out⟩
theorem rows2_C (W : World) (b n1 n2 c1 c2 : Nat) (A1 A2 : Option Addr) (l1 l2 : List ByteArray) (hb : W.heap[b]? = some (.cells #[.slice A1 n1 c1, .slice A2 n2 c2] 53 (0, 0)))
    (e1 : l1.length = n1) (e2 : l2.length = n2) (m1 : n1 ≤ c1) (m2 : n2 ≤ c2) (h1 : Kd.C Kd.string W A1 l1.length l1) (h2 : Kd.C Kd.string W A2 l2.length l2) :
    Kd.C (Kd.slice 9 Kd.string) W (some ⟨b, 0, none⟩) 2 [l1, l2] := by
  subst e1 e2
  refine ⟨rfl, by omega, fun _ => ⟨⟨b, 0, none⟩, rfl, fun j p hj => ?_⟩⟩
  match j, hj with
  | 0, hj => obtain rfl := Option.some.inj hj; exact ⟨[.slice A1 l1.length c1], rfl, ⟨A1, c1, rfl, m1, h1⟩, fun k u hk => by
      match k, hk with
      | 0, hk => obtain rfl := Option.some.inj hk; rw [Addr.add_lit, blk_cell hb]; rfl⟩
  | 1, hj => obtain rfl := Option.some.inj hj; exact ⟨[.slice A2 l2.length c2], rfl, ⟨A2, c2, rfl, m2, h2⟩, fun k u hk => by
      match k, hk with
      | 0, hk => obtain rfl := Option.some.inj hk; rw [Addr.add_lit, blk_cell hb]; rfl⟩
end Go.Proofs.YtgmiekggdgmhkaaDoor.Q
end
