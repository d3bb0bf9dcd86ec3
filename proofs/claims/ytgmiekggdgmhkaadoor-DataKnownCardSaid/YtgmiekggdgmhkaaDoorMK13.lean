import Derived.Lib.Hide
import Derived.Shelf.Strings.IndexAnyAll
import Derived.Shelf.Strings.Prefix
import Derived.Shelf.Strings.SlTrimAscii
import Derived.Test.YtgmiekggdgmhkaaDoorMK1
import Derived.Test.YtgmiekggdgmhkaaDoorMK11
import Derived.Test.YtgmiekggdgmhkaaDoorMK12
import Derived.Test.YtgmiekggdgmhkaaDoorMK5
import Derived.Test.YtgmiekggdgmhkaaDoorMK6
import Derived.Test.YtgmiekggdgmhkaaDoorMK9
section
/- data.Symbol of any string. -/
namespace Go.Proofs.YtgmiekggdgmhkaaDoor.Q
open Go.RowKit Go.Proofs.YtgmiekggdgmhkaaDoorW.PrintWords Go.Proofs.YtgmiekggdgmhkaaDoorW.PrintLast Go.Proofs.YtgmiekggdgmhkaaDoorW.PrintMore
set_option linter.unusedVariables false
set_option linter.unusedSimpArgs false
def digitsB : List UInt8 := [48, 49, 50, 51, 52, 53, 54, 55, 56, 57]
/-- what is left of a string without signs and digits at its head -/
def restB (l : List UInt8) : List UInt8 := Lib.trimLeftS (Lib.trimPrefix (Lib.trimPrefix l [43]) [45]) digitsB
/-- is it an integer, as data.Symbol asks? -/
def intB (l : List UInt8) : Bool := (restB l).isEmpty && (Lib.containsAny l digitsB && !Lib.hasPrefix l [43, 45])
def symCls (r : Int) : Bool := clsOf r == 9 || (clsOf r == 7 || clsOf r == 8)
/-- is it a symbol? -/
def symB (s : ByteArray) : Bool := decide (1 ≤ s.size) && (decide (s.size ≤ 24) && (!intB s.data.toList && (okB (bytesOf s) && (runesOf (bytesOf s)).all symCls)))
set_option maxRecDepth 100000 in
set_option maxHeartbeats 2000000 in
theorem sym_empty (w : World) : Calls Tryd.prog 16 #[.string ⟨#[]⟩] w fun e w' => e = .returned (.bool false) ∧ w = w' := by
  go_enter Tryd.func16, Tryd.ntmps16
  go_wp2
  go_ret
  exact ⟨rfl, rfl⟩
set_option maxRecDepth 100000 in
set_option maxHeartbeats 2000000 in
theorem sym_long (s : ByteArray) (w : World) (h0 : (24 : Int) < s.size) (h1 : s.toList.isEmpty = false) : Calls Tryd.prog 16 #[.string s] w fun e w' => e = .returned (.bool false) ∧ w = w' := by
  have d : decide ((24 : Int) < s.size) = true := decide_eq_true h0
  go_enter Tryd.func16, Tryd.ntmps16
  go_wp2
  go_ret
  exact ⟨rfl, rfl⟩
/-- the calls by which data.Symbol looks for an integer -/
structure Front (s s1 s2 s3 : ByteArray) (b4 b5 : Bool) : Prop where
  c1 : ∀ W, Calls Tryd.prog 50 #[.string s, .string ⟨#[43]⟩] W fun e w' => e = .returned (.string s1) ∧ W = w'
  c2 : ∀ W, Calls Tryd.prog 50 #[.string s1, .string ⟨#[45]⟩] W fun e w' => e = .returned (.string s2) ∧ W = w'
  c3 : ∀ W, Calls Tryd.prog 49 #[.string s2, .string ⟨#[48, 49, 50, 51, 52, 53, 54, 55, 56, 57]⟩] W fun e w' => e = .returned (.string s3) ∧ Below W.heap.size W w'
  c4 : s3.toList.isEmpty = true → ∀ W, Calls Tryd.prog 51 #[.string s, .string ⟨#[48, 49, 50, 51, 52, 53, 54, 55, 56, 57]⟩] W fun e w' => e = .returned (.bool b4) ∧ Below W.heap.size W w'
  c5 : ∀ W, Calls Tryd.prog 52 #[.string s, .string ⟨#[43, 45]⟩] W fun e w' => e = .returned (.bool b5) ∧ W = w'
set_option maxRecDepth 100000 in
set_option maxHeartbeats 4000000 in
theorem sym_int (s s1 s2 s3 : ByteArray) (w : World) (h0 : ¬ (24 : Int) < s.size) (h1 : s.toList.isEmpty = false) (HF : Front s s1 s2 s3 true false) (h3 : s3.toList.isEmpty = true) : Calls Tryd.prog 16 #[.string s] w fun e w' => e = .returned (.bool false) ∧ Below w.heap.size w w' := by
  have d : decide ((24 : Int) < s.size) = false := decide_eq_false h0
  have H3 := Aside0.mk h3
  go_enter Tryd.func16, Tryd.ntmps16
  go_wp2_with (first
    | (go_at_call_of 50 (Value.string s); refine (HF.c1 _).mono ?_; rintro e w1 ⟨rfl, rfl⟩)
    | (go_at_call_of 50 (Value.string s1); refine (HF.c2 _).mono ?_; rintro e w1 ⟨rfl, rfl⟩)
    | (go_at_call 49; refine (HF.c3 _).mono ?_; rintro e w3 ⟨rfl, hb3⟩)
    | (go_at_call 51; refine (HF.c4 H3.out _).mono ?_; rintro e w4 ⟨rfl, hb4⟩)
    | (go_at_call 52; refine (HF.c5 _).mono ?_; rintro e w5 ⟨rfl, rfl⟩))
  go_ret
  exact ⟨rfl, below_then hb3 hb3.size hb4⟩
theorem runesOf_valid (bs : List Int) : ∀ r ∈ runesOf bs, Lib.validRune r = true := fun r hr => by
  simp only [runesOf, List.mem_map] at hr
  obtain ⟨x, hx, rfl⟩ := hr
  exact itemsF_valid _ _ _ x hx
/-- are the runes before k such as symbols are made of? -/
theorem all_take_succ (rs : List Int) (k : Nat) (hk : k < rs.length) : (rs.take (k + 1)).all symCls = ((rs.take k).all symCls && symCls (rd rs k)) := by
  rw [List.take_succ_eq_append_getElem hk, List.all_append]
  simp [rd, List.getD_eq_getElem?_getD, List.getElem?_eq_getElem hk]
theorem all_false_of_take (rs : List Int) (k : Nat) (h : (rs.take k).all symCls = false) : rs.all symCls = false := by
  rw [← List.take_append_drop k rs, List.all_append, h]; rfl
theorem sym_run (s : ByteArray) (w : World) (hsz : s.size ≤ 24) (hG : G0 w) (W : World) (hW : Below w.heap.size w W) : Calls Tryd.prog 53 #[.slice (some ⟨W.heap.size, 0, none⟩) s.size (grownCap W s.size 0 5)] (Lib.bytesWorld W 5 s) (RunPost (bytesOf s) (Lib.bytesWorld W 5 s)) := by
  have hR := bytes_reads W 5 s (by omega)
  have := rrun_any (some ⟨W.heap.size, 0, none⟩) (grownCap W s.size 0 5) (bytesOf s) (Lib.bytesWorld W 5 s) (by rw [bytesOf_length]; exact Kd.C_of_reads (d := (0 : Int)) (h1 := fun _ => rfl) hR) (by rw [bytesOf_length]; exact grownCap_ge _ _ _ _) (bytesOf_bytes s) (G0_keep hG (bytes_below hW hW.size _ _))
  rwa [bytesOf_length] at this
set_option maxRecDepth 100000 in
set_option maxHeartbeats 4000000 in
theorem sym_rest_no (s s1 s2 s3 : ByteArray) (b4 b5 : Bool) (w : World) (h0 : ¬ (24 : Int) < s.size) (h1 : s.toList.isEmpty = false) (HF : Front s s1 s2 s3 b4 b5) (h3 : s3.toList.isEmpty = false ∨ (s3.toList.isEmpty = true ∧ b4 = false) ∨ (s3.toList.isEmpty = true ∧ b4 = true ∧ b5 = true)) (hG : G0 w) (hok : okB (bytesOf s) = false) :
    Calls Tryd.prog 16 #[.string s] w fun e w' => e = .returned (.bool false) ∧ Below w.heap.size w w' := by
  have d : decide ((24 : Int) < s.size) = false := decide_eq_false h0
  have hsz : s.size ≤ 24 := by omega
  have hrun : ∀ W : World, Below w.heap.size w W → Calls Tryd.prog 53 #[.slice (some ⟨W.heap.size, 0, none⟩) s.size (grownCap W s.size 0 5)] (Lib.bytesWorld W 5 s) fun e w' => (∃ q : Int, (q != 0) = true ∧ e = .returned (.tuple #[.slice none 0 0, .int .i64 q])) ∧ Below (Lib.bytesWorld W 5 s).heap.size (Lib.bytesWorld W 5 s) w' := fun W hW =>
    (sym_run s w hsz hG W hW).mono fun e w' h => ⟨(h.2.1 hok).elim fun q hq => ⟨q, bne_iff_ne.mpr hq.1, hq.2⟩, h.2.2⟩
  have HRUN := Aside0.mk hrun
  clear hrun hok hG
  have kb := fun W => print_bytes (P := Tryd.prog) 9 71 5 Tryd.underlying9 Tryd.underlying71 Tryd.underlying5 s W
  rcases h3 with h3 | ⟨h3, rfl⟩ | ⟨h3, rfl, rfl⟩
  all_goals
    have H3 := Aside0.mk h3
    have hb3 := Below.refl w.heap.size w
    go_enter Tryd.func16, Tryd.ntmps16
    go_wp2_with (first
      | (go_at_call_of 50 (Value.string s); refine (HF.c1 _).mono ?_; rintro e w1 ⟨rfl, rfl⟩)
      | (go_at_call_of 50 (Value.string s1); refine (HF.c2 _).mono ?_; rintro e w1 ⟨rfl, rfl⟩)
      | (go_at_call 49; refine (HF.c3 _).mono ?_; rintro e w3 ⟨rfl, hb4⟩; replace hb3 := below_then hb3 hb3.size hb4; clear hb4)
      | (go_at_call 51; refine (HF.c4 H3.out _).mono ?_; rintro e w4 ⟨rfl, hb4⟩; replace hb3 := below_then hb3 hb3.size hb4; clear hb4)
      | (go_at_call 52; refine (HF.c5 _).mono ?_; rintro e w5 ⟨rfl, rfl⟩)
      | (go_at_call 53; refine (HRUN.out _ hb3).mono ?_; rintro e w6 ⟨⟨q, hq, rfl⟩, hb6⟩; replace hb3 := below_then (bytes_below hb3 hb3.size _ _) (bytes_below hb3 hb3.size _ _).size hb6; clear hb6))
  all_goals go_ret
  all_goals exact ⟨rfl, hb3⟩
set_option maxRecDepth 100000 in
set_option maxHeartbeats 4000000 in
theorem sym_rest_yes (s s1 s2 s3 : ByteArray) (b4 b5 : Bool) (w : World) (h0 : ¬ (24 : Int) < s.size) (h1 : s.toList.isEmpty = false) (HF : Front s s1 s2 s3 b4 b5) (h3 : s3.toList.isEmpty = false ∨ (s3.toList.isEmpty = true ∧ b4 = false) ∨ (s3.toList.isEmpty = true ∧ b4 = true ∧ b5 = true)) (hG : G0 w) (hok : okB (bytesOf s) = true) :
    Calls Tryd.prog 16 #[.string s] w fun e w' => e = .returned (.bool ((runesOf (bytesOf s)).all symCls)) ∧ Below w.heap.size w w' := by
  have d : decide ((24 : Int) < s.size) = false := decide_eq_false h0
  have hsz : s.size ≤ 24 := by omega
  have hrun : ∀ W : World, Below w.heap.size w W → Calls Tryd.prog 53 #[.slice (some ⟨W.heap.size, 0, none⟩) s.size (grownCap W s.size 0 5)] (Lib.bytesWorld W 5 s) fun e w' => (∃ A c, e = .returned (.tuple #[.slice A (runesOf (bytesOf s)).length c, .int .i64 0]) ∧ ReadsInt w' .i32 A (runesOf (bytesOf s)).length (runesOf (bytesOf s))) ∧ Below (Lib.bytesWorld W 5 s).heap.size (Lib.bytesWorld W 5 s) w' := fun W hW =>
    (sym_run s w hsz hG W hW).mono fun e w' h => ⟨by
      obtain ⟨v, he, hown⟩ := h.1 hok
      obtain ⟨A, c, rfl, hr⟩ := own_reads hown
      exact ⟨A, c, he, hr⟩, h.2.2⟩
  have HRUN := Aside0.mk hrun
  clear hrun hok hG
  have kb := fun W => print_bytes (P := Tryd.prog) 9 71 5 Tryd.underlying9 Tryd.underlying71 Tryd.underlying5 s W
  rcases h3 with h3 | ⟨h3, rfl⟩ | ⟨h3, rfl, rfl⟩
  all_goals
    have H3 := Aside0.mk h3
    have hb3 := Below.refl w.heap.size w
    go_enter Tryd.func16, Tryd.ntmps16
    go_wp2_with (first
      | (go_at_call_of 50 (Value.string s); refine (HF.c1 _).mono ?_; rintro e w1 ⟨rfl, rfl⟩)
      | (go_at_call_of 50 (Value.string s1); refine (HF.c2 _).mono ?_; rintro e w1 ⟨rfl, rfl⟩)
      | (go_at_call 49; refine (HF.c3 _).mono ?_; rintro e w3 ⟨rfl, hb4⟩; replace hb3 := below_then hb3 hb3.size hb4; clear hb4)
      | (go_at_call 51; refine (HF.c4 H3.out _).mono ?_; rintro e w4 ⟨rfl, hb4⟩; replace hb3 := below_then hb3 hb3.size hb4; clear hb4)
      | (go_at_call 52; refine (HF.c5 _).mono ?_; rintro e w5 ⟨rfl, rfl⟩)
      | (go_at_call 53; refine (HRUN.out _ hb3).mono ?_; rintro e w6 ⟨⟨A, c, rfl, hread⟩, hb6⟩; replace hb3 := below_then (bytes_below hb3 hb3.size _ _) (bytes_below hb3 hb3.size _ _).size hb6; clear hb6))
  all_goals
    have hval := runesOf_valid (bytesOf s)
    generalize hrs : runesOf (bytesOf s) = rs at *
    have HRS := Aside0.mk hrs
    clear hrs
    have HV := Aside0.mk hval
    have HRD := Aside0.mk hread
    have hmax := hread.2.1
    have hlen := hread.1
    clear hval hread hlen
    obtain ⟨w7, hw7⟩ : ∃ w7, w7 = w6 := ⟨_, rfl⟩
    go_loopw [42] (fun i wr => ∃ k : Nat, i = .int .i64 k ∧ k ≤ rs.length ∧ Aside0 ((rs.take k).all symCls = true) ∧ Aside0 (Below w6.heap.size w6 wr)) (fun i _ => rs.length - (intOf i).toNat)
    case atStart => exact ⟨0, rfl, Nat.zero_le _, ⟨rfl⟩, ⟨Below.refl _ _⟩⟩
    case round =>
      obtain ⟨k, rfl, hk, HS, HB⟩ := hrel
      by_cases hlt : k < rs.length
      · have hltI : (k : Int) < rs.length := by omega
        obtain ⟨ad, rfl, hcell⟩ := (HRD.out.below HB.out).at_ k (by omega) hltI
        rw [Int.toNat_natCast] at hcell
        have hv : Lib.validRune (rd rs k) = true := HV.out _ (by
          have : rd rs k = rs[k]'hlt := by simp [rd, List.getD_eq_getElem?_getD, List.getElem?_eq_getElem hlt]
          rw [this]; exact List.getElem_mem hlt)
        obtain ⟨cl, hcl⟩ : ∃ cl, clsOf (rd rs k) = cl := ⟨_, rfl⟩
        have hcc : ∀ W, Calls Tryd.prog 54 #[.int .i32 (rd rs k)] W fun e w' => e = .returned (.tuple #[.int .i64 cl, .int .i64 0]) ∧ Below W.heap.size W w' := fun W => by rw [← hcl]; exact class_good _ W hv
        have hsucc := all_take_succ rs k hlt
        rw [HS.out] at hsucc
        by_cases hs : cl = 9 ∨ cl = 7 ∨ cl = 8
        · have hsy : (rs.take (k + 1)).all symCls = true := by
            rw [hsucc]; unfold symCls; rw [hcl]; rcases hs with rfl | rfl | rfl <;> rfl
          have HC := Aside0.mk hcc
          have HSY := Aside0.mk hsy
          clear hcc hsucc hsy hv hcl
          rcases hs with rfl | rfl | rfl
          all_goals
            go_wp2_with (go_at_call 54; refine (HC.out _).mono ?_; rintro e w8 ⟨rfl, hb8⟩)
            go_roundw
            case rel => exact ⟨k + 1, by go_num, hlt, HSY, ⟨below_then HB.out HB.out.size hb8⟩⟩
            case measure => simp [intOf]; omega
        · have hall : rs.all symCls = false := all_false_of_take rs (k + 1) (by
            rw [hsucc]; unfold symCls; rw [hcl, beq_eq_false_iff_ne.mpr (fun e => hs (.inl e)), beq_eq_false_iff_ne.mpr (fun e => hs (.inr (.inl e))), beq_eq_false_iff_ne.mpr (fun e => hs (.inr (.inr e)))]; rfl)
          have n9 : (cl == 9) = false := beq_eq_false_iff_ne.mpr (fun e => hs (.inl e))
          have n7 : (cl == 7) = false := beq_eq_false_iff_ne.mpr (fun e => hs (.inr (.inl e)))
          have n8 : (cl == 8) = false := beq_eq_false_iff_ne.mpr (fun e => hs (.inr (.inr e)))
          have HC := Aside0.mk hcc
          have HA := Aside0.mk hall
          clear hcc hsucc hall hv hcl hs
          go_wp2_with (go_at_call 54; refine (HC.out _).mono ?_; rintro e w8 ⟨rfl, hb8⟩)
          go_ret
          exact ⟨by rw [HRS.out, HA.out]; rfl, below_then hb3 hb3.size (below_then HB.out HB.out.size hb8)⟩
      · have hk2 : k = rs.length := by omega
        have hall : rs.all symCls = true := by have := HS.out; rwa [hk2, List.take_length] at this
        have HA := Aside0.mk hall
        clear hall hk2
        go_wp2
        go_ret
        exact ⟨by rw [HRS.out, HA.out]; rfl, below_then hb3 hb3.size HB.out⟩
/-- data.Symbol of any string -/
def data_Symbol.f (a0 : ByteArray) : Option (Bool) := some (symB a0)
theorem digits_ascii : ∀ (j : Nat) b, (⟨#[48, 49, 50, 51, 52, 53, 54, 55, 56, 57]⟩ : ByteArray).data.toList[j]? = some b → b.toNat < 128 := by
  intro j b h
  have := List.mem_of_getElem? h
  simp at this
  rcases this with rfl | rfl | rfl | rfl | rfl | rfl | rfl | rfl | rfl | rfl <;> decide
theorem infoSet : (Tryd.prog.info? 102).map (fun i => (i.zero, i.size)) = some (some (.agg (Array.replicate 256 (.bool false))), 256) := by kernel_rfl
theorem all_of_dropWhile {α : Type} (p : α → Bool) : ∀ l : List α, l.dropWhile p = [] → ∀ x ∈ l, p x = true
  | [], _, x, hx => by simp at hx
  | y :: l, h, x, hx => by
    rw [List.dropWhile_cons] at h
    cases hp : p y with
    | false => rw [hp] at h; simp at h
    | true =>
      rw [hp] at h
      rcases List.mem_cons.mp hx with rfl | hx
      · exact hp
      · exact all_of_dropWhile p l h x hx
theorem mem_trimPrefix (l : List UInt8) (c x : UInt8) (h : x ∈ l) : x = c ∨ x ∈ Lib.trimPrefix l [c] := by
  unfold Lib.trimPrefix Lib.hasPrefix
  cases l with
  | nil => simp at h
  | cons y l =>
    by_cases e : ([c] : List UInt8).isPrefixOf (y :: l) = true
    · rw [if_pos e]
      simp at e
      rcases List.mem_cons.mp h with rfl | h
      · exact .inl e.symm
      · exact .inr (by simpa using h)
    · rw [if_neg e]; exact .inr h
theorem digitsB_ascii (b : UInt8) (h : digitsB.contains b = true) : b.toNat < 128 := by
  simp [digitsB] at h
  rcases h with rfl | rfl | rfl | rfl | rfl | rfl | rfl | rfl | rfl | rfl <;> decide
theorem restB_ascii (l : List UInt8) (h : restB l = []) : ∀ b ∈ l, b.toNat < 128 := by
  intro b hb
  rcases mem_trimPrefix l 43 b hb with rfl | hb
  · decide
  · rcases mem_trimPrefix _ 45 b hb with rfl | hb
    · decide
    · exact digitsB_ascii b (all_of_dropWhile _ _ h b hb)
theorem ten_small : (⟨#[48, 49, 50, 51, 52, 53, 54, 55, 56, 57]⟩ : ByteArray).size < 4294967281 := by
  have : (⟨#[48, 49, 50, 51, 52, 53, 54, 55, 56, 57]⟩ : ByteArray).size = 10 := rfl
  rw [this]; omega
theorem small24 (n : Nat) (h : ¬ (24 : Int) < n) : n < 4294967281 := by omega
theorem data_Symbol.calls (a0 : ByteArray) (r : Bool) (w : World) (hG : G0 w) (h : data_Symbol.f a0 = some r) :
    Calls Tryd.prog 16 #[.string a0] w fun e w' => e = .returned (.bool r) ∧ Below w.heap.size w w' := by
  obtain rfl := Option.some.inj h
  by_cases h0 : a0.size = 0
  · obtain rfl : a0 = ⟨#[]⟩ := by
      obtain ⟨⟨l⟩⟩ := a0
      cases l
      · rfl
      · simp [ByteArray.size] at h0
    have e : symB ⟨#[]⟩ = false := rfl
    rw [e]
    exact (sym_empty w).mono fun e w' ⟨he, hw⟩ => ⟨he, hw ▸ Below.refl _ _⟩
  · have h1 : a0.toList.isEmpty = false := by
      rw [Lib.toList_data]
      obtain ⟨⟨l⟩⟩ := a0
      cases l
      · simp [ByteArray.size] at h0
      · rfl
    by_cases h2 : (24 : Int) < a0.size
    · have e : symB a0 = false := by unfold symB; rw [decide_eq_false (show ¬ a0.size ≤ 24 by omega)]; simp
      rw [e]
      exact (sym_long a0 w h2 h1).mono fun e w' ⟨he, hw⟩ => ⟨he, hw ▸ Below.refl _ _⟩
    · have e1 : symB a0 = (!intB a0.data.toList && (okB (bytesOf a0) && (runesOf (bytesOf a0)).all symCls)) := by
        unfold symB; rw [decide_eq_true (show 1 ≤ a0.size by omega), decide_eq_true (show a0.size ≤ 24 by omega)]; rfl
      rw [e1]
      have HF : Front a0 ⟨(Lib.trimPrefix a0.data.toList [43]).toArray⟩ ⟨(Lib.trimPrefix (Lib.trimPrefix a0.data.toList [43]) [45]).toArray⟩ ⟨(restB a0.data.toList).toArray⟩ (Lib.containsAny a0.data.toList digitsB) (Lib.hasPrefix a0.data.toList [43, 45]) :=
        { c1 := fun W => (Any.strings_TrimPrefix Tryd.lays101 a0 ⟨#[43]⟩ W).mono fun e w' ⟨he, hw⟩ => ⟨he, hw.symm⟩
          c2 := fun W => (Any.strings_TrimPrefix Tryd.lays101 ⟨(Lib.trimPrefix a0.data.toList [43]).toArray⟩ ⟨#[45]⟩ W).mono fun e w' ⟨he, hw⟩ => ⟨he, hw.symm⟩
          c3 := fun W => Any.strings_TrimLeft_laid Tryd.lays161 infoSet ⟨(Lib.trimPrefix (Lib.trimPrefix a0.data.toList [43]) [45]).toArray⟩ ⟨#[48, 49, 50, 51, 52, 53, 54, 55, 56, 57]⟩ W ten_small digits_ascii
          c4 := fun h W => Any.strings_ContainsAny_laid Tryd.lays150 infoSet a0 ⟨#[48, 49, 50, 51, 52, 53, 54, 55, 56, 57]⟩ W (small24 _ h2) ten_small (fun j b hb => restB_ascii a0.data.toList (by rw [Lib.toList_data] at h; simpa using h) b (List.mem_of_getElem? hb)) digits_ascii
          c5 := fun W => (Any.strings_HasPrefix Tryd.lays99 a0 ⟨#[43, 45]⟩ W).mono fun e w' ⟨he, hw⟩ => ⟨he, hw.symm⟩ }
      have h3e : ((⟨(restB a0.data.toList).toArray⟩ : ByteArray).toList.isEmpty) = (restB a0.data.toList).isEmpty := by rw [Lib.toList_data]
      cases hi : intB a0.data.toList with
      | true =>
        unfold intB at hi
        simp only [Bool.and_eq_true, Bool.not_eq_true'] at hi
        rw [hi.2.1, hi.2.2] at HF
        exact sym_int a0 _ _ _ w h2 h1 HF (by rw [h3e]; exact hi.1)
      | false =>
        have h3 : (⟨(restB a0.data.toList).toArray⟩ : ByteArray).toList.isEmpty = false ∨ ((⟨(restB a0.data.toList).toArray⟩ : ByteArray).toList.isEmpty = true ∧ Lib.containsAny a0.data.toList digitsB = false) ∨ ((⟨(restB a0.data.toList).toArray⟩ : ByteArray).toList.isEmpty = true ∧ Lib.containsAny a0.data.toList digitsB = true ∧ Lib.hasPrefix a0.data.toList [43, 45] = true) := by
          rw [h3e]
          unfold intB at hi
          cases ha : (restB a0.data.toList).isEmpty <;> cases hb : Lib.containsAny a0.data.toList digitsB <;> cases hc : Lib.hasPrefix a0.data.toList [43, 45] <;> simp [ha, hb, hc] at hi ⊢
        cases hok : okB (bytesOf a0) with
        | false => exact sym_rest_no a0 _ _ _ _ _ w h2 h1 HF h3 hG hok
        | true => exact sym_rest_yes a0 _ _ _ _ _ w h2 h1 HF h3 hG hok
end Go.Proofs.YtgmiekggdgmhkaaDoor.Q
end
section
/- data.alone of any node. -/
namespace Go.Proofs.YtgmiekggdgmhkaaDoor.Q
open Go.RowKit Go.Proofs.YtgmiekggdgmhkaaDoorW.PrintWords Go.Proofs.YtgmiekggdgmhkaaDoorW.PrintLast Go.Proofs.YtgmiekggdgmhkaaDoorW.PrintMore
attribute [local go_sem] max2_int min2_int max_two min_two max_three min_three max_four min_four
attribute [local go_sem high] eqA51
set_option linter.unusedVariables false
set_option linter.unusedSimpArgs false
/-- the errors of a node alone -/
def aloneF (k ki n : Int) (s : ByteArray) : Int × Int :=
  if k = 1 then (if ki = 0 ∧ s.size = 0 then 0 else 6, 0)
  else if k = 2 then (if ki = 0 ∧ s.size = 0 then 0 else 6, if n = 0 ∨ n = 1 then 0 else 7)
  else if k = 3 then (if ki = 0 ∧ n = 0 then 0 else 6, if symB s = true then 0 else 6)
  else if k = 4 then (if 0 ≤ ki ∧ n = 0 ∧ s.size = 0 then 0 else 6, 0)
  else (6, 0)
theorem toList_nil (s : ByteArray) : (s.toList == ([] : List UInt8)) = decide (s.size = 0) := by
  rw [Lib.toList_data, Bool.eq_iff_iff]
  simp only [beq_iff_eq, decide_eq_true_eq]
  obtain ⟨⟨l⟩⟩ := s
  cases l <;> simp [ByteArray.size]
set_option maxHeartbeats 2000000 in
set_option maxRecDepth 100000 in
theorem alone1 (a1 a2 : Int) (a3 : ByteArray) (w : World) (b1 b3 : Bool) (h1 : (a1 == 0) = b1) (h3 : (a3.toList == ([] : List UInt8)) = b3) :
    Calls Tryd.prog 46 #[.agg #[.int .i64 1, .int .i64 a1, .int .i64 a2, .string a3]] w fun e w' => e = .returned (.tuple #[.int .i64 (if b1 && b3 then 0 else 6), .int .i64 0]) ∧ Below w.heap.size w w' := by
  have hu51 := Tryd.underlying51
  cases b1 <;> cases b3
  all_goals
    go_enter Tryd.func46, Tryd.ntmps46
    go_wp2
  all_goals go_ret2
  all_goals first
    | exact ⟨rfl, by repeat (first | exact Below.refl _ _ | apply below_alloc)⟩
    | (exfalso; simp_all; done)
    | (exfalso; simp_all; omega)
    | (exfalso; omega)
set_option maxHeartbeats 2000000 in
set_option maxRecDepth 100000 in
theorem alone4 (a1 a2 : Int) (a3 : ByteArray) (w : World) (b1 b2 b3 : Bool) (h1 : decide (0 ≤ a1) = b1) (h2 : (a2 == 0) = b2) (h3 : (a3.toList == ([] : List UInt8)) = b3) :
    Calls Tryd.prog 46 #[.agg #[.int .i64 4, .int .i64 a1, .int .i64 a2, .string a3]] w fun e w' => e = .returned (.tuple #[.int .i64 (if b1 && (b2 && b3) then 0 else 6), .int .i64 0]) ∧ Below w.heap.size w w' := by
  have hu51 := Tryd.underlying51
  have hm : max a1 0 = if b1 = true then a1 else 0 := by
    subst h1
    by_cases h : 0 ≤ a1
    · rw [if_pos (decide_eq_true h)]; omega
    · rw [if_neg (by simpa using h)]; omega
  have he : (a1 == 0) = false ∨ b1 = true := by
    subst h1
    by_cases h : a1 = 0
    · exact .inr (decide_eq_true (by omega))
    · exact .inl (beq_eq_false_iff_ne.mpr h)
  cases b1 <;> cases b2 <;> cases b3
  all_goals simp only [if_true, Bool.false_eq_true, if_false] at hm
  all_goals try (have he' : (a1 == 0) = false := he.resolve_right (by decide))
  all_goals
    clear he
    go_enter Tryd.func46, Tryd.ntmps46
    go_wp2
  all_goals go_ret2
  all_goals first
    | exact ⟨rfl, by repeat (first | exact Below.refl _ _ | apply below_alloc)⟩
    | (exfalso; simp_all; done)
    | (exfalso; simp_all; omega)
    | (exfalso; omega)
/-- the cells of two nodes that lie newest, behind a call -/
theorem two_cells (w : World) (x0 x1 x2 y0 y1 y2 : Int) (x3 y3 : ByteArray) (X W1 : World)
    (hX : X = (w.alloc (.cells #[.int .i64 x0, .int .i64 x1, .int .i64 x2, .string x3] 51)).alloc (.cells #[.int .i64 y0, .int .i64 y1, .int .i64 y2, .string y3] 51)) (hb : Below X.heap.size X W1) :
    Aside0 (Below w.heap.size w W1) ∧ w.heap.size < W1.heap.size ∧ W1.cell? ⟨w.heap.size, 0, none⟩ = some (.int .i64 x0) ∧ W1.cell? ⟨w.heap.size, 1, none⟩ = some (.int .i64 x1) ∧ W1.cell? ⟨w.heap.size, 2, none⟩ = some (.int .i64 x2) ∧ W1.cell? ⟨w.heap.size, 3, none⟩ = some (.string x3) ∧
    W1.cell? ⟨w.heap.size + 1, 0, none⟩ = some (.int .i64 y0) ∧ W1.cell? ⟨w.heap.size + 1, 1, none⟩ = some (.int .i64 y1) ∧ W1.cell? ⟨w.heap.size + 1, 2, none⟩ = some (.int .i64 y2) ∧ W1.cell? ⟨w.heap.size + 1, 3, none⟩ = some (.string y3) := by
  have h1 := blk_alloc (World.alloc_heap_new w (.cells #[.int .i64 x0, .int .i64 x1, .int .i64 x2, .string x3] 51)) (.cells #[.int .i64 y0, .int .i64 y1, .int .i64 y2, .string y3] 51)
  have h2 := World.alloc_heap_new (w.alloc (.cells #[.int .i64 x0, .int .i64 x1, .int .i64 x2, .string x3] 51)) (.cells #[.int .i64 y0, .int .i64 y1, .int .i64 y2, .string y3] 51)
  rw [World.size_alloc] at h2
  rw [← hX] at h1 h2
  have k1 := blk_below h1 hb
  have k2 := blk_below h2 hb
  have hs := blk_lt k1
  have hB : Below w.heap.size w X := by rw [hX]; exact ((Below.refl _ w).alloc (Nat.le_refl _) _).alloc (by simp) _
  refine ⟨⟨hB.trans (hb.mono hB.size)⟩, hs, ?_⟩
  simp [blk_cell k1, blk_cell k2]
set_option maxHeartbeats 2000000 in
set_option maxRecDepth 100000 in
theorem alone3 (a1 a2 : Int) (a3 : ByteArray) (w : World) (b1 b2 b3 : Bool) (h1 : (a1 == 0) = b1) (h2 : (a2 == 0) = b2) (h3 : symB a3 = b3) (hG : G0 w) :
    Calls Tryd.prog 46 #[.agg #[.int .i64 3, .int .i64 a1, .int .i64 a2, .string a3]] w fun e w' => e = .returned (.tuple #[.int .i64 (if b1 && b2 then 0 else 6), .int .i64 (if b3 then 0 else 6)]) ∧ Below w.heap.size w w' := by
  have hu51 := Tryd.underlying51
  have hc : ∀ W, Below w.heap.size w W → Calls Tryd.prog 16 #[.string a3] W fun e w' => e = .returned (.bool b3) ∧ Below W.heap.size W w' := fun W hb => by
    rw [← h3]; exact data_Symbol.calls a3 _ W (G0_keep hG hb) rfl
  have hself : (a3.toList == a3.toList) = true := by simp
  have HC := Aside0.mk hc
  clear hc hG h3
  cases b1 <;> cases b2 <;> cases b3
  all_goals
    go_enter Tryd.func46, Tryd.ntmps46
    go_wp2_with (go_at_call 16; refine (HC.out _ (by repeat (first | exact Below.refl _ _ | apply below_alloc))).mono ?_; rintro e w1 ⟨rfl, hb1⟩; obtain ⟨HB, hsz, hx0, hx1, hx2, hx3, hy0, hy1, hy2, hy3⟩ := two_cells w _ _ _ _ _ _ _ _ _ _ rfl hb1; clear hb1)
  all_goals go_ret2
  all_goals first
    | exact ⟨rfl, HB.out⟩
    | (exfalso; simp_all; done)
    | (exfalso; simp_all; omega)
    | trace_state
set_option maxHeartbeats 2000000 in
set_option maxRecDepth 100000 in
theorem alone2 (a1 a2 : Int) (a3 : ByteArray) (w : World) (b1 b3 : Bool) (h1 : (a1 == 0) = b1) (h3 : (a3.toList == ([] : List UInt8)) = b3) (hn : a2 = 0 ∨ a2 = 1) :
    Calls Tryd.prog 46 #[.agg #[.int .i64 2, .int .i64 a1, .int .i64 a2, .string a3]] w fun e w' => e = .returned (.tuple #[.int .i64 (if b1 && b3 then 0 else 6), .int .i64 0]) ∧ Below w.heap.size w w' := by
  have hu51 := Tryd.underlying51
  rcases hn with rfl | rfl <;> cases b1 <;> cases b3
  all_goals
    go_enter Tryd.func46, Tryd.ntmps46
    go_wp2
  all_goals go_ret2
  all_goals first
    | exact ⟨rfl, by repeat (first | exact Below.refl _ _ | apply below_alloc)⟩
    | (exfalso; simp_all; done)
    | (exfalso; simp_all; omega)
    | (exfalso; omega)
set_option maxHeartbeats 2000000 in
set_option maxRecDepth 100000 in
theorem alone2b (a1 a2 : Int) (a3 : ByteArray) (w : World) (b1 b3 : Bool) (h1 : (a1 == 0) = b1) (h3 : (a3.toList == ([] : List UInt8)) = b3) (hn : ¬ (a2 = 0 ∨ a2 = 1)) :
    Calls Tryd.prog 46 #[.agg #[.int .i64 2, .int .i64 a1, .int .i64 a2, .string a3]] w fun e w' => e = .returned (.tuple #[.int .i64 (if b1 && b3 then 0 else 6), .int .i64 7]) ∧ Below w.heap.size w w' := by
  have hu51 := Tryd.underlying51
  have hne : (a2 / 2 != 0) = true := bne_iff_ne.mpr (by omega)
  cases b1 <;> cases b3
  all_goals
    go_enter Tryd.func46, Tryd.ntmps46
    go_wp2
  all_goals go_ret2
  all_goals first
    | exact ⟨rfl, by repeat (first | exact Below.refl _ _ | apply below_alloc)⟩
    | (exfalso; simp_all; done)
    | (exfalso; simp_all; omega)
    | (exfalso; omega)
set_option maxHeartbeats 2000000 in
set_option maxRecDepth 100000 in
theorem alone0 (a0 a1 a2 : Int) (a3 : ByteArray) (w : World) (h1 : (a0 == 1) = false) (h2 : (a0 == 2) = false) (h3 : (a0 == 3) = false) (h4 : (a0 == 4) = false) :
    Calls Tryd.prog 46 #[.agg #[.int .i64 a0, .int .i64 a1, .int .i64 a2, .string a3]] w fun e w' => e = .returned (.tuple #[.int .i64 6, .int .i64 0]) ∧ Below w.heap.size w w' := by
  have hu51 := Tryd.underlying51
  go_enter Tryd.func46, Tryd.ntmps46
  go_wp2
  trace_state
  go_ret2
  exact ⟨rfl, by repeat (first | exact Below.refl _ _ | apply below_alloc)⟩
theorem sel0 (p : Prop) [Decidable p] (b : Bool) (h : b = decide p) : (if b = true then (0 : Int) else 6) = if p then 0 else 6 := by
  subst h
  by_cases hp : p
  · rw [if_pos hp, if_pos (decide_eq_true hp)]
  · rw [if_neg hp, if_neg (by simpa using hp)]
def data_alone.f (a0_0 : Int) (a0_1 : Int) (a0_2 : Int) (a0_3 : ByteArray) : Option (Int × Int) := some (aloneF a0_0 a0_1 a0_2 a0_3)
theorem data_alone.calls (a0_0 : Int) (a0_1 : Int) (a0_2 : Int) (a0_3 : ByteArray) (r1 : Int) (r2 : Int) (w : World) (hG : G0 w) (h : data_alone.f a0_0 a0_1 a0_2 a0_3 = some (r1, r2)) :
    Calls Tryd.prog 46 #[.agg #[.int .i64 a0_0, .int .i64 a0_1, .int .i64 a0_2, .string a0_3]] w fun e w' => e = .returned (.tuple #[.int .i64 r1, .int .i64 r2]) ∧ Below w.heap.size w w' := by
  have h2 : aloneF a0_0 a0_1 a0_2 a0_3 = (r1, r2) := Option.some.inj h
  unfold aloneF at h2
  have hs := toList_nil a0_3
  by_cases c1 : a0_0 = 1
  · subst c1
    rw [if_pos rfl] at h2
    obtain ⟨rfl, rfl⟩ := Prod.mk.inj h2
    have := alone1 a0_1 a0_2 a0_3 w _ _ rfl hs
    rwa [sel0 (a0_1 = 0 ∧ a0_3.size = 0) _ (by rw [Bool.eq_iff_iff]; simp)] at this
  rw [if_neg c1] at h2
  by_cases c2 : a0_0 = 2
  · subst c2
    rw [if_pos rfl] at h2
    obtain ⟨rfl, rfl⟩ := Prod.mk.inj h2
    by_cases hn : a0_2 = 0 ∨ a0_2 = 1
    · have := alone2 a0_1 a0_2 a0_3 w _ _ rfl hs hn
      rw [if_pos hn]
      rwa [sel0 (a0_1 = 0 ∧ a0_3.size = 0) _ (by rw [Bool.eq_iff_iff]; simp)] at this
    · have := alone2b a0_1 a0_2 a0_3 w _ _ rfl hs hn
      rw [if_neg hn]
      rwa [sel0 (a0_1 = 0 ∧ a0_3.size = 0) _ (by rw [Bool.eq_iff_iff]; simp)] at this
  rw [if_neg c2] at h2
  by_cases c3 : a0_0 = 3
  · subst c3
    rw [if_pos rfl] at h2
    obtain ⟨rfl, rfl⟩ := Prod.mk.inj h2
    have := alone3 a0_1 a0_2 a0_3 w _ _ _ rfl rfl rfl hG
    rwa [sel0 (a0_1 = 0 ∧ a0_2 = 0) _ (by rw [Bool.eq_iff_iff]; simp)] at this
  rw [if_neg c3] at h2
  by_cases c4 : a0_0 = 4
  · subst c4
    rw [if_pos rfl] at h2
    obtain ⟨rfl, rfl⟩ := Prod.mk.inj h2
    have := alone4 a0_1 a0_2 a0_3 w _ _ _ rfl rfl hs
    rwa [sel0 (0 ≤ a0_1 ∧ a0_2 = 0 ∧ a0_3.size = 0) _ (by rw [Bool.eq_iff_iff]; simp)] at this
  rw [if_neg c4] at h2
  obtain ⟨rfl, rfl⟩ := Prod.mk.inj h2
  exact alone0 a0_0 a0_1 a0_2 a0_3 w (beq_eq_false_iff_ne.mpr c1) (beq_eq_false_iff_ne.mpr c2) (beq_eq_false_iff_ne.mpr c3) (beq_eq_false_iff_ne.mpr c4)
end Go.Proofs.YtgmiekggdgmhkaaDoor.Q
end
section
-- a print of this session's own (hook.py)
namespace Go.Proofs.YtgmiekggdgmhkaaDoor.Q
open Go.RowKit Go.Proofs.YtgmiekggdgmhkaaDoorW.PrintWords Go.Proofs.YtgmiekggdgmhkaaDoorW.PrintLast Go.Proofs.YtgmiekggdgmhkaaDoorW.PrintMore
attribute [local go_sem] max2_int min2_int max_two min_two max_three min_three max_four min_four   -- for this text's walks alone
set_option linter.unusedVariables false
set_option linter.unusedSimpArgs false
/-! ### data_Check: function 14 -/
mutual
def data_Check.l0 : Nat → List (S51) → List Int → List (S51) → Int → Int → Option (Int × Int)
  | 0, _, _, _, _, _ => none
  | k + 1, x0, x4, x18, x19, x20 => if x20 < x19 then (if 0 ≤ x20 then (if x20 < (x18.length : Int) then ((data_alone.f ((rd_T51 x18 x20).f0) ((rd_T51 x18 x20).f1) ((rd_T51 x18 x20).f2) ((rd_T51 x18 x20).f3)).bind fun bt107 => (if (x4.length : Int) = 0 then (data_Check.j1 k x0 x4 x20 bt107.2 x18 x19 x20 true ((rd_T51 x18 x20).f0) ((rd_T51 x18 x20).f1) ((rd_T51 x18 x20).f2) ((rd_T51 x18 x20).f3)) else (data_Check.j1 k x0 x4 x20 bt107.2 x18 x19 x20 (bt107.1 != 0) ((rd_T51 x18 x20).f0) ((rd_T51 x18 x20).f1) ((rd_T51 x18 x20).f2) ((rd_T51 x18 x20).f3)))) else (none)) else (none)) else (if (x4.length : Int) > 0 then (some ((x0.length : Int), 6)) else (some (0, 0)))
def data_Check.j1 : Nat → List (S51) → List Int → Int → Int → List (S51) → Int → Int → Bool → Int → Int → Int → ByteArray → Option (Int × Int)
  | 0, _, _, _, _, _, _, _, _, _, _, _, _ => none
  | k + 1, x0, x4, x5, x8, x18, x19, x20, x30, x107000, x107001, x107002, x107003 => if x30 = true then (some (x5, 6)) else (if (x4.length : Int) > 33 then (some (x5, 3)) else (if x8 = 0 then (if 0 ≤ (wrap64 ((x4.length : Int) - 1)) then (if (wrap64 ((x4.length : Int) - 1)) < (x4.length : Int) then ((some (x4.set ((wrap64 ((x4.length : Int) - 1)) : Int).toNat (wrap64 ((rd x4 (wrap64 ((x4.length : Int) - 1))) - 1)) : List Int)).bind fun y110 => (if y110.length < 17592186044416 then (data_Check.l1 k x0 (y110 ++ [x107001]) x18 x19 x20) else (none))) else (none)) else (none)) else (some (x5, x8))))
def data_Check.l1 : Nat → List (S51) → List Int → List (S51) → Int → Int → Option (Int × Int)
  | 0, _, _, _, _, _ => none
  | k + 1, x0, x4, x18, x19, x20 => if (x4.length : Int) > 0 then (if 0 ≤ (wrap64 ((x4.length : Int) - 1)) then (if (wrap64 ((x4.length : Int) - 1)) < (x4.length : Int) then (if (rd x4 (wrap64 ((x4.length : Int) - 1))) = 0 then (if (wrap64 ((x4.length : Int) - 1)) ≤ (x4.length : Int) then (data_Check.l1 k x0 (x4.take ((wrap64 ((x4.length : Int) - 1)) : Int).toNat) x18 x19 x20) else (none)) else (data_Check.l0 k x0 x4 x18 x19 (wrap64 (x20 + 1)))) else (none)) else (none)) else (data_Check.l0 k x0 x4 x18 x19 (wrap64 (x20 + 1)))
end
def data_Check.f (k : Nat) (l0 : List (S51)) : Option (Int × Int) := if (l0.length : Int) = 0 then (some (0, 6)) else (if (l0.length : Int) > 400 then (some (0, 3)) else (data_Check.l0 k l0 (([1] : List Int)) l0 (l0.length : Int) 0))
theorem data_Check.mono_l : ∀ k, (∀ y0 y1 y2 y3 y4, LeO (data_Check.l0 k y0 y1 y2 y3 y4) (data_Check.l0 (k + 1) y0 y1 y2 y3 y4)) ∧ (∀ y0 y1 y2 y3 y4 y5 y6 y7 y8 y9 y10 y11, LeO (data_Check.j1 k y0 y1 y2 y3 y4 y5 y6 y7 y8 y9 y10 y11) (data_Check.j1 (k + 1) y0 y1 y2 y3 y4 y5 y6 y7 y8 y9 y10 y11)) ∧ (∀ y0 y1 y2 y3 y4, LeO (data_Check.l1 k y0 y1 y2 y3 y4) (data_Check.l1 (k + 1) y0 y1 y2 y3 y4))
  | 0 => ⟨fun _ _ _ _ _ r h => by simp [data_Check.l0] at h, fun _ _ _ _ _ _ _ _ _ _ _ _ r h => by simp [data_Check.j1] at h, fun _ _ _ _ _ r h => by simp [data_Check.l1] at h⟩
  | k + 1 => by
    obtain ⟨ih0, ih1, ih2⟩ := data_Check.mono_l k
    refine ⟨?_, ?_, ?_⟩
    · intro y0 y1 y2 y3 y4
      unfold data_Check.l0
      repeat' first
      | (with_reducible exact ih0 _ _ _ _ _)
      | (with_reducible exact ih1 _ _ _ _ _ _ _ _ _ _ _ _)
      | (with_reducible exact ih2 _ _ _ _ _)
      | (with_reducible exact LeO.refl _)
      | (with_reducible exact LeO.none _)
      | (with_reducible refine LeO.ite ?_ ?_)
      | (with_reducible refine LeO.bind ?_ (fun _ => ?_))
      | exact ih0 _ _ _ _ _
      | exact ih1 _ _ _ _ _ _ _ _ _ _ _ _
      | exact ih2 _ _ _ _ _
      | exact LeO.none _
      | refine LeO.ite ?_ ?_
      | refine LeO.bind ?_ (fun _ => ?_)
    · intro y0 y1 y2 y3 y4 y5 y6 y7 y8 y9 y10 y11
      unfold data_Check.j1
      repeat' first
      | (with_reducible exact ih0 _ _ _ _ _)
      | (with_reducible exact ih1 _ _ _ _ _ _ _ _ _ _ _ _)
      | (with_reducible exact ih2 _ _ _ _ _)
      | (with_reducible exact LeO.refl _)
      | (with_reducible exact LeO.none _)
      | (with_reducible refine LeO.ite ?_ ?_)
      | (with_reducible refine LeO.bind ?_ (fun _ => ?_))
      | exact ih0 _ _ _ _ _
      | exact ih1 _ _ _ _ _ _ _ _ _ _ _ _
      | exact ih2 _ _ _ _ _
      | exact LeO.none _
      | refine LeO.ite ?_ ?_
      | refine LeO.bind ?_ (fun _ => ?_)
    · intro y0 y1 y2 y3 y4
      unfold data_Check.l1
      repeat' first
      | (with_reducible exact ih0 _ _ _ _ _)
      | (with_reducible exact ih1 _ _ _ _ _ _ _ _ _ _ _ _)
      | (with_reducible exact ih2 _ _ _ _ _)
      | (with_reducible exact LeO.refl _)
      | (with_reducible exact LeO.none _)
      | (with_reducible refine LeO.ite ?_ ?_)
      | (with_reducible refine LeO.bind ?_ (fun _ => ?_))
      | exact ih0 _ _ _ _ _
      | exact ih1 _ _ _ _ _ _ _ _ _ _ _ _
      | exact ih2 _ _ _ _ _
      | exact LeO.none _
      | refine LeO.ite ?_ ?_
      | refine LeO.bind ?_ (fun _ => ?_)
theorem data_Check.mono : ∀ a0 k, LeO (data_Check.f k a0) (data_Check.f (k + 1) a0) := by
  intro a0 k
  obtain ⟨ih0, ih1, ih2⟩ := data_Check.mono_l k
  unfold data_Check.f
  repeat' first
      | (with_reducible exact ih0 _ _ _ _ _)
      | (with_reducible exact ih1 _ _ _ _ _ _ _ _ _ _ _ _)
      | (with_reducible exact ih2 _ _ _ _ _)
      | (with_reducible exact LeO.refl _)
      | (with_reducible exact LeO.none _)
      | (with_reducible refine LeO.ite ?_ ?_)
      | (with_reducible refine LeO.bind ?_ (fun _ => ?_))
      | exact ih0 _ _ _ _ _
      | exact ih1 _ _ _ _ _ _ _ _ _ _ _ _
      | exact ih2 _ _ _ _ _
      | exact LeO.none _
      | refine LeO.ite ?_ ?_
      | refine LeO.bind ?_ (fun _ => ?_)
set_option maxHeartbeats 8000000 in
set_option maxRecDepth 100000 in
theorem data_Check.calls (k : Nat) (A0 : Option Addr) (c0 : Nat) (l0 : List (S51)) (r1 : Int) (r2 : Int) (w : World) (hr0 : Kd.C k51 w A0 l0.length l0) (hc0 : l0.length ≤ c0) (hG : G0 w) (h : data_Check.f k l0 = some (r1, r2)) :
    Calls Tryd.prog 14 #[.slice A0 l0.length c0] w fun e w' => e = .returned (.tuple #[.int .i64 r1, .int .i64 r2]) ∧ Below w.heap.size w w' := by
  have hu51 := Tryd.underlying51
  have HGl := Aside0.mk hG
  clear hG
  have HR0 := Aside0.mk hr0
  have HC0 := Aside0.mk hc0
  clear hr0 hc0
  have HB := Aside0.mk (Below.refl w.heap.size w)
  have H : (if (l0.length : Int) = 0 then (some (0, 6)) else (if (l0.length : Int) > 400 then (some (0, 3)) else (data_Check.l0 k l0 (([1] : List Int)) l0 (l0.length : Int) 0))) = some (r1, r2) := h
  clear h
  by_cases c2 : (l0.length : Int) = 0
  · rw [if_pos c2] at H
    have c2b0 : ((l0.length : Int) == 0) = true := beq_iff_eq.mpr c2
    have c2b1 : ((l0.length : Int) != 0) = false := bne_eq_false_iff_eq.mpr c2
    clear c2
    simp only [Option.some.injEq, Prod.mk.injEq] at H
    obtain ⟨rfl, rfl⟩ := H
    go_enter Tryd.func14, Tryd.ntmps14
    go_wp2
    go_ret2
    exact ⟨by first | rfl | (simp [errW_none, errW_some] <;> rfl) | (simp [*, errW_none, errW_some] <;> rfl), by repeat (first | (with_reducible first | exact HB.out | apply below_alloc | apply pw_below_drewN | apply below_drew1) | exact HB.out)⟩
  · rw [if_neg c2] at H
    have c2b0 : ((l0.length : Int) == 0) = false := beq_eq_false_iff_ne.mpr c2
    have c2b1 : ((l0.length : Int) != 0) = true := bne_iff_ne.mpr c2
    have c2b2 : ¬ (l0 = []) := fun h_ => c2 (by rw [h_]; rfl)
    by_cases c3 : (l0.length : Int) > 400
    · rw [if_pos c3] at H
      have c3b0 : decide (400 < (l0.length : Int)) = true := decide_eq_true c3
      have c3b1 : decide (400 < l0.length) = true := decide_eq_true (by omega)
      clear c3
      simp only [Option.some.injEq, Prod.mk.injEq] at H
      obtain ⟨rfl, rfl⟩ := H
      go_enter Tryd.func14, Tryd.ntmps14
      go_wp2
      go_ret2
      exact ⟨by first | rfl | (simp [errW_none, errW_some] <;> rfl) | (simp [*, errW_none, errW_some] <;> rfl), by repeat (first | (with_reducible first | exact HB.out | apply below_alloc | apply pw_below_drewN | apply below_drew1) | exact HB.out)⟩
    · rw [if_neg c3] at H
      have c3b0 : decide (400 < (l0.length : Int)) = false := decide_eq_false c3
      have c3b1 : decide (400 < l0.length) = false := decide_eq_false (by omega)
      clear c3
      obtain ⟨y102, hy102⟩ : ∃ y_ : List Int, y_ = (([1] : List Int)) := ⟨_, rfl⟩
      replace H : (data_Check.l0 k l0 y102 l0 (l0.length : Int) 0) = some (r1, r2) := by first | (rw [hy102]; with_reducible exact H) | (have H2_ := (Option.bind_some _ _).symm.trans H; rw [hy102]; with_reducible exact H2_) | (have H2_ := (Option.bind_some _ _).symm.trans H; with_reducible exact H2_) | with_reducible exact H | (rw [hy102]; exact H) | exact H
      have Ny102 := Aside0.mk hy102
      clear hy102
      have H' := Aside0.mk H
      clear H
      go_enter Tryd.func14, Tryd.ntmps14
      go_wp2_with (first | ((with_reducible refine gate_dst (N := 17) rfl ?_); (try (refine gate_guard (by rfl) ?_; dsimp only)); refine Kd.R_lit (Kd.int .i64) _ 3 ?hg (N := 17) ?hd (xs := ([1] : List Int)) (inner := [.int .i64 1]) (ok := fun _ => True) (okp := fun _ => True) ?hr ?hp (fun _ hk => hk) trivial (Below.refl _ _) (Nat.le_refl _) (by simp) ?_; (case hd => rfl); (case hg => rfl); (case hr => first | (go_simp; done) | (go_simp; rfl)); (case hp => exact (Reps.one (show Kd.M (Kd.int .i64) _ _ _ 1 [.int .i64 1] from rfl) (Reps.none _ _))); intro v103 w4 ho5 hb hg_ hnew_; clear hg_ hnew_; (first | rw [← Ny102.out] at ho5 | (simp only [Int.reduceToNat] at ho5; rw [← Ny102.out] at ho5)); have n0_ := Aside0.mk (Kd.R_lower ho5 (below_size (by repeat (first | (with_reducible first | exact HB.out | apply below_alloc | apply pw_below_drewN | apply below_drew1) | exact HB.out)))); have n1_ := Aside0.mk (below_step (by repeat (first | (with_reducible first | exact HB.out | apply below_alloc | apply pw_below_drewN | apply below_drew1) | exact HB.out)) hb); clear HB; have HO104 := n0_; have HB := n1_; clear n0_ n1_; clear hb ho5))
      go_loopg [4, 20] k (fun kq v4 v20 w' => ∃ (x4_1 : List Int) (x20_1 : Int), v20 = .int .i64 x20_1 ∧ Aside0 (data_Check.l0 kq l0 x4_1 l0 (l0.length : Int) x20_1 = some (r1, r2)) ∧ Aside0 (kq ≤ k) ∧ Aside0 (Kd.R (Kd.int .i64) 3 w' w.heap.size (fun _ => True) v4 x4_1) ∧ Aside0 (Below w.heap.size w w'))
      case atStart => exact ⟨(y102), (0), (by first | rfl | (simp; done) | (simp [*]; done)), H', ⟨Nat.le_refl _⟩, ⟨by (with_reducible repeat (first | apply Kd.R_alloc | apply Kd.R_drewN | apply Kd.R_drew)); exact HO104.out⟩, ⟨by repeat (first | (with_reducible first | exact HB.out | apply below_alloc | apply pw_below_drewN | apply below_drew1) | exact HB.out)⟩⟩
      case round =>
        clear H'
        try clear c1
        try clear c2
        try clear c2b0
        try clear c2b1
        try clear c2b2
        try clear p2
        try clear c3
        try clear c3b0
        try clear c3b1
        obtain ⟨x4_1, x20_1, rfl, HA, HK1, HO_4, HB⟩ := hrel
        cases gk with
        | zero => exact absurd HA.out (by simp [data_Check.l0])
        | succ k1 =>
          have H := HA.out
          clear HA
          simp only [data_Check.l0] at H
          by_cases c6 : x20_1 < (l0.length : Int)
          · rw [if_pos c6] at H
            have c6b0 : decide (x20_1 < (l0.length : Int)) = true := decide_eq_true c6
            clear c6
            by_cases c7 : 0 ≤ x20_1
            · rw [if_pos c7] at H
              have c7b0 : decide (0 ≤ x20_1) = true := decide_eq_true c7
              clear c7
              by_cases c8 : x20_1 < (l0.length : Int)
              · rw [if_pos c8] at H
                have c8b0 : decide (x20_1 < (l0.length : Int)) = true := decide_eq_true c8
                clear c8
                replace H := Option.bind_eq_some_iff.mp H
                obtain ⟨⟨t107, t108⟩, A90, H⟩ := H
                replace H : (if (x4_1.length : Int) = 0 then (data_Check.j1 k1 l0 x4_1 x20_1 t108 l0 (l0.length : Int) x20_1 true ((rd_T51 l0 x20_1).f0) ((rd_T51 l0 x20_1).f1) ((rd_T51 l0 x20_1).f2) ((rd_T51 l0 x20_1).f3)) else (data_Check.j1 k1 l0 x4_1 x20_1 t108 l0 (l0.length : Int) x20_1 (t107 != 0) ((rd_T51 l0 x20_1).f0) ((rd_T51 l0 x20_1).f1) ((rd_T51 l0 x20_1).f2) ((rd_T51 l0 x20_1).f3))) = some (r1, r2) := H
                have A9 := Aside0.mk A90
                clear A90
                have HC10 := Aside0.mk H
                clear H
                have p105 : 0 ≤ (x20_1 : Int) := of_decide_eq_true (by first | (with_reducible assumption) | assumption)
                have q105 : x20_1 < (l0.length : Int) := of_decide_eq_true (by first | (with_reducible assumption) | assumption)
                obtain ⟨ad105, e105, hx105_0, hx105_1, hx105_2, hx105_3⟩ := at_T51 HR0.out x20_1 p105 q105
                cases e105
                replace hx105_0 := (HB.out.cell (World.block_lt_of_cell? w _ hx105_0)).trans hx105_0
                replace hx105_1 := (HB.out.cell (World.block_lt_of_cell? w _ hx105_1)).trans hx105_1
                replace hx105_2 := (HB.out.cell (World.block_lt_of_cell? w _ hx105_2)).trans hx105_2
                replace hx105_3 := (HB.out.cell (World.block_lt_of_cell? w _ hx105_3)).trans hx105_3
                replace p105 := eq_true p105
                replace q105 := eq_true q105
                go_upto_region 10 with (first | ((with_reducible refine gate_dst (N := 6) rfl ?_); (try (refine gate_guard (by rfl) ?_; dsimp only)); refine box_event ?hg (N := 6) ?hd (cs := #[.int .i64 0, .int .i64 0, .int .i64 0, .string (⟨#[]⟩ : ByteArray)]) (t := 51) ?hr ?_; (case hd => rfl); (case hg => rfl); (case hr => first | (go_simp; done) | (go_simp; rfl)); intro gb106 hg w11 hbox hb; have n0_ := Aside0.mk (Kd.R_below (by (with_reducible repeat (first | apply Kd.R_alloc | apply Kd.R_drewN | apply Kd.R_drew)); exact HO_4.out) hb); have n1_ := Aside0.mk (below_step (by repeat (first | (with_reducible first | exact HB.out | apply below_alloc | apply pw_below_drewN | apply below_drew1) | exact HB.out)) hb); have n2_ := Aside0.mk (hbox); have n3_ := Aside0.mk ((by rw [hg]; exact (below_size (by repeat (first | (with_reducible first | exact HB.out | apply below_alloc | apply pw_below_drewN | apply below_drew1) | exact HB.out))) : w.heap.size ≤ gb106)); have n4_ := Aside0.mk ((by rw [hg]; exact (below_size (by repeat (first | (with_reducible first | exact HB.out | apply below_alloc | apply pw_below_drewN | apply below_drew1) | exact HB.out))) : w.heap.size ≤ gb106)); clear HO_4; clear HB; have HO_4 := n0_; have HB := n1_; have BK106 := n2_; have GW106 := n3_; have GE106 := n4_; clear n0_ n1_ n2_ n3_ n4_; clear hb hbox hg; have hcz12_0 : w11.cell? ⟨gb106, 0, none⟩ = some (.int .i64 0) := (blk_cell BK106.out 0).trans rfl; have hcz12_1 : w11.cell? ⟨gb106, 1, none⟩ = some (.int .i64 0) := (blk_cell BK106.out 1).trans rfl; have hcz12_2 : w11.cell? ⟨gb106, 2, none⟩ = some (.int .i64 0) := (blk_cell BK106.out 2).trans rfl; have hcz12_3 : w11.cell? ⟨gb106, 3, none⟩ = some (.string (⟨#[]⟩ : ByteArray)) := (blk_cell BK106.out 3).trans rfl; have hfz12_0 := blk_frozen BK106.out 0; have hfz12_1 := blk_frozen BK106.out 1; have hfz12_2 := blk_frozen BK106.out 2; have hfz12_3 := blk_frozen BK106.out 3) | ((with_reducible refine gate_callee (f := 46) rfl ?_); refine goesL_ (some 27) rfl rfl Tryd.func46 (by kernel_rfl) rfl #[.agg #[.int .i64 ((rd_T51 l0 x20_1).f0), .int .i64 ((rd_T51 l0 x20_1).f1), .int .i64 ((rd_T51 l0 x20_1).f2), .string ((rd_T51 l0 x20_1).f3)]] rfl (by (try simp only [List.map_toArray, List.map_cons, List.map_nil]); first | done | rfl | (simp only [List.length_drop, List.length_take]; rfl)) ?_; (with_reducible refine (data_alone.calls ((rd_T51 l0 x20_1).f0) ((rd_T51 l0 x20_1).f1) ((rd_T51 l0 x20_1).f2) ((rd_T51 l0 x20_1).f3) t107 t108 _ ?side1 A9.out).mono ?_); (case side1 => exact G0_keep HGl.out (by repeat (first | (with_reducible first | exact HB.out | apply below_alloc | apply pw_below_drewN | apply below_drew1 | refine below_set ?_ GE106.out) | exact HB.out))); rintro e w13 ⟨rfl, hb⟩; refine ⟨_, rfl, ?_⟩; have n0_ := Aside0.mk (Kd.R_below (by (with_reducible repeat (first | apply Kd.R_alloc | apply Kd.R_drewN | apply Kd.R_drew)); exact (Kd.R_mono (Kd.R_far (p := ⟨gb106, 3, none⟩) (Kd.R_far (p := ⟨gb106, 2, none⟩) (Kd.R_far (p := ⟨gb106, 1, none⟩) (Kd.R_far (p := ⟨gb106, 0, none⟩) (Kd.R_types HO_4.out BK106.out (by decide)) (fun _ hk => hk.2) (.int .i64 ((rd_T51 l0 x20_1).f0))) (fun _ hk => hk.2) (.int .i64 ((rd_T51 l0 x20_1).f1))) (fun _ hk => hk.2) (.int .i64 ((rd_T51 l0 x20_1).f2))) (fun _ hk => hk.2) (.string ((rd_T51 l0 x20_1).f3))) (fun _ h_ => h_.1))) hb); have n1_ := Aside0.mk (blk_below (g := gb106) (o := .cells #[.int .i64 ((rd_T51 l0 x20_1).f0), .int .i64 ((rd_T51 l0 x20_1).f1), .int .i64 ((rd_T51 l0 x20_1).f2), .string ((rd_T51 l0 x20_1).f3)] 51 (0, 0)) (by (with_reducible repeat (first | refine blk_drewN ?_ _ | refine blk_drew ?_ | refine blk_alloc ?_ _)); refine blk_put (cs := #[.int .i64 ((rd_T51 l0 x20_1).f0), .int .i64 ((rd_T51 l0 x20_1).f1), .int .i64 ((rd_T51 l0 x20_1).f2), .string (⟨#[]⟩ : ByteArray)]) ?_ 3 _ rfl; (with_reducible repeat (first | refine blk_drewN ?_ _ | refine blk_drew ?_ | refine blk_alloc ?_ _)); refine blk_put (cs := #[.int .i64 ((rd_T51 l0 x20_1).f0), .int .i64 ((rd_T51 l0 x20_1).f1), .int .i64 0, .string (⟨#[]⟩ : ByteArray)]) ?_ 2 _ rfl; (with_reducible repeat (first | refine blk_drewN ?_ _ | refine blk_drew ?_ | refine blk_alloc ?_ _)); refine blk_put (cs := #[.int .i64 ((rd_T51 l0 x20_1).f0), .int .i64 0, .int .i64 0, .string (⟨#[]⟩ : ByteArray)]) ?_ 1 _ rfl; (with_reducible repeat (first | refine blk_drewN ?_ _ | refine blk_drew ?_ | refine blk_alloc ?_ _)); refine blk_put (cs := #[.int .i64 0, .int .i64 0, .int .i64 0, .string (⟨#[]⟩ : ByteArray)]) ?_ 0 _ rfl; (with_reducible repeat (first | refine blk_drewN ?_ _ | refine blk_drew ?_ | refine blk_alloc ?_ _)); exact BK106.out) hb); have n2_ := Aside0.mk (below_step (by repeat (first | (with_reducible first | exact HB.out | apply below_alloc | apply pw_below_drewN | apply below_drew1 | refine below_set ?_ GE106.out) | exact HB.out)) hb); clear HO_4; clear BK106; clear HB; have HO_4 := n0_; have BK106 := n1_; have HB := n2_; clear n0_ n1_ n2_; (try clear hb); (try clear hb2); (try clear hk); (try clear hi)))
                (try simp only [Act.put, List.setIfInBounds_toArray, List.set_cons_zero, List.set_cons_succ])
                go_cut [30] (fun v30 wc => ∃ (kq : Nat) (x30_9 : Bool), v30 = .bool x30_9 ∧ Aside0 (data_Check.j1 kq l0 x4_1 x20_1 t108 l0 (l0.length : Int) x20_1 x30_9 ((rd_T51 l0 x20_1).f0) ((rd_T51 l0 x20_1).f1) ((rd_T51 l0 x20_1).f2) ((rd_T51 l0 x20_1).f3) = some (r1, r2)) ∧ Aside0 (kq ≤ k1) ∧ Aside0 (Kd.R (Kd.int .i64) 3 wc w.heap.size (fun _ => True) u4 x4_1) ∧ Aside0 (wc.heap[gb106]? = some (.cells #[.int .i64 ((rd_T51 l0 x20_1).f0), .int .i64 ((rd_T51 l0 x20_1).f1), .int .i64 ((rd_T51 l0 x20_1).f2), .string ((rd_T51 l0 x20_1).f3)] 51 (0, 0))) ∧ Aside0 (Below w.heap.size w wc))
                case first =>
                  have H := HC10.out
                  clear HC10
                  by_cases c14 : (x4_1.length : Int) = 0
                  · rw [if_pos c14] at H
                    have c14b0 : ((x4_1.length : Int) == 0) = true := beq_iff_eq.mpr c14
                    have c14b1 : ((x4_1.length : Int) != 0) = false := bne_eq_false_iff_eq.mpr c14
                    clear c14
                    (first | rw [c14b0] | (simp only [i64_w, i32_w]; rw [c14b0]) | skip)
                    have H' := Aside0.mk H
                    clear H
                    obtain ⟨Ao15, co15, eo15⟩ := Kd.R_slice HO_4.out
                    subst eo15
                    go_wp2
                    go_meet
                    case rel => exact ⟨_, (true), (by first | rfl | (simp; done) | (simp [*]; done)), H', ⟨by have := HK1.out; first | omega | exact Nat.le_refl _⟩, ⟨by (with_reducible repeat (first | apply Kd.R_alloc | apply Kd.R_drewN | apply Kd.R_drew)); exact HO_4.out⟩, ⟨by (with_reducible repeat (first | refine blk_drewN ?_ _ | refine blk_drew ?_ | refine blk_alloc ?_ _)); exact BK106.out⟩, ⟨by repeat (first | (with_reducible first | exact HB.out | apply below_alloc | apply pw_below_drewN | apply below_drew1 | refine below_set ?_ GE106.out) | exact HB.out)⟩⟩
                  · rw [if_neg c14] at H
                    have c14b0 : ((x4_1.length : Int) == 0) = false := beq_eq_false_iff_ne.mpr c14
                    have c14b1 : ((x4_1.length : Int) != 0) = true := bne_iff_ne.mpr c14
                    have c14b2 : ¬ (x4_1 = []) := fun h_ => c14 (by rw [h_]; rfl)
                    (first | rw [c14b0] | (simp only [i64_w, i32_w]; rw [c14b0]) | skip)
                    have H' := Aside0.mk H
                    clear H
                    obtain ⟨Ao16, co16, eo16⟩ := Kd.R_slice HO_4.out
                    subst eo16
                    go_wp2
                    go_meet
                    case rel => exact ⟨_, ((t107 != 0)), (by first | rfl | (simp; done) | (simp [*]; done)), H', ⟨by have := HK1.out; first | omega | exact Nat.le_refl _⟩, ⟨by (with_reducible repeat (first | apply Kd.R_alloc | apply Kd.R_drewN | apply Kd.R_drew)); exact HO_4.out⟩, ⟨by (with_reducible repeat (first | refine blk_drewN ?_ _ | refine blk_drew ?_ | refine blk_alloc ?_ _)); exact BK106.out⟩, ⟨by repeat (first | (with_reducible first | exact HB.out | apply below_alloc | apply pw_below_drewN | apply below_drew1 | refine below_set ?_ GE106.out) | exact HB.out)⟩⟩
                case rest =>
                  clear HC10
                  try clear c1
                  try clear p1
                  try clear q1
                  try clear hx1
                  try clear c2
                  try clear c2b0
                  try clear c2b1
                  try clear c2b2
                  try clear p2
                  try clear c3
                  try clear c3b0
                  try clear c3b1
                  try clear c4
                  try clear c6
                  try clear c6b0
                  try clear c7
                  try clear c7b0
                  try clear c8
                  try clear c8b0
                  try clear p10
                  try clear q10
                  try clear hx10
                  try clear c14
                  try clear c14b0
                  try clear c14b1
                  try clear c14b2
                  try clear hcz12_0
                  try clear hcz12_1
                  try clear hcz12_2
                  try clear hcz12_3
                  try clear hfz12_0
                  try clear hfz12_1
                  try clear hfz12_2
                  try clear hfz12_3
                  try clear hx105_0
                  try clear hx105_1
                  try clear hx105_2
                  try clear hx105_3
                  try clear p105
                  try clear p2
                  try clear q105
                  obtain ⟨kq, x30_9, rfl, HA, HJ9, HO_4, BK106, HB⟩ := hcut
                  cases kq with
                  | zero => exact absurd HA.out (by simp [data_Check.j1])
                  | succ kj9 =>
                    have H := HA.out
                    clear HA
                    simp only [data_Check.j1] at H
                    by_cases c17 : x30_9 = true
                    · subst c17
                      have H1 : (some (x20_1, 6)) = some (r1, r2) := by rw [if_pos rfl] at H; exact H
                      clear H
                      have H := H1
                      clear H1
                      simp only [Option.some.injEq, Prod.mk.injEq] at H
                      obtain ⟨rfl, rfl⟩ := H
                      go_wp2
                      go_ret2
                      exact ⟨by first | rfl | (simp [errW_none, errW_some] <;> rfl) | (simp [*, errW_none, errW_some] <;> rfl), by repeat (first | (with_reducible first | exact HB.out | apply below_alloc | apply pw_below_drewN | apply below_drew1 | refine below_set ?_ GE106.out) | exact HB.out)⟩
                    · replace c17 := Bool.eq_false_iff.mpr c17
                      subst c17
                      have H1 : (if (x4_1.length : Int) > 33 then (some (x20_1, 3)) else (if t108 = 0 then (if 0 ≤ (wrap64 ((x4_1.length : Int) - 1)) then (if (wrap64 ((x4_1.length : Int) - 1)) < (x4_1.length : Int) then ((some (x4_1.set ((wrap64 ((x4_1.length : Int) - 1)) : Int).toNat (wrap64 ((rd x4_1 (wrap64 ((x4_1.length : Int) - 1))) - 1)) : List Int)).bind fun y110 => (if y110.length < 17592186044416 then (data_Check.l1 kj9 l0 (y110 ++ [((rd_T51 l0 x20_1).f1)]) l0 (l0.length : Int) x20_1) else (none))) else (none)) else (none)) else (some (x20_1, t108)))) = some (r1, r2) := by rw [if_neg (show ¬ (false = true) by decide)] at H; exact H
                      clear H
                      have H := H1
                      clear H1
                      by_cases c18 : (x4_1.length : Int) > 33
                      · rw [if_pos c18] at H
                        have c18b0 : decide (33 < (x4_1.length : Int)) = true := decide_eq_true c18
                        have c18b1 : decide (33 < x4_1.length) = true := decide_eq_true (by omega)
                        clear c18
                        simp only [Option.some.injEq, Prod.mk.injEq] at H
                        obtain ⟨rfl, rfl⟩ := H
                        obtain ⟨Ao19, co19, eo19⟩ := Kd.R_slice HO_4.out
                        subst eo19
                        go_wp2
                        go_ret2
                        exact ⟨by first | rfl | (simp [errW_none, errW_some] <;> rfl) | (simp [*, errW_none, errW_some] <;> rfl), by repeat (first | (with_reducible first | exact HB.out | apply below_alloc | apply pw_below_drewN | apply below_drew1 | refine below_set ?_ GE106.out) | exact HB.out)⟩
                      · rw [if_neg c18] at H
                        have c18b0 : decide (33 < (x4_1.length : Int)) = false := decide_eq_false c18
                        have c18b1 : decide (33 < x4_1.length) = false := decide_eq_false (by omega)
                        clear c18
                        by_cases c20 : t108 = 0
                        · rw [if_pos c20] at H
                          have c20b0 : (t108 == 0) = true := beq_iff_eq.mpr c20
                          have c20b1 : (t108 != 0) = false := bne_eq_false_iff_eq.mpr c20
                          clear c20
                          obtain ⟨ji21, hji21⟩ : ∃ j_ : Int, (wrap64 ((x4_1.length : Int) - 1)) = j_ := ⟨_, rfl⟩
                          replace H : (if 0 ≤ (ji21) then (if (ji21) < (x4_1.length : Int) then ((some (x4_1.set ((ji21) : Int).toNat (wrap64 ((rd x4_1 (ji21)) - 1)) : List Int)).bind fun y110 => (if y110.length < 17592186044416 then (data_Check.l1 kj9 l0 (y110 ++ [((rd_T51 l0 x20_1).f1)]) l0 (l0.length : Int) x20_1) else (none))) else (none)) else (none)) = some (r1, r2) := by first | (rw [hji21] at H; exact H) | (simp only [hji21] at H ⊢; exact H)
                          have hji21w : (IntKind.i64.wrap ((x4_1.length : Int) - 1)) = ji21 := (i64_w _).trans hji21
                          by_cases c22 : 0 ≤ (ji21)
                          · rw [if_pos c22] at H
                            have c22b0 : decide (0 ≤ (ji21)) = true := decide_eq_true c22
                            clear c22
                            by_cases c23 : (ji21) < (x4_1.length : Int)
                            · rw [if_pos c23] at H
                              have c23b0 : decide ((ji21) < (x4_1.length : Int)) = true := decide_eq_true c23
                              clear c23
                              obtain ⟨y110, hy110⟩ : ∃ y_ : List Int, y_ = (x4_1.set ((ji21) : Int).toNat (wrap64 ((rd x4_1 (ji21)) - 1))) := ⟨_, rfl⟩
                              replace H : (if y110.length < 17592186044416 then (data_Check.l1 kj9 l0 (y110 ++ [((rd_T51 l0 x20_1).f1)]) l0 (l0.length : Int) x20_1) else (none)) = some (r1, r2) := by first | (rw [hy110]; with_reducible exact H) | (have H2_ := (Option.bind_some _ _).symm.trans H; rw [hy110]; with_reducible exact H2_) | (have H2_ := (Option.bind_some _ _).symm.trans H; with_reducible exact H2_) | with_reducible exact H | (rw [hy110]; exact H) | exact H
                              have Ny110 := Aside0.mk hy110
                              clear hy110
                              by_cases c25 : y110.length < 17592186044416
                              · rw [if_pos c25] at H
                                have LMc25 := Aside0.mk c25
                                clear c25
                                obtain ⟨y111, hy111⟩ : ∃ y_ : List Int, y_ = (y110 ++ [((rd_T51 l0 x20_1).f1)]) := ⟨_, rfl⟩
                                replace H : (data_Check.l1 kj9 l0 y111 l0 (l0.length : Int) x20_1) = some (r1, r2) := by first | (rw [hy111]; with_reducible exact H) | (have H2_ := (Option.bind_some _ _).symm.trans H; rw [hy111]; with_reducible exact H2_) | (have H2_ := (Option.bind_some _ _).symm.trans H; with_reducible exact H2_) | with_reducible exact H | (rw [hy111]; exact H) | exact H
                                have Ny111 := Aside0.mk hy111
                                clear hy111
                                have H' := Aside0.mk H
                                clear H
                                obtain ⟨Ao26, co26, eo26⟩ := Kd.R_slice HO_4.out
                                subst eo26
                                have p109 : 0 ≤ ((ji21) : Int) := of_decide_eq_true (by first | (with_reducible assumption) | assumption)
                                have q109 : (ji21) < (x4_1.length : Int) := of_decide_eq_true (by first | (with_reducible assumption) | assumption)
                                obtain ⟨ad109, e109, hx109_0⟩ := Kd.at_int (Kd.R_reads' HO_4.out).2.2 (ji21) p109 q109
                                cases e109
                                replace p109 := eq_true p109
                                replace q109 := eq_true q109
                                have p24 : 0 ≤ ((ji21) : Int) := of_decide_eq_true (by first | (with_reducible assumption) | assumption)
                                have q24 : ((ji21) : Int) < ((x4_1.length : Int) : Int) := of_decide_eq_true (by first | (with_reducible assumption) | assumption)
                                obtain ⟨go24, co24, eo24, gb24, gl24, cl24, HG24⟩ := Kd.R_form HO_4.out (by omega)
                                (first | cases eo24 | (injection eo24 with ea_ en_ ec_; (first | subst ea_ | (injection ea_ with ea_; subst ea_)); subst ec_; clear en_))
                                have GB24 := Aside0.mk gb24
                                have GG24 := Aside0.mk HG24
                                clear gb24 gl24 HG24
                                (first | simp only [add_plain] at hx109_0 | skip)
                                obtain ⟨hx24_0, hf24_0⟩ := Kd.R_celln 0 HO_4.out ((ji21) : Int) p24 q24
                                replace p24 := eq_true p24
                                replace q24 := eq_true q24
                                have HP27 := Kd.R_putg HO_4.out ((ji21) : Int) (wrap64 ((rd x4_1 (ji21)) - 1))
                                go_wp2_with (first | ((with_reducible refine gate_store (t := 3) (p := 56) rfl ?_); refine store_event (t := 3) (p := 56) (v := ?vo_w28) (w1 := (wc.setCell ⟨go24, ((ji21) : Int).toNat, none⟩ (.int .i64 (wrap64 ((rd x4_1 (ji21)) - 1))))) ?hg ?ho ?hn ?hr ?_; (case ho => rfl); (case hg => rfl); (case hn => rfl); (case hr => first | (go_simp; done) | (go_simp; rfl)); intro w28 hw; have hg : wc.grownBy w28 (some go24) := (by rw [hw]; exact HP27.2); have hp_ : Kd.R (Kd.int .i64) 3 w28 w.heap.size (fun _ => True) (.slice (some ⟨go24, 0, none⟩) x4_1.length co26) y110 := (by rw [hw, Ny110.out]; exact HP27.1); clear HP27; have n0_ := Aside0.mk (hp_); have n1_ := Aside0.mk (blk_grown (g := gb106) (o := .cells #[.int .i64 ((rd_T51 l0 x20_1).f0), .int .i64 ((rd_T51 l0 x20_1).f1), .int .i64 ((rd_T51 l0 x20_1).f2), .string ((rd_T51 l0 x20_1).f3)] 51 (0, 0)) (by (with_reducible repeat (first | refine blk_drewN ?_ _ | refine blk_drew ?_ | refine blk_alloc ?_ _)); exact BK106.out) hg (Kd.R_ne HO_4.out BK106.out (by decide))); have n2_ := Aside0.mk ((by rw [hw]; exact below_set (HB.out) GB24.out : Below w.heap.size w w28)); clear HO_4; clear BK106; clear HB; have HO_4 := n0_; have BK106 := n1_; have HB := n2_; clear n0_ n1_ n2_; clear hg hw hp_; have hcz29_0 : w28.cell? ⟨gb106, 0, none⟩ = some (.int .i64 ((rd_T51 l0 x20_1).f0)) := (blk_cell BK106.out 0).trans rfl; have hcz29_1 : w28.cell? ⟨gb106, 1, none⟩ = some (.int .i64 ((rd_T51 l0 x20_1).f1)) := (blk_cell BK106.out 1).trans rfl; have hcz29_2 : w28.cell? ⟨gb106, 2, none⟩ = some (.int .i64 ((rd_T51 l0 x20_1).f2)) := (blk_cell BK106.out 2).trans rfl; have hcz29_3 : w28.cell? ⟨gb106, 3, none⟩ = some (.string ((rd_T51 l0 x20_1).f3)) := (blk_cell BK106.out 3).trans rfl; have hfz29_0 := blk_frozen BK106.out 0; have hfz29_1 := blk_frozen BK106.out 1; have hfz29_2 := blk_frozen BK106.out 2; have hfz29_3 := blk_frozen BK106.out 3) | ((with_reducible refine gate_builtin (b := .append) (xs := #[.tmp 57, .tmp 60]) rfl ?_); (try (refine gate_guard (by rfl) ?_; dsimp only)); at_builtin; refine Kd.R_append (Kd.int .i64) (w0 := w) w.heap.size rfl (.tmp 57) (.tmp 60) 30 3 (.int .i64 0) 8 rfl Tryd.underlying30 info3 rfl (by decide) (by omega) (.slice (some ⟨go24, 0, none⟩) x4_1.length co26) y110 ((rd_T51 l0 x20_1).f1) [.int .i64 ((rd_T51 l0 x20_1).f1)] (fun _ => True) (fun _ => False) rfl rfl ?aP (fun _ hk => hk.elim) ?aF ?aO ?aB ?aS ?aL ?_; (case aP => exact rfl); (case aB => exact (by repeat (first | (with_reducible first | exact HB.out | apply below_alloc | apply pw_below_drewN | apply below_drew1 | refine below_set ?_ GE106.out) | exact HB.out))); (case aF => exact (fun _ _ => trivial)); (case aO => exact (by (with_reducible repeat (first | apply Kd.R_alloc | apply Kd.R_drewN | apply Kd.R_drew)); exact HO_4.out)); (case aS => exact (below_size (by repeat (first | (with_reducible first | exact HB.out | apply below_alloc | apply pw_below_drewN | apply below_drew1 | refine below_set ?_ GE106.out) | exact HB.out)))); (case aL => have := LMc25.out; omega); intro v112 w30 ho hb hg hat; rw [← Ny111.out] at ho; have n0_ := Aside0.mk (blk_grown (g := gb106) (o := .cells #[.int .i64 ((rd_T51 l0 x20_1).f0), .int .i64 ((rd_T51 l0 x20_1).f1), .int .i64 ((rd_T51 l0 x20_1).f2), .string ((rd_T51 l0 x20_1).f3)] 51 (0, 0)) (by (with_reducible repeat (first | refine blk_drewN ?_ _ | refine blk_drew ?_ | refine blk_alloc ?_ _)); exact BK106.out) hg (Kd.R_ne HO_4.out BK106.out (by decide))); have n1_ := Aside0.mk (hb); have n2_ := Aside0.mk (ho); clear BK106; clear HB; clear HO_4; have BK106 := n0_; have HB := n1_; have HO113 := n2_; clear n0_ n1_ n2_; clear ho hb hg hat))
                                go_loopg [4] kj9 (fun kq v4 w' => ∃ (x4_3 : List Int), Aside0 (data_Check.l1 kq l0 x4_3 l0 (l0.length : Int) x20_1 = some (r1, r2)) ∧ Aside0 (kq ≤ kj9) ∧ Aside0 (Kd.R (Kd.int .i64) 3 w' w.heap.size (fun _ => True) v4 x4_3) ∧ Aside0 (w'.heap[gb106]? = some (.cells #[.int .i64 ((rd_T51 l0 x20_1).f0), .int .i64 ((rd_T51 l0 x20_1).f1), .int .i64 ((rd_T51 l0 x20_1).f2), .string ((rd_T51 l0 x20_1).f3)] 51 (0, 0))) ∧ Aside0 (Below w.heap.size w w'))
                                case atStart => exact ⟨(y111), H', ⟨Nat.le_refl _⟩, ⟨by (with_reducible repeat (first | apply Kd.R_alloc | apply Kd.R_drewN | apply Kd.R_drew)); exact HO113.out⟩, ⟨by (with_reducible repeat (first | refine blk_drewN ?_ _ | refine blk_drew ?_ | refine blk_alloc ?_ _)); exact BK106.out⟩, ⟨by repeat (first | (with_reducible first | exact HB.out | apply below_alloc | apply pw_below_drewN | apply below_drew1 | refine below_set ?_ GE106.out) | exact HB.out)⟩⟩
                                case round =>
                                  clear H'
                                  try clear c1
                                  try clear p1
                                  try clear q1
                                  try clear hx1
                                  try clear c2
                                  try clear c2b0
                                  try clear c2b1
                                  try clear c2b2
                                  try clear p2
                                  try clear q2
                                  try clear hx2
                                  try clear hf2
                                  try clear c3
                                  try clear c3b0
                                  try clear c3b1
                                  try clear c4
                                  try clear c6
                                  try clear c6b0
                                  try clear p6
                                  try clear c7
                                  try clear c7b0
                                  try clear c8
                                  try clear c8b0
                                  try clear p10
                                  try clear q10
                                  try clear hx10
                                  try clear c14
                                  try clear c14b0
                                  try clear c14b1
                                  try clear c14b2
                                  try clear c17
                                  try clear c18
                                  try clear c18b0
                                  try clear c18b1
                                  try clear c20
                                  try clear c20b0
                                  try clear c20b1
                                  try clear c22
                                  try clear c22b0
                                  try clear c23
                                  try clear c23b0
                                  try clear p24
                                  try clear q24
                                  try clear hx24
                                  try clear hf24
                                  try clear c25
                                  try clear hcz12_0
                                  try clear hcz12_1
                                  try clear hcz12_2
                                  try clear hcz12_3
                                  try clear hcz29_0
                                  try clear hcz29_1
                                  try clear hcz29_2
                                  try clear hcz29_3
                                  try clear hfz12_0
                                  try clear hfz12_1
                                  try clear hfz12_2
                                  try clear hfz12_3
                                  try clear hfz29_0
                                  try clear hfz29_1
                                  try clear hfz29_2
                                  try clear hfz29_3
                                  try clear hx105_0
                                  try clear hx105_1
                                  try clear hx105_2
                                  try clear hx105_3
                                  try clear hx109_0
                                  try clear hx24_0
                                  try clear p1
                                  try clear p10
                                  try clear p105
                                  try clear p109
                                  try clear p2
                                  try clear p24
                                  try clear q1
                                  try clear q10
                                  try clear q105
                                  try clear q109
                                  try clear q24
                                  obtain ⟨x4_3, HA, HK3, HO_4, BK106, HB⟩ := hrel
                                  cases gk with
                                  | zero => exact absurd HA.out (by simp [data_Check.l1])
                                  | succ k3 =>
                                    have H := HA.out
                                    clear HA
                                    simp only [data_Check.l1] at H
                                    by_cases c31 : (x4_3.length : Int) > 0
                                    · rw [if_pos c31] at H
                                      have c31b0 : decide (0 < (x4_3.length : Int)) = true := decide_eq_true c31
                                      have c31b1 : decide (0 < x4_3.length) = true := decide_eq_true (by omega)
                                      clear c31
                                      obtain ⟨ji32, hji32⟩ : ∃ j_ : Int, (wrap64 ((x4_3.length : Int) - 1)) = j_ := ⟨_, rfl⟩
                                      replace H : (if 0 ≤ (ji32) then (if (ji32) < (x4_3.length : Int) then (if (rd x4_3 (ji32)) = 0 then (if (ji32) ≤ (x4_3.length : Int) then (data_Check.l1 k3 l0 (x4_3.take ((ji32) : Int).toNat) l0 (l0.length : Int) x20_1) else (none)) else (data_Check.l0 k3 l0 x4_3 l0 (l0.length : Int) (wrap64 (x20_1 + 1)))) else (none)) else (none)) = some (r1, r2) := by first | (rw [hji32] at H; exact H) | (simp only [hji32] at H ⊢; exact H)
                                      have hji32w : (IntKind.i64.wrap ((x4_3.length : Int) - 1)) = ji32 := (i64_w _).trans hji32
                                      by_cases c33 : 0 ≤ (ji32)
                                      · rw [if_pos c33] at H
                                        have c33b0 : decide (0 ≤ (ji32)) = true := decide_eq_true c33
                                        clear c33
                                        by_cases c34 : (ji32) < (x4_3.length : Int)
                                        · rw [if_pos c34] at H
                                          have c34b0 : decide ((ji32) < (x4_3.length : Int)) = true := decide_eq_true c34
                                          clear c34
                                          by_cases c35 : (rd x4_3 (ji32)) = 0
                                          · rw [if_pos c35] at H
                                            have c35b0 : ((rd x4_3 (ji32)) == 0) = true := beq_iff_eq.mpr c35
                                            have c35b1 : ((rd x4_3 (ji32)) != 0) = false := bne_eq_false_iff_eq.mpr c35
                                            clear c35
                                            by_cases c36 : (ji32) ≤ (x4_3.length : Int)
                                            · rw [if_pos c36] at H
                                              have c36b0 := eq_true c36
                                              have c36b1 : decide ((ji32) ≤ (x4_3.length : Int)) = true := decide_eq_true c36
                                              clear c36
                                              obtain ⟨y115, hy115⟩ : ∃ y_ : List Int, y_ = (x4_3.take ((ji32) : Int).toNat) := ⟨_, rfl⟩
                                              replace H : (data_Check.l1 k3 l0 y115 l0 (l0.length : Int) x20_1) = some (r1, r2) := by first | (rw [hy115]; with_reducible exact H) | (have H2_ := (Option.bind_some _ _).symm.trans H; rw [hy115]; with_reducible exact H2_) | (have H2_ := (Option.bind_some _ _).symm.trans H; with_reducible exact H2_) | with_reducible exact H | (rw [hy115]; exact H) | exact H
                                              have Ny115 := Aside0.mk hy115
                                              clear hy115
                                              have H' := Aside0.mk H
                                              clear H
                                              obtain ⟨Ao37, co37, eo37⟩ := Kd.R_slice HO_4.out
                                              subst eo37
                                              have p114 : 0 ≤ ((ji32) : Int) := of_decide_eq_true (by first | (with_reducible assumption) | assumption)
                                              have q114 : (ji32) < (x4_3.length : Int) := of_decide_eq_true (by first | (with_reducible assumption) | assumption)
                                              obtain ⟨ad114, e114, hx114_0⟩ := Kd.at_int (Kd.R_reads' HO_4.out).2.2 (ji32) p114 q114
                                              cases e114
                                              replace p114 := eq_true p114
                                              replace q114 := eq_true q114
                                              have q38 : ((ji32) : Int) ≤ ((x4_3.length : Int) : Int) := of_decide_eq_true (by first | (with_reducible assumption) | assumption)
                                              obtain ⟨i038, hi038, _, hsz38, _⟩ := info_parts info3
                                              have hcut38 := cut_to (P := Tryd.prog) 30 3 .i64 Tryd.underlying30 hi038 (some ad114) x4_3.length co37 (ji32) (of_decide_eq_true (by first | (with_reducible assumption) | assumption)) q38 (Kd.R_reads' HO_4.out).2.1
                                              have hr38 := Kd.R_take (m := ((ji32) : Int).toNat) HO_4.out (by omega)
                                              have hy38 : y115.length = ((ji32) : Int).toNat := (by rw [Ny115.out, List.length_take]; omega)
                                              rw [← Ny115.out] at hr38
                                              rw [← hy38] at hr38 hcut38
                                              clear hy38 hi038 hsz38 HO_4
                                              have HO117 := Aside0.mk hr38
                                              clear hr38
                                              replace q38 := eq_true q38
                                              go_wp2
                                              go_roundg k3
                                              case measure => have := HK1.out; have := HJ9.out; have := HK3.out; omega
                                              case rel => exact ⟨(y115), H', ⟨by have := HK1.out; have := HJ9.out; have := HK3.out; omega⟩, ⟨by (with_reducible repeat (first | apply Kd.R_alloc | apply Kd.R_drewN | apply Kd.R_drew)); exact HO117.out⟩, ⟨by (with_reducible repeat (first | refine blk_drewN ?_ _ | refine blk_drew ?_ | refine blk_alloc ?_ _)); exact BK106.out⟩, ⟨by repeat (first | (with_reducible first | exact HB.out | apply below_alloc | apply pw_below_drewN | apply below_drew1 | refine below_set ?_ GE106.out) | exact HB.out)⟩⟩
                                            · rw [if_neg c36] at H
                                              exact absurd H (by simp)
                                          · rw [if_neg c35] at H
                                            have c35b0 : ((rd x4_3 (ji32)) == 0) = false := beq_eq_false_iff_ne.mpr c35
                                            have c35b1 : ((rd x4_3 (ji32)) != 0) = true := bne_iff_ne.mpr c35
                                            have H' := Aside0.mk H
                                            clear H
                                            obtain ⟨Ao39, co39, eo39⟩ := Kd.R_slice HO_4.out
                                            subst eo39
                                            have p114 : 0 ≤ ((ji32) : Int) := of_decide_eq_true (by first | (with_reducible assumption) | assumption)
                                            have q114 : (ji32) < (x4_3.length : Int) := of_decide_eq_true (by first | (with_reducible assumption) | assumption)
                                            obtain ⟨ad114, e114, hx114_0⟩ := Kd.at_int (Kd.R_reads' HO_4.out).2.2 (ji32) p114 q114
                                            cases e114
                                            replace p114 := eq_true p114
                                            replace q114 := eq_true q114
                                            go_wp2
                                            go_roundg k3
                                            case measure => have := HK1.out; have := HJ9.out; have := HK3.out; omega
                                            case rel => exact ⟨(x4_3), (wrap64 (x20_1 + 1)), (by first | rfl | (simp; done) | (simp [*]; done)), H', ⟨by have := HK1.out; have := HJ9.out; have := HK3.out; omega⟩, ⟨by (with_reducible repeat (first | apply Kd.R_alloc | apply Kd.R_drewN | apply Kd.R_drew)); exact HO_4.out⟩, ⟨by repeat (first | (with_reducible first | exact HB.out | apply below_alloc | apply pw_below_drewN | apply below_drew1 | refine below_set ?_ GE106.out) | exact HB.out)⟩⟩
                                        · rw [if_neg c34] at H
                                          exact absurd H (by simp)
                                      · rw [if_neg c33] at H
                                        exact absurd H (by simp)
                                    · rw [if_neg c31] at H
                                      have c31b0 : decide (0 < (x4_3.length : Int)) = false := decide_eq_false c31
                                      have c31b1 : decide (0 < x4_3.length) = false := decide_eq_false (by omega)
                                      clear c31
                                      have H' := Aside0.mk H
                                      clear H
                                      obtain ⟨Ao40, co40, eo40⟩ := Kd.R_slice HO_4.out
                                      subst eo40
                                      go_wp2
                                      go_roundg k3
                                      case measure => have := HK1.out; have := HJ9.out; have := HK3.out; omega
                                      case rel => exact ⟨(x4_3), (wrap64 (x20_1 + 1)), (by first | rfl | (simp; done) | (simp [*]; done)), H', ⟨by have := HK1.out; have := HJ9.out; have := HK3.out; omega⟩, ⟨by (with_reducible repeat (first | apply Kd.R_alloc | apply Kd.R_drewN | apply Kd.R_drew)); exact HO_4.out⟩, ⟨by repeat (first | (with_reducible first | exact HB.out | apply below_alloc | apply pw_below_drewN | apply below_drew1 | refine below_set ?_ GE106.out) | exact HB.out)⟩⟩
                              · rw [if_neg c25] at H
                                exact absurd H (by simp)
                            · rw [if_neg c23] at H
                              exact absurd H (by simp)
                          · rw [if_neg c22] at H
                            exact absurd H (by simp)
                        · rw [if_neg c20] at H
                          have c20b0 : (t108 == 0) = false := beq_eq_false_iff_ne.mpr c20
                          have c20b1 : (t108 != 0) = true := bne_iff_ne.mpr c20
                          simp only [Option.some.injEq, Prod.mk.injEq] at H
                          obtain ⟨rfl, rfl⟩ := H
                          obtain ⟨Ao41, co41, eo41⟩ := Kd.R_slice HO_4.out
                          subst eo41
                          go_wp2
                          go_ret2
                          exact ⟨by first | rfl | (simp [errW_none, errW_some] <;> rfl) | (simp [*, errW_none, errW_some] <;> rfl), by repeat (first | (with_reducible first | exact HB.out | apply below_alloc | apply pw_below_drewN | apply below_drew1 | refine below_set ?_ GE106.out) | exact HB.out)⟩
              · rw [if_neg c8] at H
                exact absurd H (by simp)
            · rw [if_neg c7] at H
              exact absurd H (by simp)
          · rw [if_neg c6] at H
            have c6b0 : decide (x20_1 < (l0.length : Int)) = false := decide_eq_false c6
            clear c6
            by_cases c42 : (x4_1.length : Int) > 0
            · rw [if_pos c42] at H
              have c42b0 : decide (0 < (x4_1.length : Int)) = true := decide_eq_true c42
              have c42b1 : decide (0 < x4_1.length) = true := decide_eq_true (by omega)
              clear c42
              simp only [Option.some.injEq, Prod.mk.injEq] at H
              obtain ⟨rfl, rfl⟩ := H
              obtain ⟨Ao43, co43, eo43⟩ := Kd.R_slice HO_4.out
              subst eo43
              go_wp2
              go_ret2
              exact ⟨by first | rfl | (simp [errW_none, errW_some] <;> rfl) | (simp [*, errW_none, errW_some] <;> rfl), by repeat (first | (with_reducible first | exact HB.out | apply below_alloc | apply pw_below_drewN | apply below_drew1) | exact HB.out)⟩
            · rw [if_neg c42] at H
              have c42b0 : decide (0 < (x4_1.length : Int)) = false := decide_eq_false c42
              have c42b1 : decide (0 < x4_1.length) = false := decide_eq_false (by omega)
              clear c42
              simp only [Option.some.injEq, Prod.mk.injEq] at H
              obtain ⟨rfl, rfl⟩ := H
              obtain ⟨Ao44, co44, eo44⟩ := Kd.R_slice HO_4.out
              subst eo44
              go_wp2
              go_ret2
              exact ⟨by first | rfl | (simp [errW_none, errW_some] <;> rfl) | (simp [*, errW_none, errW_some] <;> rfl), by repeat (first | (with_reducible first | exact HB.out | apply below_alloc | apply pw_below_drewN | apply below_drew1) | exact HB.out)⟩
end Go.Proofs.YtgmiekggdgmhkaaDoor.Q
end
