import Derived.BigQuiet
import Derived.BigRegion
import Derived.Deep.QuietTactic
import Derived.Deep.RegionWith
import Derived.Test.YtgmiekggdgmhkaaDoorMK15
import Derived.Test.YtgmiekggdgmhkaaDoorMK19
import Derived.Test.YtgmiekggdgmhkaaDoorMK20
section
/- data.Put of any data. -/
namespace Go.Proofs.YtgmiekggdgmhkaaDoor.Q
open Go.RowKit Go.Proofs.YtgmiekggdgmhkaaDoorW.PrintWords Go.Proofs.YtgmiekggdgmhkaaDoorW.PrintLast Go.Proofs.YtgmiekggdgmhkaaDoorW.PrintMore
set_option linter.unusedVariables false
set_option linter.unusedSimpArgs false
/-- what Put makes -/
def putL (t : List S51) (i : Int) (s : List S51) : List S51 := t.take i.toNat ++ (s ++ t.drop (endAt (kidsOf t) i.toNat))
def putF (t : List S51) (i : Int) (s : List S51) : List S51 × Int :=
  if (chkF t).2 ≠ 0 then ([], (chkF t).2) else if (chkF s).2 ≠ 0 then ([], (chkF s).2) else if nodeE t i ≠ 0 then ([], nodeE t i) else if (chkF (putL t i s)).2 ≠ 0 then ([], 3) else (putL t i s, 0)
def data_Put.f (l0 : List (S51)) (a1 : Int) (l2 : List (S51)) : Option ((List (S51)) × Int) := if inR l0 = true ∧ inR l2 = true then some (putF l0 a1 l2) else none
set_option maxRecDepth 100000 in
set_option maxHeartbeats 1000000 in
theorem put_1 (A : Option Addr) (c : Nat) (t : List S51) (i : Int) (B : Option Addr) (d : Nat) (s : List S51) (w : World) (hr : Kd.C k51 w A t.length t) (hc : t.length ≤ c) (hG : G0 w) (hR : InR t) (h : (chkF t).2 ≠ 0) :
    Calls Tryd.prog 21 #[.slice A t.length c, .int .i64 i, .slice B s.length d] w fun e w' => e = .returned (.tuple #[.slice none 0 0, .int .i64 (chkF t).2]) ∧ Below w.heap.size w w' := by
  have hcl := of_bad A c t w hr hc hG hR h
  have hne : ((chkF t).2 != 0) = true := bne_iff_ne.mpr h
  generalize (chkF t).2 = q at hcl hne
  have HC := Aside0.mk hcl
  clear hcl hr hc hG hR h
  go_enter Tryd.func21, Tryd.ntmps21
  go_wp2_with (go_at_call 62; refine HC.out.mono ?_; rintro e w1 ⟨⟨A1, n1, c1, A2, n2, c2, rfl⟩, hb1⟩)
  go_ret2
  exact ⟨rfl, (by repeat (first | exact hb1 | apply below_alloc | apply pw_below_drewN | apply below_drew))⟩
set_option maxRecDepth 100000 in
set_option maxHeartbeats 1000000 in
theorem put_2 (A : Option Addr) (c : Nat) (t : List S51) (i : Int) (B : Option Addr) (d : Nat) (s : List S51) (w : World) (hr : Kd.C k51 w A t.length t) (hc : t.length ≤ c) (hs : Kd.C k51 w B s.length s) (hd : s.length ≤ d) (hG : G0 w) (hR : InR t) (hRs : InR s) (h : (chkF t).2 = 0) (h2 : (chkF s).2 ≠ 0) :
    Calls Tryd.prog 21 #[.slice A t.length c, .int .i64 i, .slice B s.length d] w fun e w' => e = .returned (.tuple #[.slice none 0 0, .int .i64 (chkF s).2]) ∧ Below w.heap.size w w' := by
  have hcl := of_ok A c t w hr hc hG hR h
  have HC := Aside0.mk hcl
  have hck : ∀ W, Below w.heap.size w W → _ := fun W hb => chk_cl B d s W (Kd.C_below hs hb) hd (G0_keep hG hb) hRs
  have hne : ((chkF s).2 != 0) = true := bne_iff_ne.mpr h2
  generalize (chkF s).2 = q at hck hne
  have HK := Aside0.mk hck
  clear hcl hr hc hG hR h h2 hs hd hRs hck
  go_enter Tryd.func21, Tryd.ntmps21
  go_wp2_with (first
    | (go_at_call 62; refine HC.out.mono ?_; rintro e w1 ⟨A1, c1, A2, c2, rfl, _, _, hb1⟩)
    | (go_at_call 14; refine (HK.out _ (by repeat (first | exact hb1 | apply below_alloc | apply pw_below_drewN | apply below_drew))).mono ?_; rintro e w2 ⟨rfl, hb2⟩; replace hb1 := below_step (by repeat (first | exact hb1 | apply below_alloc | apply pw_below_drewN | apply below_drew)) hb2; clear hb2))
  go_ret2
  exact ⟨rfl, (by repeat (first | exact hb1 | apply below_alloc | apply pw_below_drewN | apply below_drew))⟩
set_option maxRecDepth 100000 in
set_option maxHeartbeats 1000000 in
theorem put_3 (A : Option Addr) (c : Nat) (t : List S51) (i : Int) (B : Option Addr) (d : Nat) (s : List S51) (w : World) (hr : Kd.C k51 w A t.length t) (hc : t.length ≤ c) (hs : Kd.C k51 w B s.length s) (hd : s.length ≤ d) (hG : G0 w) (hR : InR t) (hRs : InR s) (h : (chkF t).2 = 0) (h2 : (chkF s).2 = 0) (h3 : nodeE t i ≠ 0) :
    Calls Tryd.prog 21 #[.slice A t.length c, .int .i64 i, .slice B s.length d] w fun e w' => e = .returned (.tuple #[.slice none 0 0, .int .i64 (nodeE t i)]) ∧ Below w.heap.size w w' := by
  have hcl := of_ok A c t w hr hc hG hR h
  have HC := Aside0.mk hcl
  have hck : ∀ W, Below w.heap.size w W → _ := fun W hb => chk_cl B d s W (Kd.C_below hs hb) hd (G0_keep hG hb) hRs
  have hnd : ∀ W, Below w.heap.size w W → _ := fun W hb => node_bad A c t i W (Kd.C_below hr hb) hc (G0_keep hG hb) hR
  rw [h2] at hck
  have hne : (nodeE t i != 0) = true := bne_iff_ne.mpr h3
  generalize nodeE t i = q at hnd hne
  have HK := Aside0.mk hck
  have HN := Aside0.mk hnd
  clear hcl hr hc hG hR h h2 hs hd hRs hck hnd h3
  go_enter Tryd.func21, Tryd.ntmps21
  go_wp2_with (first
    | (go_at_call 62; refine HC.out.mono ?_; rintro e w1 ⟨A1, c1, A2, c2, rfl, _, _, hb1⟩)
    | (go_at_call 14; refine (HK.out _ (by repeat (first | exact hb1 | apply below_alloc | apply pw_below_drewN | apply below_drew))).mono ?_; rintro e w2 ⟨rfl, hb2⟩; replace hb1 := below_step (by repeat (first | exact hb1 | apply below_alloc | apply pw_below_drewN | apply below_drew)) hb2; clear hb2)
    | (go_at_call 63; refine (HN.out _ (by repeat (first | exact hb1 | apply below_alloc | apply pw_below_drewN | apply below_drew))).mono ?_; rintro e w3 ⟨⟨A1', n1', c1', A2', n2', c2', rfl⟩, hb3⟩; replace hb1 := below_step (by repeat (first | exact hb1 | apply below_alloc | apply pw_below_drewN | apply below_drew)) hb3; clear hb3))
  go_ret2
  exact ⟨rfl, (by repeat (first | exact hb1 | apply below_alloc | apply pw_below_drewN | apply below_drew))⟩
theorem rows3_C (W : World) (b n1 n2 n3 c1 c2 c3 : Nat) (A1 A2 A3 : Option Addr) (l1 l2 l3 : List S51) (hb : W.heap[b]? = some (.cells #[.slice A1 n1 c1, .slice A2 n2 c2, .slice A3 n3 c3] 22 (0, 0)))
    (e1 : l1.length = n1) (e2 : l2.length = n2) (e3 : l3.length = n3) (m1 : n1 ≤ c1) (m2 : n2 ≤ c2) (m3 : n3 ≤ c3) (h1 : Kd.C k51 W A1 l1.length l1) (h2 : Kd.C k51 W A2 l2.length l2) (h3 : Kd.C k51 W A3 l3.length l3) :
    Kd.C (Kd.slice 51 k51) W (some ⟨b, 0, none⟩) 3 [l1, l2, l3] := by
  subst e1 e2 e3
  refine ⟨rfl, by omega, fun _ => ⟨⟨b, 0, none⟩, rfl, fun j p hj => ?_⟩⟩
  match j, hj with
  | 0, hj => obtain rfl := Option.some.inj hj; exact ⟨[.slice A1 l1.length c1], rfl, ⟨A1, c1, rfl, m1, h1⟩, fun k u hk => by
      match k, hk with
      | 0, hk => obtain rfl := Option.some.inj hk; rw [Addr.add_lit, blk_cell hb]; rfl⟩
  | 1, hj => obtain rfl := Option.some.inj hj; exact ⟨[.slice A2 l2.length c2], rfl, ⟨A2, c2, rfl, m2, h2⟩, fun k u hk => by
      match k, hk with
      | 0, hk => obtain rfl := Option.some.inj hk; rw [Addr.add_lit, blk_cell hb]; rfl⟩
  | 2, hj => obtain rfl := Option.some.inj hj; exact ⟨[.slice A3 l3.length c3], rfl, ⟨A3, c3, rfl, m3, h3⟩, fun k u hk => by
      match k, hk with
      | 0, hk => obtain rfl := Option.some.inj hk; rw [Addr.add_lit, blk_cell hb]; rfl⟩
theorem ends_at (t : List S51) (i : Nat) (hi : i < t.length) : rd (endsAll (kidsOf t)) i = (endAt (kidsOf t) i : Nat) := by
  have h : i < (endsAll (kidsOf t)).length := by simpa [endsAll, kidsOf] using hi
  simp only [rd, Int.toNat_natCast, List.getD_eq_getElem?_getD, List.getElem?_eq_getElem h, Option.getD_some]
  simp [endsAll]
/-- the last call of Put, and what stands before it -/
theorem put_cat (w W : World) (b : Nat) (hbk : b = W.heap.size) (ad : Addr) (c i E : Nat) (t s : List S51) (B : Option Addr) (d : Nat) (hb : Below w.heap.size w W) (hr : Kd.C k51 w (some ad) t.length t) (hc : t.length ≤ c) (hs : Kd.C k51 w B s.length s) (hd : s.length ≤ d) (hi : i < t.length) (hE : E ≤ t.length) (ht : t.length ≤ 400) (hs4 : s.length ≤ 400) :
    Calls Tryd.prog 65 #[.slice (some ⟨b, 0, none⟩) 3 3] (W.alloc (.cells #[.slice (some ad) i c, .slice B s.length d, .slice (if c = E then some ad else some (ad.add (E * 4))) (t.length - E) (c - E)] 22)).drew
      fun e w' => ∃ A c', e = .returned (.slice A (t.take i ++ (s ++ t.drop E)).length c') ∧ Aside0 (Kd.R k51 51 w' w.heap.size (fun _ => True) (.slice A (t.take i ++ (s ++ t.drop E)).length c') (t.take i ++ (s ++ t.drop E))) ∧ Aside0 (Below w.heap.size w w') := by
  subst hbk
  have hB : Below w.heap.size w (W.alloc (.cells #[.slice (some ad) i c, .slice B s.length d, .slice (if c = E then some ad else some (ad.add (E * 4))) (t.length - E) (c - E)] 22)).drew := below_drew (below_alloc hb _)
  have hr' := Kd.C_below hr hB
  have hs' := Kd.C_below hs hB
  have hC : Kd.C (Kd.slice 51 k51) (W.alloc (.cells #[.slice (some ad) i c, .slice B s.length d, .slice (if c = E then some ad else some (ad.add (E * 4))) (t.length - E) (c - E)] 22)).drew (some ⟨W.heap.size, 0, none⟩) 3 [t.take i, s, t.drop E] := by
    refine rows3_C _ _ _ _ _ _ _ _ _ _ _ _ _ _ (World.alloc_heap_new W _) (by rw [List.length_take]; omega) rfl (by rw [List.length_drop]) (by omega) hd (by omega) (Kd.C_take hr' (by omega)) hs' ?_
    have := Kd.C_drop (c := c) hr' hE hc
    have e4 : k51.sz = 4 := rfl
    rw [e4] at this
    simpa using this
  have e : [t.take i, s, t.drop E].flatten = t.take i ++ (s ++ t.drop E) := by simp
  have hl : (t.take i ++ (s ++ t.drop E)).length ≤ 100000 := by simp; omega
  have := concat_any (some ⟨W.heap.size, 0, none⟩) 3 [t.take i, s, t.drop E] _ hC (by simp) (by rw [e]; exact hl)
  rw [e] at this
  refine this.mono ?_
  rintro e' w' ⟨v, rfl, hv, hb'⟩
  have hv2 := Kd.R_lower hv hB.size
  obtain ⟨A, c', rfl⟩ := Kd.R_slice hv2
  exact ⟨A, c', rfl, ⟨hv2⟩, ⟨below_step hB hb'⟩⟩
set_option maxRecDepth 100000 in
set_option maxHeartbeats 2000000 in
theorem put_4 (ad : Addr) (c : Nat) (t : List S51) (i : Nat) (B : Option Addr) (d : Nat) (s : List S51) (w : World) (hr : Kd.C k51 w (some ad) t.length t) (hc : t.length ≤ c) (hs : Kd.C k51 w B s.length s) (hd : s.length ≤ d) (hG : G0 w) (hR : InR t) (hRs : InR s) (h : (chkF t).2 = 0) (h2 : (chkF s).2 = 0) (h3 : nodeE t i = 0) (hi : i < t.length) (ht : t.length ≤ 400) (hs4 : s.length ≤ 400) (r1 : List S51) (r2 : Int)
    (E : Nat) (hE : rd (endsAll (kidsOf t)) i = E) (hE2 : E ≤ t.length) (L : List S51) (hL : t.take i ++ (s ++ t.drop E) = L)
    (hF : ∀ A c' W, Kd.R k51 51 W w.heap.size (fun _ => True) (.slice A L.length c') L → Below w.heap.size w W → Calls Tryd.prog 64 #[.slice A L.length c'] W fun e w' => ∃ A' n' c'', e = .returned (.tuple #[.slice A' n' c'', .int .i64 r2]) ∧ Aside0 (Kd.R k51 51 w' w.heap.size (fun _ => True) (.slice A' n' c'') r1) ∧ Aside0 (Below w.heap.size w w')) :
    Calls Tryd.prog 21 #[.slice (some ad) t.length c, .int .i64 i, .slice B s.length d] w fun e w' => ∃ v, e = .returned (.tuple #[v, .int .i64 r2]) ∧ Kd.R k51 51 w' w.heap.size (fun _ => True) v r1 ∧ Below w.heap.size w w' := by
  have hcl := of_ok (some ad) c t w hr hc hG hR h
  have HC := Aside0.mk hcl
  have hck : ∀ W, Below w.heap.size w W → _ := fun W hb => chk_cl B d s W (Kd.C_below hs hb) hd (G0_keep hG hb) hRs
  have hnd : ∀ W, Below w.heap.size w W → _ := fun W hb => node_ok (some ad) c t i W (Kd.C_below hr hb) hc (G0_keep hG hb) hR h3
  rw [h2] at hck
  have hct : ∀ W b, b = W.heap.size → Below w.heap.size w W → _ := fun W b hbk hb => put_cat w W b hbk ad c i E t s B d hb hr hc hs hd hi hE2 ht hs4
  rw [hL] at hct
  have hel : (endsAll (kidsOf t)).length = t.length := by simp [endsAll, kidsOf]
  generalize hes : endsAll (kidsOf t) = es at hE hnd hel
  have HK := Aside0.mk hck
  have HN := Aside0.mk hnd
  have HFF := Aside0.mk hF
  have HEL := Aside0.mk hel
  have HES := Aside0.mk hes
  have HEE := Aside0.mk hE
  have f1 : i ≤ c := by omega
  have f1I : (i : Int) ≤ c := by omega
  have f0I : (0 : Int) ≤ i := by omega
  have f2I : (E : Int) ≤ t.length := by omega
  have f3I : (0 : Int) ≤ E := by omega
  have f4I : (t.length : Int) ≤ c := by omega
  generalize hll : L.length = ln at *
  by_cases hcE : c = E
  · subst hcE
    simp only [if_true, Nat.sub_self] at hct
    rw [show t.length - c = 0 by omega] at hct
    have HT := Aside0.mk hct
    clear hcl hr hG hR h h2 hs hd hRs hck hnd h3 hF hct hel hes hE hL hll
    go_enter Tryd.func21, Tryd.ntmps21
    go_wp2_with (first
      | (go_at_call 62; refine HC.out.mono ?_; rintro e w1 ⟨A1, c1, A2, c2, rfl, _, _, hb1⟩)
      | (go_at_call 14; refine (HK.out _ (by repeat (first | exact hb1 | apply below_alloc | apply pw_below_drewN | apply below_drew))).mono ?_; rintro e w2 ⟨rfl, hb2⟩; replace hb1 := below_step (by repeat (first | exact hb1 | apply below_alloc | apply pw_below_drewN | apply below_drew)) hb2; clear hb2)
      | (go_at_call 63; refine (HN.out _ (by repeat (first | exact hb1 | apply below_alloc | apply pw_below_drewN | apply below_drew))).mono ?_; rintro e w3 ⟨A1', c1', A2', c2', rfl, _, ⟨_, hends⟩, hb3⟩; replace hb1 := below_step (by repeat (first | exact hb1 | apply below_alloc | apply pw_below_drewN | apply below_drew)) hb3; clear hb3; have hrd : ReadsInt w3 .i64 A2' es.length es := Kd.reads_of_C hends; obtain ⟨ade, rfl, hcell⟩ := hrd.at_ i (by have := HEL.out; omega) (by have := HEL.out; omega); rw [Int.toNat_natCast, HEE.out] at hcell; rw [HEL.out]; have hltb := World.block_lt_of_cell? _ _ hcell; have HB1 := Aside0.mk hb1; clear hends hrd hb1))
    go_region_with (first
      | (go_at_call 65; refine (HT.out _ _ (by rw [World.size_alloc]) (below_alloc HB1.out _)).mono ?_; rintro e w6 ⟨A6, c6, rfl, HR6, HB6⟩)
      | (go_at_call 64; refine (HFF.out _ _ _ HR6.out HB6.out).mono ?_; rintro e w7 ⟨A7, n7, c7, rfl, HR7, HB7⟩))
    go_wp2
    go_ret2
    exact ⟨_, rfl, HR7.out, HB7.out⟩
  · simp only [if_neg hcE] at hct
    have HT := Aside0.mk hct
    clear hcl hr hG hR h h2 hs hd hRs hck hnd h3 hF hct hel hes hE hL hll
    go_enter Tryd.func21, Tryd.ntmps21
    go_wp2_with (first
      | (go_at_call 62; refine HC.out.mono ?_; rintro e w1 ⟨A1, c1, A2, c2, rfl, _, _, hb1⟩)
      | (go_at_call 14; refine (HK.out _ (by repeat (first | exact hb1 | apply below_alloc | apply pw_below_drewN | apply below_drew))).mono ?_; rintro e w2 ⟨rfl, hb2⟩; replace hb1 := below_step (by repeat (first | exact hb1 | apply below_alloc | apply pw_below_drewN | apply below_drew)) hb2; clear hb2)
      | (go_at_call 63; refine (HN.out _ (by repeat (first | exact hb1 | apply below_alloc | apply pw_below_drewN | apply below_drew))).mono ?_; rintro e w3 ⟨A1', c1', A2', c2', rfl, _, ⟨_, hends⟩, hb3⟩; replace hb1 := below_step (by repeat (first | exact hb1 | apply below_alloc | apply pw_below_drewN | apply below_drew)) hb3; clear hb3; have hrd : ReadsInt w3 .i64 A2' es.length es := Kd.reads_of_C hends; obtain ⟨ade, rfl, hcell⟩ := hrd.at_ i (by have := HEL.out; omega) (by have := HEL.out; omega); rw [Int.toNat_natCast, HEE.out] at hcell; rw [HEL.out]; have hltb := World.block_lt_of_cell? _ _ hcell; have HB1 := Aside0.mk hb1; clear hends hrd hb1))
    go_region_with (first
      | (go_at_call 65; refine (HT.out _ _ (by rw [World.size_alloc]) (below_alloc HB1.out _)).mono ?_; rintro e w6 ⟨A6, c6, rfl, HR6, HB6⟩)
      | (go_at_call 64; refine (HFF.out _ _ _ HR6.out HB6.out).mono ?_; rintro e w7 ⟨A7, n7, c7, rfl, HR7, HB7⟩))
    go_wp2
    go_ret2
    exact ⟨_, rfl, HR7.out, HB7.out⟩
theorem endAt_le (t : List S51) (i : Nat) (hi : i ≤ t.length) : endAt (kidsOf t) i ≤ t.length := by
  unfold endAt
  cases h : eat ((kidsOf t).drop i) 1 with
  | none => simpa using hi
  | some m =>
    have := eat_le _ _ _ h
    rw [List.length_drop, kidsOf_len] at this
    simp; omega
theorem inR_put (t s : List S51) (i : Int) (h1 : InR t) (h2 : InR s) : InR (putL t i s) := fun x hx => by
  unfold putL at hx
  rcases List.mem_append.mp hx with hx | hx
  · exact h1 x (List.mem_of_mem_take hx)
  · rcases List.mem_append.mp hx with hx | hx
    · exact h2 x hx
    · exact h1 x (List.mem_of_mem_drop hx)
theorem data_Put.calls (A0 : Option Addr) (c0 : Nat) (l0 : List (S51)) (a1 : Int) (A2 : Option Addr) (c2 : Nat) (l2 : List (S51)) (r1 : List (S51)) (r2 : Int) (w : World) (hr0 : Kd.C k51 w A0 l0.length l0) (hc0 : l0.length ≤ c0) (hr2 : Kd.C k51 w A2 l2.length l2) (hc2 : l2.length ≤ c2) (hG : G0 w) (h : data_Put.f l0 a1 l2 = some (r1, r2)) :
    Calls Tryd.prog 21 #[.slice A0 l0.length c0, .int .i64 a1, .slice A2 l2.length c2] w fun e w' => ∃ v0_ : Value, e = .returned (.tuple #[v0_, .int .i64 r2]) ∧ Kd.R k51 51 w' w.heap.size (fun _ => True) v0_ r1 ∧ Below w.heap.size w w' := by
  unfold data_Put.f at h
  by_cases hin : inR l0 = true ∧ inR l2 = true
  · rw [if_pos hin] at h
    have hR := (inR_iff l0).mp hin.1
    have hRs := (inR_iff l2).mp hin.2
    have h2 : putF l0 a1 l2 = (r1, r2) := Option.some.inj h
    unfold putF at h2
    by_cases e1 : (chkF l0).2 ≠ 0
    · rw [if_pos e1] at h2
      obtain ⟨rfl, rfl⟩ := Prod.mk.inj h2
      exact (put_1 A0 c0 l0 a1 A2 c2 l2 w hr0 hc0 hG hR e1).mono fun e w' ⟨he, hb⟩ => ⟨_, he, Kd.R_nil _ _ _ _ _, hb⟩
    rw [if_neg e1] at h2
    have e1' := Decidable.not_not.mp e1
    by_cases e2 : (chkF l2).2 ≠ 0
    · rw [if_pos e2] at h2
      obtain ⟨rfl, rfl⟩ := Prod.mk.inj h2
      exact (put_2 A0 c0 l0 a1 A2 c2 l2 w hr0 hc0 hr2 hc2 hG hR hRs e1' e2).mono fun e w' ⟨he, hb⟩ => ⟨_, he, Kd.R_nil _ _ _ _ _, hb⟩
    rw [if_neg e2] at h2
    have e2' := Decidable.not_not.mp e2
    by_cases e3 : nodeE l0 a1 ≠ 0
    · rw [if_pos e3] at h2
      obtain ⟨rfl, rfl⟩ := Prod.mk.inj h2
      exact (put_3 A0 c0 l0 a1 A2 c2 l2 w hr0 hc0 hr2 hc2 hG hR hRs e1' e2' e3).mono fun e w' ⟨he, hb⟩ => ⟨_, he, Kd.R_nil _ _ _ _ _, hb⟩
    rw [if_neg e3] at h2
    have e3' := Decidable.not_not.mp e3
    have hi : 0 ≤ a1 ∧ a1 < l0.length := by
      unfold nodeE at e3'
      rw [if_neg e1] at e3'
      by_cases hh : a1 < 0 ∨ (l0.length : Int) ≤ a1
      · rw [if_pos hh] at e3'; cases e3'
      · omega
    obtain ⟨i, rfl⟩ := Int.eq_ofNat_of_zero_le hi.1
    have hil : i < l0.length := by omega
    obtain ⟨_, _, _, h400, _⟩ := chkF_ok l0 hR e1'
    obtain ⟨_, _, _, h400s, _⟩ := chkF_ok l2 hRs e2'
    obtain ⟨ad, rfl, _⟩ := hr0.2.2 (by omega)
    have hLR := inR_put l0 l2 (i : Int) hR hRs
    have hLe : l0.take i ++ (l2 ++ l0.drop (endAt (kidsOf l0) i)) = putL l0 (i : Int) l2 := rfl
    refine put_4 ad c0 l0 i A2 c2 l2 w hr0 hc0 hr2 hc2 hG hR hRs e1' e2' e3' hil h400 h400s r1 r2 (endAt (kidsOf l0) i) (ends_at l0 i hil) (endAt_le l0 i (by omega)) _ hLe ?_
    intro A c' W hRW hBW
    obtain ⟨_, hcc, hC⟩ := Kd.R_reads' hRW
    by_cases e4 : (chkF (putL l0 (i : Int) l2)).2 ≠ 0
    · rw [if_pos e4] at h2
      obtain ⟨rfl, rfl⟩ := Prod.mk.inj h2
      exact (fits_bad A c' _ W hC hcc (G0_keep hG hBW) hLR e4).mono fun e w' ⟨he, hb⟩ => ⟨_, _, _, he, ⟨Kd.R_nil _ _ _ _ _⟩, ⟨below_step hBW hb⟩⟩
    · rw [if_neg e4] at h2
      obtain ⟨rfl, rfl⟩ := Prod.mk.inj h2
      exact (fits_ok A c' _ W hC hcc (G0_keep hG hBW) hLR (Decidable.not_not.mp e4)).mono fun e w' ⟨he, hb⟩ => ⟨_, _, _, he, ⟨Kd.R_below hRW hb⟩, ⟨below_step hBW hb⟩⟩
  · rw [if_neg hin] at h; cases h
end Go.Proofs.YtgmiekggdgmhkaaDoor.Q
end
section
/- data.Rename of any datum and names. -/
namespace Go.Proofs.YtgmiekggdgmhkaaDoor.Q
open Go.RowKit Go.Proofs.YtgmiekggdgmhkaaDoorW.PrintWords Go.Proofs.YtgmiekggdgmhkaaDoorW.PrintLast Go.Proofs.YtgmiekggdgmhkaaDoorW.PrintMore
set_option linter.unusedVariables false
set_option linter.unusedSimpArgs false
/-- a node with another name -/
def renN (fr tt : List ByteArray) (x : S51) : S51 := if x.f0 = 3 ∧ 0 ≤ placeI fr x.f3 then ⟨x.f0, x.f1, x.f2, strAt tt (placeI fr x.f3).toNat⟩ else x
/-- whether one of the first k names stands twice -/
def dupTo (l : List ByteArray) (k : Nat) : Bool := (List.range k).any fun i => decide (placeI l (strAt l i) < i)
theorem dupTo_succ (l : List ByteArray) (k : Nat) : dupTo l (k + 1) = (dupTo l k || decide (placeI l (strAt l k) < k)) := by
  unfold dupTo; rw [List.range_succ, List.any_append]; simp
theorem dupTo_mono (l : List ByteArray) {j k : Nat} (h : j ≤ k) (hj : dupTo l j = true) : dupTo l k = true := by
  unfold dupTo at *
  rw [List.any_eq_true] at *
  obtain ⟨x, hx, hp⟩ := hj
  exact ⟨x, List.mem_range.mpr (Nat.lt_of_lt_of_le (List.mem_range.mp hx) h), hp⟩
/-- what Rename answers -/
def renF (t : List S51) (fr tt : List ByteArray) : List S51 × Int :=
  if (chkF t).2 ≠ 0 then ([], (chkF t).2) else if fr.length ≠ tt.length then ([], 2) else if badB (fr ++ tt) = true then ([], 6) else if dupTo fr fr.length = true then ([], 8) else (t.map (renN fr tt), 0)
set_option maxRecDepth 100000 in
set_option maxHeartbeats 1000000 in
theorem ren_bad (A : Option Addr) (c : Nat) (t : List S51) (v1 v2 : Value) (w : World) (hr : Kd.C k51 w A t.length t) (hc : t.length ≤ c) (hG : G0 w) (hR : InR t) (h : (chkF t).2 ≠ 0) :
    Calls Tryd.prog 43 #[.slice A t.length c, v1, v2] w fun e w' => e = .returned (.tuple #[.slice none 0 0, .int .i64 (chkF t).2]) ∧ Below w.heap.size w w' := by
  have hcl := chk_cl A c t w hr hc hG hR
  have hne : ((chkF t).2 != 0) = true := bne_iff_ne.mpr h
  generalize (chkF t).2 = q at hcl hne
  generalize (chkF t).1 = p at hcl
  have HC := Aside0.mk hcl
  clear hcl hr hc hG hR h
  go_enter Tryd.func43, Tryd.ntmps43
  go_wp2_with (go_at_call 14; refine HC.out.mono ?_; rintro e w1 ⟨rfl, hb1⟩)
  go_ret2
  exact ⟨rfl, hb1⟩
set_option maxRecDepth 100000 in
set_option maxHeartbeats 1000000 in
theorem ren_len (A : Option Addr) (c : Nat) (t : List S51) (A1 A2 : Option Addr) (n1 c1 n2 c2 : Nat) (w : World) (hr : Kd.C k51 w A t.length t) (hc : t.length ≤ c) (hG : G0 w) (hR : InR t) (h : (chkF t).2 = 0) (hne : n1 ≠ n2) (h1 : n1 ≤ 1000) (h2 : n2 ≤ 1000) :
    Calls Tryd.prog 43 #[.slice A t.length c, .slice A1 n1 c1, .slice A2 n2 c2] w fun e w' => e = .returned (.tuple #[.slice none 0 0, .int .i64 2]) ∧ Below w.heap.size w w' := by
  have hcl := chk_cl A c t w hr hc hG hR
  obtain ⟨_, _, _, h400, h00⟩ := chkF_ok t hR h
  rw [h00] at hcl
  have hb : ((n1 : Int) != n2) = true := bne_iff_ne.mpr (by omega)
  have HC := Aside0.mk hcl
  clear hcl hr hc hG hR h h00 hne
  go_enter Tryd.func43, Tryd.ntmps43
  go_wp2_with (go_at_call 14; refine HC.out.mono ?_; rintro e w1 ⟨rfl, hb1⟩)
  go_ret2
  exact ⟨rfl, hb1⟩
/-- both lists, one behind the other, as Concat takes them -/
theorem cat_two (A1 A2 : Option Addr) (fr tt : List ByteArray) (c1 c2 n2 : Nat) (w W : World) (hb : Below w.heap.size w W) (h1 : Kd.C Kd.string w A1 fr.length fr) (k1 : fr.length ≤ c1) (h2 : Kd.C Kd.string w A2 tt.length tt) (k2 : tt.length ≤ c2) (l1 : fr.length ≤ 1000) (l2 : tt.length ≤ 1000) :
    Calls Tryd.prog 78 #[.slice (some ⟨W.heap.size, 0, none⟩) 2 2] (W.alloc (.cells #[.slice A1 fr.length c1, .slice A2 tt.length c2] 53)) fun e w' => ∃ v, e = .returned v ∧ Kd.R Kd.string 9 w' W.heap.size (fun _ => True) v (fr ++ tt) ∧ Below W.heap.size W w' := by
  have hb2 : Below w.heap.size w (W.alloc (.cells #[.slice A1 fr.length c1, .slice A2 tt.length c2] 53)) := below_alloc hb _
  have hC := rows2_C (W.alloc (.cells #[.slice A1 fr.length c1, .slice A2 tt.length c2] 53)) W.heap.size fr.length tt.length c1 c2 A1 A2 fr tt (World.alloc_heap_new W _) rfl rfl k1 k2 (Kd.C_below h1 hb2) (Kd.C_below h2 hb2)
  refine (concat_str (some ⟨W.heap.size, 0, none⟩) 2 [fr, tt] _ hC (by simp) (by simp; omega)).mono ?_
  rintro e w' ⟨v, he, hv, hB⟩
  rw [World.size_alloc] at hv hB
  refine ⟨v, he, ?_, (below_alloc (Below.refl _ _) _).trans (hB.mono (by omega))⟩
  have : [fr, tt].flatten = fr ++ tt := by simp
  rw [this] at hv
  exact Kd.R_lower hv (by omega)
set_option maxRecDepth 100000 in
set_option maxHeartbeats 2000000 in
theorem ren_sym (A : Option Addr) (c : Nat) (t : List S51) (A1 A2 : Option Addr) (fr tt : List ByteArray) (c1 c2 : Nat) (w : World) (hr : Kd.C k51 w A t.length t) (hc : t.length ≤ c) (hG : G0 w) (hR : InR t) (h : (chkF t).2 = 0)
    (h1 : Kd.C Kd.string w A1 fr.length fr) (k1 : fr.length ≤ c1) (h2 : Kd.C Kd.string w A2 tt.length tt) (k2 : tt.length ≤ c2) (he : fr.length = tt.length) (l1 : fr.length ≤ 1000) (hbad : badB (fr ++ tt) = true) :
    Calls Tryd.prog 43 #[.slice A t.length c, .slice A1 fr.length c1, .slice A2 tt.length c2] w fun e w' => e = .returned (.tuple #[.slice none 0 0, .int .i64 6]) ∧ Below w.heap.size w w' := by
  have hcl := chk_cl A c t w hr hc hG hR
  obtain ⟨_, _, _, h400, h00⟩ := chkF_ok t hR h
  rw [h00] at hcl
  have hb : ((fr.length : Int) != tt.length) = false := bne_eq_false_iff_eq.mpr (by omega)
  have hct := fun (W : World) (hB : Below w.heap.size w W) => cat_two A1 A2 fr tt c1 c2 0 w W hB h1 k1 h2 k2 l1 (by omega)
  have hhs := fun (V : Option Addr) (cv : Nat) (W : World) (hB : Below w.heap.size w W) (hC : Kd.C Kd.string W V (fr ++ tt).length (fr ++ tt)) => has_str V cv (fr ++ tt) W hC (G0_keep hG hB)
  rw [hbad] at hhs
  generalize fr ++ tt = L at hct hhs
  have HC := Aside0.mk hcl
  have HCT := Aside0.mk hct
  have HHS := Aside0.mk hhs
  clear hcl hr hc hG hR h h00 hct hhs h1 h2 he hbad
  go_enter Tryd.func43, Tryd.ntmps43
  go_wp2_with (first
    | (go_at_call 14; refine HC.out.mono ?_; rintro e w1 ⟨rfl, hb1⟩; have HB1 := Aside0.mk hb1; clear hb1)
    | (go_at_call 78; refine (HCT.out w1 HB1.out).mono ?_; rintro e w2 ⟨v2, rfl, hv2, hb2⟩; obtain ⟨V, cv, rfl⟩ := Kd.R_slice hv2; have HV2 := Aside0.mk hv2; have HB2 := Aside0.mk (HB1.out.trans (hb2.mono HB1.out.size)); clear hv2 hb2)
    | (go_at_call 77; refine (HHS.out _ _ w2 HB2.out (Kd.R_reads' HV2.out).2.2).mono ?_; rintro e w3 ⟨rfl, hb3⟩; have HB3 := Aside0.mk (below_step HB2.out hb3); clear hb3))
  go_ret2
  exact ⟨rfl, HB3.out⟩
/-- what Rename comes to where the names are symbols -/
def RenPost (fr tt : List ByteArray) (t : List S51) (w : World) (e : Ending) (w' : World) : Prop :=
  ∃ v, e = .returned (.tuple #[v, .int .i64 (if dupTo fr fr.length = true then 8 else 0)]) ∧ Kd.R k51 51 w' w.heap.size (fun _ => True) v (if dupTo fr fr.length = true then [] else t.map (renN fr tt)) ∧ Below w.heap.size w w'
theorem RenPost.dup {fr tt : List ByteArray} {t : List S51} {w w' : World} (h : dupTo fr fr.length = true) (hb : Below w.heap.size w w') : RenPost fr tt t w (.returned (.tuple #[.slice none 0 0, .int .i64 8])) w' := by
  unfold RenPost
  rw [if_pos h, if_pos h]
  exact ⟨_, rfl, Kd.R_nil _ _ _ _ _, hb⟩
theorem RenPost.ok {fr tt : List ByteArray} {t : List S51} {w w' : World} {v : Value} (h : dupTo fr fr.length = false) (hv : Kd.R k51 51 w' w.heap.size (fun _ => True) v (t.map (renN fr tt))) (hb : Below w.heap.size w w') : RenPost fr tt t w (.returned (.tuple #[v, .int .i64 0])) w' := by
  unfold RenPost
  rw [h]
  exact ⟨_, rfl, hv, hb⟩
/-- the nodes, the first k of them renamed -/
def renK (fr tt : List ByteArray) (t : List S51) (k : Nat) : List S51 := (t.take k).map (renN fr tt) ++ t.drop k
theorem renK_len (fr tt : List ByteArray) (t : List S51) (k : Nat) : (renK fr tt t k).length = t.length := by
  unfold renK; simp; omega
theorem renK_at (fr tt : List ByteArray) (t : List S51) (k : Nat) (hk : k < t.length) : rd_T51 (renK fr tt t k) k = rd_T51 t k := by
  have h : ((t.take k).map (renN fr tt)).length = k := by simp; omega
  simp only [rd_T51, renK, Int.toNat_natCast, List.getD_eq_getElem?_getD]
  rw [List.getElem?_append_right (by omega), h, Nat.sub_self, List.getElem?_drop, Nat.add_zero]
theorem renK_succ (fr tt : List ByteArray) (t : List S51) (k : Nat) (hk : k < t.length) : renK fr tt t (k + 1) = (renK fr tt t k).set k (renN fr tt (rd_T51 t k)) := by
  have h : ((t.take k).map (renN fr tt)).length = k := by simp; omega
  have e : rd_T51 t k = t[k] := by simp [rd_T51, List.getD_eq_getElem?_getD, hk]
  unfold renK
  rw [List.take_succ_eq_append_getElem hk, List.map_append, List.set_append_right _ _ (by omega), h, Nat.sub_self, List.append_assoc, List.drop_eq_getElem_cons hk, e]
  rfl
theorem renK_all (fr tt : List ByteArray) (t : List S51) : renK fr tt t t.length = t.map (renN fr tt) := by
  unfold renK; simp
theorem renK_same (fr tt : List ByteArray) (t : List S51) (k : Nat) (hk : k < t.length) (h : renN fr tt (rd_T51 t k) = rd_T51 t k) : renK fr tt t (k + 1) = renK fr tt t k := by
  have hl : k < (renK fr tt t k).length := by rw [renK_len]; exact hk
  have e := renK_at fr tt t k hk
  have e2 : rd_T51 (renK fr tt t k) k = (renK fr tt t k)[k] := by simp [rd_T51, List.getD_eq_getElem?_getD, hl]
  rw [renK_succ fr tt t k hk, h, ← e, e2, List.set_getElem_self]
theorem elem_cells {wr : World} {base g n cap : Nat} {ok : Nat → Prop} {l : List S51} (h : Kd.R k51 51 wr base ok (.slice (some ⟨g, 0, none⟩) n cap) l) (k : Nat) (hk : (k : Int) < n) :
    wr.cell? ⟨g, k * 4, none⟩ = some (.int .i64 (rd_T51 l k).f0) ∧ wr.cell? ⟨g, k * 4 + 1, none⟩ = some (.int .i64 (rd_T51 l k).f1) ∧ wr.cell? ⟨g, k * 4 + 2, none⟩ = some (.int .i64 (rd_T51 l k).f2) ∧ wr.cell? ⟨g, k * 4 + 3, none⟩ = some (.string (rd_T51 l k).f3) ∧ wr.frozen? ⟨g, k * 4 + 3, none⟩ = false := by
  obtain ⟨cs, hcl, hcM, hcc, hcf⟩ := Kd.R_elem h z51 (k : Int) (by omega) hk
  have hat : l.getD (k : Int).toNat z51 = rd_T51 l k := rfl
  rw [hat] at hcM
  obtain rfl := k51_open (Kd.K_of_M _ hcM)
  have e : k51.sz = 4 := rfl
  rw [Int.toNat_natCast, e] at hcc hcf
  exact ⟨hcc 0 _ rfl, hcc 1 _ rfl, hcc 2 _ rfl, hcc 3 _ rfl, hcf 3⟩
theorem elem_put {wr : World} {base g n cap : Nat} {l : List S51} (h : Kd.R k51 51 wr base (fun _ => True) (.slice (some ⟨g, 0, none⟩) n cap) l) (k : Nat) (hk : (k : Int) < n) {x : S51} (hx : rd_T51 l k = x) (s : ByteArray) :
    Kd.R k51 51 (wr.setCell ⟨g, k * 4 + 3, none⟩ (.string s)) base (fun _ => True) (.slice (some ⟨g, 0, none⟩) n cap) (l.set k ⟨x.f0, x.f1, x.f2, s⟩) := by
  obtain ⟨cs, hcl, hcM, hcc, hcf⟩ := Kd.R_elem h z51 (k : Int) (by omega) hk
  have hat : l.getD (k : Int).toNat z51 = x := hx
  rw [hat] at hcM
  obtain rfl := k51_open (Kd.K_of_M _ hcM)
  have := (Kd.R_seg h (k : Int) (by omega) hk (seg := [.string s]) (j := 3) hcl hcc (by show 3 + 1 ≤ 4; omega) (x' := ⟨x.f0, x.f1, x.f2, s⟩) (okp := fun _ => False) (k51_mkM _ _ _ ⟨x.f0, x.f1, x.f2, s⟩) (fun _ hk => hk.elim)).1
  rw [Int.toNat_natCast] at this
  exact this
set_option maxRecDepth 100000 in
set_option maxHeartbeats 4000000 in
theorem ren_go (A : Option Addr) (c : Nat) (t : List S51) (A1 A2 : Option Addr) (fr tt : List ByteArray) (c1 c2 : Nat) (w : World) (hr : Kd.C k51 w A t.length t) (hc : t.length ≤ c) (hG : G0 w) (hR : InR t) (h : (chkF t).2 = 0)
    (h1 : Kd.C Kd.string w A1 fr.length fr) (k1 : fr.length ≤ c1) (h2 : Kd.C Kd.string w A2 tt.length tt) (k2 : tt.length ≤ c2) (he : fr.length = tt.length) (l1 : fr.length ≤ 1000) (hbad : badB (fr ++ tt) = false) :
    Calls Tryd.prog 43 #[.slice A t.length c, .slice A1 fr.length c1, .slice A2 tt.length c2] w (RenPost fr tt t w) := by
  have hcl := chk_cl A c t w hr hc hG hR
  obtain ⟨_, _, hne, h400, h00⟩ := chkF_ok t hR h
  have hpos := List.length_pos_iff.mpr hne
  rw [h00] at hcl
  have hb : ((fr.length : Int) != tt.length) = false := bne_eq_false_iff_eq.mpr (by omega)
  have hct := fun (W : World) (hB : Below w.heap.size w W) => cat_two A1 A2 fr tt c1 c2 0 w W hB h1 k1 h2 k2 l1 (by omega)
  have hhs := fun (V : Option Addr) (cv : Nat) (W : World) (hB : Below w.heap.size w W) (hC : Kd.C Kd.string W V (fr ++ tt).length (fr ++ tt)) => has_str V cv (fr ++ tt) W hC (G0_keep hG hB)
  rw [hbad] at hhs
  generalize fr ++ tt = L at hct hhs
  have hcn := fun (W : World) (hB : Below w.heap.size w W) => api_DtNode.calls A c t t W (Kd.C_below hr hB) hc (if_pos (by omega))
  have hpl := fun (x : ByteArray) (W : World) (hB : Below w.heap.size w W) => place_any A1 c1 fr x W (Kd.C_below h1 hB) k1 (by omega)
  have HC := Aside0.mk hcl
  have HCT := Aside0.mk hct
  have HHS := Aside0.mk hhs
  have HCN := Aside0.mk hcn
  have HPL := Aside0.mk hpl
  have H1 := Aside0.mk h1
  have H2 := Aside0.mk h2
  have HE := Aside0.mk he
  have l2 : tt.length ≤ 1000 := by omega
  clear hcl hr hc hG hR h h00 hct hhs h1 h2 he hbad hcn hpl hne
  go_enter Tryd.func43, Tryd.ntmps43
  go_wp2_with (first
    | (go_at_call 14; refine HC.out.mono ?_; rintro e w1 ⟨rfl, hb1⟩; have HB1 := Aside0.mk hb1; clear hb1)
    | (go_at_call 78; refine (HCT.out w1 HB1.out).mono ?_; rintro e w2 ⟨v2, rfl, hv2, hb2⟩; obtain ⟨V, cv, rfl⟩ := Kd.R_slice hv2; have HV2 := Aside0.mk hv2; have HB2 := Aside0.mk (HB1.out.trans (hb2.mono HB1.out.size)); clear hv2 hb2)
    | (go_at_call 77; refine (HHS.out _ _ w2 HB2.out (Kd.R_reads' HV2.out).2.2).mono ?_; rintro e w3 ⟨rfl, hb3⟩; have HB3 := Aside0.mk (below_step HB2.out hb3); clear hb3))
  clear HC HCT HHS HB1 HV2 HB2
  go_loopw [36] (fun i wr => ∃ k : Nat, i = .int .i64 k ∧ k ≤ fr.length ∧ Aside0 (dupTo fr k = false) ∧ Aside0 (Below w.heap.size w wr)) (fun i _ => fr.length - (intOf i).toNat)
  case atStart => exact ⟨0, rfl, Nat.zero_le _, ⟨rfl⟩, HB3⟩
  case round =>
    obtain ⟨k, rfl, hk, HD, HB⟩ := hrel
    by_cases hlt : k < fr.length
    · have hltI : (k : Int) < fr.length := by omega
      obtain ⟨ad, had, hcell⟩ := at_str (Kd.C_below H1.out HB.out) k hltI
      have hs := dupTo_succ fr k
      rw [HD.out, Bool.false_or] at hs
      have hp := HPL.out (strAt fr k) wr HB.out
      generalize strAt fr k = x at *
      generalize placeI fr x = p at *
      subst had
      have HP := Aside0.mk hp
      clear hp
      cases hd : decide (p < (k : Int)) with
      | true =>
        rw [hd] at hs
        have HS := Aside0.mk (dupTo_mono fr hlt hs)
        clear hs
        go_wp2_with (go_at_call 80; refine HP.out.mono ?_; rintro e w1 ⟨rfl, nq, rfl⟩)
        go_ret2
        exact RenPost.dup HS.out (pw_below_drewN HB.out _)
      | false =>
        rw [hd] at hs
        have HS := Aside0.mk hs
        clear hs
        go_wp2_with (go_at_call 80; refine HP.out.mono ?_; rintro e w1 ⟨rfl, nq, rfl⟩)
        go_roundw
        case rel => exact ⟨k + 1, by go_num, hlt, HS, ⟨pw_below_drewN HB.out _⟩⟩
        case measure => simp [intOf]; omega
    · have hk2 : k = fr.length := by omega
      subst hk2
      have hcn := HCN.out wr HB.out
      have HCN2 := Aside0.mk hcn
      clear hcn HCN
      go_wp2_with (go_at_call 66; refine HCN2.out.mono ?_; rintro e w4 ⟨v4, rfl, hv4, hb4⟩; obtain ⟨g, cap, rfl, hg1, hg2, hg3⟩ := Kd.R_form hv4 hpos; have HV4 := Aside0.mk hv4; have HB4 := Aside0.mk (below_step HB.out hb4); clear hv4 hb4 hg3)
      go_loopw [51] (fun i wr => ∃ k : Nat, i = .int .i64 k ∧ k ≤ t.length ∧ Aside0 (Kd.R k51 51 wr w.heap.size (fun _ => True) (.slice (some ⟨g, 0, none⟩) t.length cap) (renK fr tt t k)) ∧ Aside0 (Below w.heap.size w wr)) (fun i _ => t.length - (intOf i).toNat)
      case atStart => exact ⟨0, rfl, Nat.zero_le _, ⟨Kd.R_lower HV4.out HB.out.size⟩, HB4⟩
      case round =>
        obtain ⟨k, rfl, hk, HV, HB5⟩ := hrel
        by_cases hlt : k < t.length
        · have hltI : (k : Int) < t.length := by omega
          have HX := Aside0.mk (renK_at fr tt t k hlt)
          obtain ⟨q0, q1, q2, q3, f3⟩ := elem_cells HV.out k hltI
          rw [renK_at fr tt t k hlt] at q0 q1 q2 q3
          have hsu := renK_succ fr tt t k hlt
          have hsm := renK_same fr tt t k hlt
          generalize rd_T51 t k = x at *
          have hp := fun (W : World) (hB : Below w.heap.size w W) => HPL.out x.f3 W hB
          have hplt := placeI_lt fr x.f3
          have hrn : renN fr tt x = if x.f0 = 3 ∧ 0 ≤ placeI fr x.f3 then ⟨x.f0, x.f1, x.f2, strAt tt (placeI fr x.f3).toNat⟩ else x := rfl
          generalize placeI fr x.f3 = p at *
          have b4 : g < wr.heap.size := World.block_lt_of_cell? _ _ q3
          have b5 : g < wr.heap.size + 1 := by omega
          have HP := Aside0.mk hp
          have HSU := Aside0.mk hsu
          have HSM := Aside0.mk hsm
          have HRN := Aside0.mk hrn
          clear hp hsu hrn hsm
          by_cases h3 : x.f0 = 3
          · by_cases h4 : 0 ≤ p
            · obtain ⟨p, rfl⟩ := Int.eq_ofNat_of_zero_le h4
              have h3b : (x.f0 == 3) = true := beq_iff_eq.2 h3
              have h4b : decide ((0 : Int) ≤ p) = true := decide_eq_true h4
              have hlt2 : (p : Int) < tt.length := by have := HE.out; omega
              obtain ⟨ad2, had2, hcell2⟩ := at_str (Kd.C_below H2.out HB5.out) p hlt2
              have b2 : (ad2.add p).block < wr.heap.size := World.block_lt_of_cell? _ _ hcell2
              have b3 : (ad2.add p).block < wr.heap.size + 1 := by omega
              have hren : renN fr tt x = ⟨x.f0, x.f1, x.f2, strAt tt p⟩ := by rw [HRN.out, if_pos ⟨h3, h4⟩, Int.toNat_natCast]
              generalize strAt tt p = s at *
              have HREN := Aside0.mk hren
              subst had2
              clear h3 hren
              go_wp2_with (go_at_call 80; refine (HP.out _ (below_alloc HB5.out _)).mono ?_; rintro e w5 ⟨rfl, nq, rfl⟩)
              go_roundw
              case rel => exact ⟨k + 1, by go_num, hlt, ⟨by rw [HSU.out, HREN.out]; exact elem_put (Kd.R_drewN (Kd.R_alloc HV.out _) nq) k hltI HX.out s⟩, ⟨((pw_below_drewN (below_alloc HB5.out _) _).setCell (p := ⟨g, k * 4 + 3, none⟩) (show w.heap.size ≤ g by have := HB.out.size; omega) _)⟩⟩
              case measure => simp [intOf]; omega
            · have h3b : (x.f0 == 3) = true := beq_iff_eq.2 h3
              have h4b : decide ((0 : Int) ≤ p) = false := decide_eq_false h4
              have HREN := Aside0.mk (show renN fr tt x = x by rw [HRN.out, if_neg (fun hh => h4 hh.2)])
              clear h3
              go_wp2_with (go_at_call 80; refine (HP.out _ (below_alloc HB5.out _)).mono ?_; rintro e w5 ⟨rfl, nq, rfl⟩)
              go_roundw
              case rel => exact ⟨k + 1, by go_num, hlt, ⟨by rw [HSM.out HREN.out]; exact Kd.R_drewN (Kd.R_alloc HV.out _) _⟩, ⟨pw_below_drewN (below_alloc HB5.out _) _⟩⟩
              case measure => simp [intOf]; omega
          · have h3b : (x.f0 == 3) = false := beq_eq_false_iff_ne.2 h3
            have HREN := Aside0.mk (show renN fr tt x = x by rw [HRN.out, if_neg (fun hh => h3 hh.1)])
            clear h3
            go_wp2_with (go_at_call 80; refine (HP.out _ (below_alloc HB5.out _)).mono ?_; rintro e w5 ⟨rfl, nq, rfl⟩)
            all_goals
              go_roundw
              case rel => exact ⟨k + 1, by go_num, hlt, ⟨by rw [HSM.out HREN.out]; exact Kd.R_drewN (Kd.R_alloc HV.out _) _⟩, ⟨pw_below_drewN (below_alloc HB5.out _) _⟩⟩
              case measure => simp [intOf]; omega
        · have hk2 : k = t.length := by omega
          subst hk2
          go_wp2
          go_ret2
          exact RenPost.ok HD.out (by rw [← renK_all]; exact HV.out) HB5.out
def data_Rename.f (l0 : List (S51)) (l1 : List ByteArray) (l2 : List ByteArray) : Option ((List (S51)) × Int) := if inR l0 = true ∧ l1.length ≤ 1000 ∧ l2.length ≤ 1000 then some (renF l0 l1 l2) else none
theorem data_Rename.calls (A0 : Option Addr) (c0 : Nat) (l0 : List (S51)) (A1 : Option Addr) (c1 : Nat) (l1 : List ByteArray) (A2 : Option Addr) (c2 : Nat) (l2 : List ByteArray) (r1 : List (S51)) (r2 : Int) (w : World) (hr0 : Kd.C k51 w A0 l0.length l0) (hc0 : l0.length ≤ c0) (hr1 : Kd.C Kd.string w A1 l1.length l1) (hc1 : l1.length ≤ c1) (hr2 : Kd.C Kd.string w A2 l2.length l2) (hc2 : l2.length ≤ c2) (hG : G0 w) (h : data_Rename.f l0 l1 l2 = some (r1, r2)) :
    Calls Tryd.prog 43 #[.slice A0 l0.length c0, .slice A1 l1.length c1, .slice A2 l2.length c2] w fun e w' => ∃ v0_ : Value, e = .returned (.tuple #[v0_, .int .i64 r2]) ∧ Kd.R k51 51 w' w.heap.size (fun _ => True) v0_ r1 ∧ Below w.heap.size w w' := by
  unfold data_Rename.f at h
  by_cases hin : inR l0 = true ∧ l1.length ≤ 1000 ∧ l2.length ≤ 1000
  · rw [if_pos hin] at h
    obtain ⟨hin, m1, m2⟩ := hin
    have hR := (inR_iff l0).mp hin
    have h2 : renF l0 l1 l2 = (r1, r2) := Option.some.inj h
    unfold renF at h2
    by_cases e1 : (chkF l0).2 ≠ 0
    · rw [if_pos e1] at h2
      obtain ⟨rfl, rfl⟩ := Prod.mk.inj h2
      exact (ren_bad A0 c0 l0 _ _ w hr0 hc0 hG hR e1).mono fun e w' ⟨he, hb⟩ => ⟨_, he, Kd.R_nil _ _ _ _ _, hb⟩
    · rw [if_neg e1] at h2
      have e1' := Decidable.not_not.mp e1
      by_cases e2 : l1.length ≠ l2.length
      · rw [if_pos e2] at h2
        obtain ⟨rfl, rfl⟩ := Prod.mk.inj h2
        exact (ren_len A0 c0 l0 A1 A2 l1.length c1 l2.length c2 w hr0 hc0 hG hR e1' e2 m1 m2).mono fun e w' ⟨he, hb⟩ => ⟨_, he, Kd.R_nil _ _ _ _ _, hb⟩
      · rw [if_neg e2] at h2
        have e2' := Decidable.not_not.mp e2
        by_cases e3 : badB (l1 ++ l2) = true
        · rw [if_pos e3] at h2
          obtain ⟨rfl, rfl⟩ := Prod.mk.inj h2
          exact (ren_sym A0 c0 l0 A1 A2 l1 l2 c1 c2 w hr0 hc0 hG hR e1' hr1 hc1 hr2 hc2 e2' m1 e3).mono fun e w' ⟨he, hb⟩ => ⟨_, he, Kd.R_nil _ _ _ _ _, hb⟩
        · rw [if_neg e3] at h2
          have hgo := ren_go A0 c0 l0 A1 A2 l1 l2 c1 c2 w hr0 hc0 hG hR e1' hr1 hc1 hr2 hc2 e2' m1 (Bool.eq_false_iff.mpr e3)
          refine hgo.mono fun e w' hp => ?_
          unfold RenPost at hp
          by_cases e4 : dupTo l1 l1.length = true
          · rw [if_pos e4] at h2
            obtain ⟨rfl, rfl⟩ := Prod.mk.inj h2
            rw [if_pos e4, if_pos e4] at hp
            exact hp
          · rw [if_neg e4] at h2
            obtain ⟨rfl, rfl⟩ := Prod.mk.inj h2
            rw [if_neg e4, if_neg e4] at hp
            exact hp
  · rw [if_neg hin] at h; cases h
end Go.Proofs.YtgmiekggdgmhkaaDoor.Q
end
