import Derived.BigRegion
import Derived.Deep.RegionWith
import Derived.Test.YtgmiekggdgmhkaaDoorMR15
import Derived.Test.YtgmiekggdgmhkaaDoorMR19
section
/- data.Put of any data. -/
namespace Go.Proofs.YtgmiekggdgmhkaaDoor.Q
open Go.RowKit Go.Proofs.YtgmiekggdgmhkaaDoorW.PrintWords Go.Proofs.YtgmiekggdgmhkaaDoorW.PrintLast Go.Proofs.YtgmiekggdgmhkaaDoorW.PrintMore
set_option linter.unusedVariables false
set_option linter.unusedSimpArgs false
/-- what Put makes -/
def putL (t : List S51) (i : Int) (s : List S51) : List S51 := t.take i.toNat ++ (s ++ t.drop (endAt (kidsOf t) i.toNat))
def putF (t : List S51) (i : Int) (s : List S51) : List S51 × Int :=
  if (chkF t).2 ≠ 0 then ([], (chkF t).2) else if (chkF s).2 ≠ 0 then ([], (chkF s).2) else if nodeE t i ≠ 0 then ([], nodeE t i) else if (chkF (putL t i s)).2 ≠ 0 then ([], 3) else (putL t i s, 0)
def data_Put.f (l0 : List (S51)) (a1 : Int) (l2 : List (S51)) : Option ((List (S51)) × Int) := if inR l0 = true ∧ inR l2 = true then some (putF l0 a1 l2) else none
set_option maxRecDepth 100000 in
set_option maxHeartbeats 1000000 in
theorem put_1 (A : Option Addr) (c : Nat) (t : List S51) (i : Int) (B : Option Addr) (d : Nat) (s : List S51) (w : World) (hr : Kd.C k51 w A t.length t) (hc : t.length ≤ c) (hG : G0 w) (hR : InR t) (h : (chkF t).2 ≠ 0) :
    Calls Tryd.prog 21 #[.slice A t.length c, .int .i64 i, .slice B s.length d] w fun e w' => e = .returned (.tuple #[.slice none 0 0, .int .i64 (chkF t).2]) ∧ Below w.heap.size w w' := by
  have hcl := of_bad A c t w hr hc hG hR h
  have hne : ((chkF t).2 != 0) = true := bne_iff_ne.mpr h
  generalize (chkF t).2 = q at hcl hne
  have HC := Aside0.mk hcl
  clear hcl hr hc hG hR h
  go_enter Tryd.func21, Tryd.ntmps21
  go_wp2_with (go_at_call 62; refine HC.out.mono ?_; rintro e w1 ⟨⟨A1, n1, c1, A2, n2, c2, rfl⟩, hb1⟩)
  go_ret2
  exact ⟨rfl, (by repeat (first | exact hb1 | apply below_alloc | apply pw_below_drewN | apply below_drew))⟩
set_option maxRecDepth 100000 in
set_option maxHeartbeats 1000000 in
theorem put_2 (A : Option Addr) (c : Nat) (t : List S51) (i : Int) (B : Option Addr) (d : Nat) (s : List S51) (w : World) (hr : Kd.C k51 w A t.length t) (hc : t.length ≤ c) (hs : Kd.C k51 w B s.length s) (hd : s.length ≤ d) (hG : G0 w) (hR : InR t) (hRs : InR s) (h : (chkF t).2 = 0) (h2 : (chkF s).2 ≠ 0) :
    Calls Tryd.prog 21 #[.slice A t.length c, .int .i64 i, .slice B s.length d] w fun e w' => e = .returned (.tuple #[.slice none 0 0, .int .i64 (chkF s).2]) ∧ Below w.heap.size w w' := by
  have hcl := of_ok A c t w hr hc hG hR h
  have HC := Aside0.mk hcl
  have hck : ∀ W, Below w.heap.size w W → _ := fun W hb => chk_cl B d s W (Kd.C_below hs hb) hd (G0_keep hG hb) hRs
  have hne : ((chkF s).2 != 0) = true := bne_iff_ne.mpr h2
  generalize (chkF s).2 = q at hck hne
  have HK := Aside0.mk hck
  clear hcl hr hc hG hR h h2 hs hd hRs hck
  go_enter Tryd.func21, Tryd.ntmps21
  go_wp2_with (first
    | (go_at_call 62; refine HC.out.mono ?_; rintro e w1 ⟨A1, c1, A2, c2, rfl, _, _, hb1⟩)
    | (go_at_call 14; refine (HK.out _ (by repeat (first | exact hb1 | apply below_alloc | apply pw_below_drewN | apply below_drew))).mono ?_; rintro e w2 ⟨rfl, hb2⟩; replace hb1 := below_step (by repeat (first | exact hb1 | apply below_alloc | apply pw_below_drewN | apply below_drew)) hb2; clear hb2))
  go_ret2
  exact ⟨rfl, (by repeat (first | exact hb1 | apply below_alloc | apply pw_below_drewN | apply below_drew))⟩
set_option maxRecDepth 100000 in
set_option maxHeartbeats 1000000 in
theorem put_3 (A : Option Addr) (c : Nat) (t : List S51) (i : Int) (B : Option Addr) (d : Nat) (s : List S51) (w : World) (hr : Kd.C k51 w A t.length t) (hc : t.length ≤ c) (hs : Kd.C k51 w B s.length s) (hd : s.length ≤ d) (hG : G0 w) (hR : InR t) (hRs : InR s) (h : (chkF t).2 = 0) (h2 : (chkF s).2 = 0) (h3 : nodeE t i ≠ 0) :
    Calls Tryd.prog 21 #[.slice A t.length c, .int .i64 i, .slice B s.length d] w fun e w' => e = .returned (.tuple #[.slice none 0 0, .int .i64 (nodeE t i)]) ∧ Below w.heap.size w w' := by
  have hcl := of_ok A c t w hr hc hG hR h
  have HC := Aside0.mk hcl
  have hck : ∀ W, Below w.heap.size w W → _ := fun W hb => chk_cl B d s W (Kd.C_below hs hb) hd (G0_keep hG hb) hRs
  have hnd : ∀ W, Below w.heap.size w W → _ := fun W hb => node_bad A c t i W (Kd.C_below hr hb) hc (G0_keep hG hb) hR
  rw [h2] at hck
  have hne : (nodeE t i != 0) = true := bne_iff_ne.mpr h3
  generalize nodeE t i = q at hnd hne
  have HK := Aside0.mk hck
  have HN := Aside0.mk hnd
  clear hcl hr hc hG hR h h2 hs hd hRs hck hnd h3
  go_enter Tryd.func21, Tryd.ntmps21
  go_wp2_with (first
    | (go_at_call 62; refine HC.out.mono ?_; rintro e w1 ⟨A1, c1, A2, c2, rfl, _, _, hb1⟩)
    | (go_at_call 14; refine (HK.out _ (by repeat (first | exact hb1 | apply below_alloc | apply pw_below_drewN | apply below_drew))).mono ?_; rintro e w2 ⟨rfl, hb2⟩; replace hb1 := below_step (by repeat (first | exact hb1 | apply below_alloc | apply pw_below_drewN | apply below_drew)) hb2; clear hb2)
    | (go_at_call 63; refine (HN.out _ (by repeat (first | exact hb1 | apply below_alloc | apply pw_below_drewN | apply below_drew))).mono ?_; rintro e w3 ⟨⟨A1', n1', c1', A2', n2', c2', rfl⟩, hb3⟩; replace hb1 := below_step (by repeat (first | exact hb1 | apply below_alloc | apply pw_below_drewN | apply below_drew)) hb3; clear hb3))
  go_ret2
  exact ⟨rfl, (by repeat (first | exact hb1 | apply below_alloc | apply pw_below_drewN | apply below_drew))⟩
theorem rows3_C (W : World) (b n1 n2 n3 c1 c2 c3 : Nat) (A1 A2 A3 : Option Addr) (l1 l2 l3 : List S51) (hb : W.heap[b]? = some (.cells #[.slice A1 n1 c1, .slice A2 n2 c2, .slice A3 n3 c3] 22 (0, 0)))
    (e1 : l1.length = n1) (e2 : l2.length = n2) (e3 : l3.length = n3) (m1 : n1 ≤ c1) (m2 : n2 ≤ c2) (m3 : n3 ≤ c3) (h1 : Kd.C k51 W A1 l1.length l1) (h2 : Kd.C k51 W A2 l2.length l2) (h3 : Kd.C k51 W A3 l3.length l3) :
    Kd.C (Kd.slice 51 k51) W (some ⟨b, 0, none⟩) 3 [l1, l2, l3] := by
  subst e1 e2 e3
  refine ⟨rfl, by omega, fun _ => ⟨⟨b, 0, none⟩, rfl, fun j p hj => ?_⟩⟩
  match j, hj with
  | 0, hj => obtain rfl := Option.some.inj hj; exact ⟨[.slice A1 l1.length c1], rfl, ⟨A1, c1, rfl, m1, h1⟩, fun k u hk => by
      match k, hk with
      | 0, hk => obtain rfl := Option.some.inj hk; rw [Addr.add_lit, blk_cell hb]; rfl⟩
  | 1, hj => obtain rfl := Option.some.inj hj; exact ⟨[.slice A2 l2.length c2], rfl, ⟨A2, c2, rfl, m2, h2⟩, fun k u hk => by
      match k, hk with
      | 0, hk => obtain rfl := Option.some.inj hk; rw [Addr.add_lit, blk_cell hb]; rfl⟩
  | 2, hj => obtain rfl := Option.some.inj hj; exact ⟨[.slice A3 l3.length c3], rfl, ⟨A3, c3, rfl, m3, h3⟩, fun k u hk => by
      match k, hk with
      | 0, hk => obtain rfl := Option.some.inj hk; rw [Addr.add_lit, blk_cell hb]; rfl⟩
theorem ends_at (t : List S51) (i : Nat) (hi : i < t.length) : rd (endsAll (kidsOf t)) i = (endAt (kidsOf t) i : Nat) := by
  have h : i < (endsAll (kidsOf t)).length := by simpa [endsAll, kidsOf] using hi
  simp only [rd, Int.toNat_natCast, List.getD_eq_getElem?_getD, List.getElem?_eq_getElem h, Option.getD_some]
  simp [endsAll]
/-- the last call of Put, and what stands before it -/
theorem put_cat (w W : World) (b : Nat) (hbk : b = W.heap.size) (ad : Addr) (c i E : Nat) (t s : List S51) (B : Option Addr) (d : Nat) (hb : Below w.heap.size w W) (hr : Kd.C k51 w (some ad) t.length t) (hc : t.length ≤ c) (hs : Kd.C k51 w B s.length s) (hd : s.length ≤ d) (hi : i < t.length) (hE : E ≤ t.length) (ht : t.length ≤ 400) (hs4 : s.length ≤ 400) :
    Calls Tryd.prog 65 #[.slice (some ⟨b, 0, none⟩) 3 3] (W.alloc (.cells #[.slice (some ad) i c, .slice B s.length d, .slice (if c = E then some ad else some (ad.add (E * 4))) (t.length - E) (c - E)] 22)).drew
      fun e w' => ∃ A c', e = .returned (.slice A (t.take i ++ (s ++ t.drop E)).length c') ∧ Aside0 (Kd.R k51 51 w' w.heap.size (fun _ => True) (.slice A (t.take i ++ (s ++ t.drop E)).length c') (t.take i ++ (s ++ t.drop E))) ∧ Aside0 (Below w.heap.size w w') := by
  subst hbk
  have hB : Below w.heap.size w (W.alloc (.cells #[.slice (some ad) i c, .slice B s.length d, .slice (if c = E then some ad else some (ad.add (E * 4))) (t.length - E) (c - E)] 22)).drew := below_drew (below_alloc hb _)
  have hr' := Kd.C_below hr hB
  have hs' := Kd.C_below hs hB
  have hC : Kd.C (Kd.slice 51 k51) (W.alloc (.cells #[.slice (some ad) i c, .slice B s.length d, .slice (if c = E then some ad else some (ad.add (E * 4))) (t.length - E) (c - E)] 22)).drew (some ⟨W.heap.size, 0, none⟩) 3 [t.take i, s, t.drop E] := by
    refine rows3_C _ _ _ _ _ _ _ _ _ _ _ _ _ _ (World.alloc_heap_new W _) (by rw [List.length_take]; omega) rfl (by rw [List.length_drop]) (by omega) hd (by omega) (Kd.C_take hr' (by omega)) hs' ?_
    have := Kd.C_drop (c := c) hr' hE hc
    have e4 : k51.sz = 4 := rfl
    rw [e4] at this
    simpa using this
  have e : [t.take i, s, t.drop E].flatten = t.take i ++ (s ++ t.drop E) := by simp
  have hl : (t.take i ++ (s ++ t.drop E)).length ≤ 100000 := by simp; omega
  have := concat_any (some ⟨W.heap.size, 0, none⟩) 3 [t.take i, s, t.drop E] _ hC (by simp) (by rw [e]; exact hl)
  rw [e] at this
  refine this.mono ?_
  rintro e' w' ⟨v, rfl, hv, hb'⟩
  have hv2 := Kd.R_lower hv hB.size
  obtain ⟨A, c', rfl⟩ := Kd.R_slice hv2
  exact ⟨A, c', rfl, ⟨hv2⟩, ⟨below_step hB hb'⟩⟩
set_option maxRecDepth 100000 in
set_option maxHeartbeats 2000000 in
theorem put_4 (ad : Addr) (c : Nat) (t : List S51) (i : Nat) (B : Option Addr) (d : Nat) (s : List S51) (w : World) (hr : Kd.C k51 w (some ad) t.length t) (hc : t.length ≤ c) (hs : Kd.C k51 w B s.length s) (hd : s.length ≤ d) (hG : G0 w) (hR : InR t) (hRs : InR s) (h : (chkF t).2 = 0) (h2 : (chkF s).2 = 0) (h3 : nodeE t i = 0) (hi : i < t.length) (ht : t.length ≤ 400) (hs4 : s.length ≤ 400) (r1 : List S51) (r2 : Int)
    (E : Nat) (hE : rd (endsAll (kidsOf t)) i = E) (hE2 : E ≤ t.length) (L : List S51) (hL : t.take i ++ (s ++ t.drop E) = L)
    (hF : ∀ A c' W, Kd.R k51 51 W w.heap.size (fun _ => True) (.slice A L.length c') L → Below w.heap.size w W → Calls Tryd.prog 64 #[.slice A L.length c'] W fun e w' => ∃ A' n' c'', e = .returned (.tuple #[.slice A' n' c'', .int .i64 r2]) ∧ Aside0 (Kd.R k51 51 w' w.heap.size (fun _ => True) (.slice A' n' c'') r1) ∧ Aside0 (Below w.heap.size w w')) :
    Calls Tryd.prog 21 #[.slice (some ad) t.length c, .int .i64 i, .slice B s.length d] w fun e w' => ∃ v, e = .returned (.tuple #[v, .int .i64 r2]) ∧ Kd.R k51 51 w' w.heap.size (fun _ => True) v r1 ∧ Below w.heap.size w w' := by
  have hcl := of_ok (some ad) c t w hr hc hG hR h
  have HC := Aside0.mk hcl
  have hck : ∀ W, Below w.heap.size w W → _ := fun W hb => chk_cl B d s W (Kd.C_below hs hb) hd (G0_keep hG hb) hRs
  have hnd : ∀ W, Below w.heap.size w W → _ := fun W hb => node_ok (some ad) c t i W (Kd.C_below hr hb) hc (G0_keep hG hb) hR h3
  rw [h2] at hck
  have hct : ∀ W b, b = W.heap.size → Below w.heap.size w W → _ := fun W b hbk hb => put_cat w W b hbk ad c i E t s B d hb hr hc hs hd hi hE2 ht hs4
  rw [hL] at hct
  have hel : (endsAll (kidsOf t)).length = t.length := by simp [endsAll, kidsOf]
  generalize hes : endsAll (kidsOf t) = es at hE hnd hel
  have HK := Aside0.mk hck
  have HN := Aside0.mk hnd
  have HFF := Aside0.mk hF
  have HEL := Aside0.mk hel
  have HES := Aside0.mk hes
  have HEE := Aside0.mk hE
  have f1 : i ≤ c := by omega
  have f1I : (i : Int) ≤ c := by omega
  have f0I : (0 : Int) ≤ i := by omega
  have f2I : (E : Int) ≤ t.length := by omega
  have f3I : (0 : Int) ≤ E := by omega
  have f4I : (t.length : Int) ≤ c := by omega
  generalize hll : L.length = ln at *
  by_cases hcE : c = E
  · subst hcE
    simp only [if_true, Nat.sub_self] at hct
    rw [show t.length - c = 0 by omega] at hct
    have HT := Aside0.mk hct
    clear hcl hr hG hR h h2 hs hd hRs hck hnd h3 hF hct hel hes hE hL hll
    go_enter Tryd.func21, Tryd.ntmps21
    go_wp2_with (first
      | (go_at_call 62; refine HC.out.mono ?_; rintro e w1 ⟨A1, c1, A2, c2, rfl, _, _, hb1⟩)
      | (go_at_call 14; refine (HK.out _ (by repeat (first | exact hb1 | apply below_alloc | apply pw_below_drewN | apply below_drew))).mono ?_; rintro e w2 ⟨rfl, hb2⟩; replace hb1 := below_step (by repeat (first | exact hb1 | apply below_alloc | apply pw_below_drewN | apply below_drew)) hb2; clear hb2)
      | (go_at_call 63; refine (HN.out _ (by repeat (first | exact hb1 | apply below_alloc | apply pw_below_drewN | apply below_drew))).mono ?_; rintro e w3 ⟨A1', c1', A2', c2', rfl, _, ⟨_, hends⟩, hb3⟩; replace hb1 := below_step (by repeat (first | exact hb1 | apply below_alloc | apply pw_below_drewN | apply below_drew)) hb3; clear hb3; have hrd : ReadsInt w3 .i64 A2' es.length es := Kd.reads_of_C hends; obtain ⟨ade, rfl, hcell⟩ := hrd.at_ i (by have := HEL.out; omega) (by have := HEL.out; omega); rw [Int.toNat_natCast, HEE.out] at hcell; rw [HEL.out]; have hltb := World.block_lt_of_cell? _ _ hcell; have HB1 := Aside0.mk hb1; clear hends hrd hb1))
    go_region_with (first
      | (go_at_call 65; refine (HT.out _ _ (by rw [World.size_alloc]) (below_alloc HB1.out _)).mono ?_; rintro e w6 ⟨A6, c6, rfl, HR6, HB6⟩)
      | (go_at_call 64; refine (HFF.out _ _ _ HR6.out HB6.out).mono ?_; rintro e w7 ⟨A7, n7, c7, rfl, HR7, HB7⟩))
    go_wp2
    go_ret2
    exact ⟨_, rfl, HR7.out, HB7.out⟩
  · simp only [if_neg hcE] at hct
    have HT := Aside0.mk hct
    clear hcl hr hG hR h h2 hs hd hRs hck hnd h3 hF hct hel hes hE hL hll
    go_enter Tryd.func21, Tryd.ntmps21
    go_wp2_with (first
      | (go_at_call 62; refine HC.out.mono ?_; rintro e w1 ⟨A1, c1, A2, c2, rfl, _, _, hb1⟩)
      | (go_at_call 14; refine (HK.out _ (by repeat (first | exact hb1 | apply below_alloc | apply pw_below_drewN | apply below_drew))).mono ?_; rintro e w2 ⟨rfl, hb2⟩; replace hb1 := below_step (by repeat (first | exact hb1 | apply below_alloc | apply pw_below_drewN | apply below_drew)) hb2; clear hb2)
      | (go_at_call 63; refine (HN.out _ (by repeat (first | exact hb1 | apply below_alloc | apply pw_below_drewN | apply below_drew))).mono ?_; rintro e w3 ⟨A1', c1', A2', c2', rfl, _, ⟨_, hends⟩, hb3⟩; replace hb1 := below_step (by repeat (first | exact hb1 | apply below_alloc | apply pw_below_drewN | apply below_drew)) hb3; clear hb3; have hrd : ReadsInt w3 .i64 A2' es.length es := Kd.reads_of_C hends; obtain ⟨ade, rfl, hcell⟩ := hrd.at_ i (by have := HEL.out; omega) (by have := HEL.out; omega); rw [Int.toNat_natCast, HEE.out] at hcell; rw [HEL.out]; have hltb := World.block_lt_of_cell? _ _ hcell; have HB1 := Aside0.mk hb1; clear hends hrd hb1))
    go_region_with (first
      | (go_at_call 65; refine (HT.out _ _ (by rw [World.size_alloc]) (below_alloc HB1.out _)).mono ?_; rintro e w6 ⟨A6, c6, rfl, HR6, HB6⟩)
      | (go_at_call 64; refine (HFF.out _ _ _ HR6.out HB6.out).mono ?_; rintro e w7 ⟨A7, n7, c7, rfl, HR7, HB7⟩))
    go_wp2
    go_ret2
    exact ⟨_, rfl, HR7.out, HB7.out⟩
theorem endAt_le (t : List S51) (i : Nat) (hi : i ≤ t.length) : endAt (kidsOf t) i ≤ t.length := by
  unfold endAt
  cases h : eat ((kidsOf t).drop i) 1 with
  | none => simpa using hi
  | some m =>
    have := eat_le _ _ _ h
    rw [List.length_drop, kidsOf_len] at this
    simp; omega
theorem inR_put (t s : List S51) (i : Int) (h1 : InR t) (h2 : InR s) : InR (putL t i s) := fun x hx => by
  unfold putL at hx
  rcases List.mem_append.mp hx with hx | hx
  · exact h1 x (List.mem_of_mem_take hx)
  · rcases List.mem_append.mp hx with hx | hx
    · exact h2 x hx
    · exact h1 x (List.mem_of_mem_drop hx)
theorem data_Put.calls (A0 : Option Addr) (c0 : Nat) (l0 : List (S51)) (a1 : Int) (A2 : Option Addr) (c2 : Nat) (l2 : List (S51)) (r1 : List (S51)) (r2 : Int) (w : World) (hr0 : Kd.C k51 w A0 l0.length l0) (hc0 : l0.length ≤ c0) (hr2 : Kd.C k51 w A2 l2.length l2) (hc2 : l2.length ≤ c2) (hG : G0 w) (h : data_Put.f l0 a1 l2 = some (r1, r2)) :
    Calls Tryd.prog 21 #[.slice A0 l0.length c0, .int .i64 a1, .slice A2 l2.length c2] w fun e w' => ∃ v0_ : Value, e = .returned (.tuple #[v0_, .int .i64 r2]) ∧ Kd.R k51 51 w' w.heap.size (fun _ => True) v0_ r1 ∧ Below w.heap.size w w' := by
  unfold data_Put.f at h
  by_cases hin : inR l0 = true ∧ inR l2 = true
  · rw [if_pos hin] at h
    have hR := (inR_iff l0).mp hin.1
    have hRs := (inR_iff l2).mp hin.2
    have h2 : putF l0 a1 l2 = (r1, r2) := Option.some.inj h
    unfold putF at h2
    by_cases e1 : (chkF l0).2 ≠ 0
    · rw [if_pos e1] at h2
      obtain ⟨rfl, rfl⟩ := Prod.mk.inj h2
      exact (put_1 A0 c0 l0 a1 A2 c2 l2 w hr0 hc0 hG hR e1).mono fun e w' ⟨he, hb⟩ => ⟨_, he, Kd.R_nil _ _ _ _ _, hb⟩
    rw [if_neg e1] at h2
    have e1' := Decidable.not_not.mp e1
    by_cases e2 : (chkF l2).2 ≠ 0
    · rw [if_pos e2] at h2
      obtain ⟨rfl, rfl⟩ := Prod.mk.inj h2
      exact (put_2 A0 c0 l0 a1 A2 c2 l2 w hr0 hc0 hr2 hc2 hG hR hRs e1' e2).mono fun e w' ⟨he, hb⟩ => ⟨_, he, Kd.R_nil _ _ _ _ _, hb⟩
    rw [if_neg e2] at h2
    have e2' := Decidable.not_not.mp e2
    by_cases e3 : nodeE l0 a1 ≠ 0
    · rw [if_pos e3] at h2
      obtain ⟨rfl, rfl⟩ := Prod.mk.inj h2
      exact (put_3 A0 c0 l0 a1 A2 c2 l2 w hr0 hc0 hr2 hc2 hG hR hRs e1' e2' e3).mono fun e w' ⟨he, hb⟩ => ⟨_, he, Kd.R_nil _ _ _ _ _, hb⟩
    rw [if_neg e3] at h2
    have e3' := Decidable.not_not.mp e3
    have hi : 0 ≤ a1 ∧ a1 < l0.length := by
      unfold nodeE at e3'
      rw [if_neg e1] at e3'
      by_cases hh : a1 < 0 ∨ (l0.length : Int) ≤ a1
      · rw [if_pos hh] at e3'; cases e3'
      · omega
    obtain ⟨i, rfl⟩ := Int.eq_ofNat_of_zero_le hi.1
    have hil : i < l0.length := by omega
    obtain ⟨_, _, _, h400, _⟩ := chkF_ok l0 hR e1'
    obtain ⟨_, _, _, h400s, _⟩ := chkF_ok l2 hRs e2'
    obtain ⟨ad, rfl, _⟩ := hr0.2.2 (by omega)
    have hLR := inR_put l0 l2 (i : Int) hR hRs
    have hLe : l0.take i ++ (l2 ++ l0.drop (endAt (kidsOf l0) i)) = putL l0 (i : Int) l2 := rfl
    refine put_4 ad c0 l0 i A2 c2 l2 w hr0 hc0 hr2 hc2 hG hR hRs e1' e2' e3' hil h400 h400s r1 r2 (endAt (kidsOf l0) i) (ends_at l0 i hil) (endAt_le l0 i (by omega)) _ hLe ?_
    intro A c' W hRW hBW
    obtain ⟨_, hcc, hC⟩ := Kd.R_reads' hRW
    by_cases e4 : (chkF (putL l0 (i : Int) l2)).2 ≠ 0
    · rw [if_pos e4] at h2
      obtain ⟨rfl, rfl⟩ := Prod.mk.inj h2
      exact (fits_bad A c' _ W hC hcc (G0_keep hG hBW) hLR e4).mono fun e w' ⟨he, hb⟩ => ⟨_, _, _, he, ⟨Kd.R_nil _ _ _ _ _⟩, ⟨below_step hBW hb⟩⟩
    · rw [if_neg e4] at h2
      obtain ⟨rfl, rfl⟩ := Prod.mk.inj h2
      exact (fits_ok A c' _ W hC hcc (G0_keep hG hBW) hLR (Decidable.not_not.mp e4)).mono fun e w' ⟨he, hb⟩ => ⟨_, _, _, he, ⟨Kd.R_below hRW hb⟩, ⟨below_step hBW hb⟩⟩
  · rw [if_neg hin] at h; cases h
end Go.Proofs.YtgmiekggdgmhkaaDoor.Q
end
