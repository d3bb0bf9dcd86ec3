import Derived.Test.YtgmiekggdgmhkaaDoorMR13
import Derived.Test.YtgmiekggdgmhkaaDoorMR15
import Derived.Test.YtgmiekggdgmhkaaDoorMR18
import Derived.Test.YtgmiekggdgmhkaaDoorMR20
import Derived.Test.YtgmiekggdgmhkaaDoorMR21
import Derived.Test.YtgmiekggdgmhkaaDoorMR22
import Derived.Test.YtgmiekggdgmhkaaDoorMR5
import Derived.Test.YtgmiekggdgmhkaaDoorMR6
section
-- a print of this session's own (hook.py)
namespace Go.Proofs.YtgmiekggdgmhkaaDoor.Q
open Go.RowKit Go.Proofs.YtgmiekggdgmhkaaDoorW.PrintWords Go.Proofs.YtgmiekggdgmhkaaDoorW.PrintLast Go.Proofs.YtgmiekggdgmhkaaDoorW.PrintMore
attribute [local go_sem] max2_int min2_int max_two min_two max_three min_three max_four min_four   -- for this text's walks alone
set_option linter.unusedVariables false
set_option linter.unusedSimpArgs false
/-! ### mummerlaw04_DataRound: function 9 -/
mutual
def mummerlaw04_DataRound.j0 : Nat → List (S51) → Int → Bool → Option (Bool)
  | 0, _, _, _ => none
  | k + 1, x0, x1, x42 => if x42 = true then ((mummerlaw04_shown.f k).bind fun t563 => (some t563)) else (if (x0.length : Int) = 0 then (none) else ((data_Sub.f k x0 (Int.tmod (wrap64 (x1)) (x0.length : Int))).bind fun bt564 => ((data_Put.f x0 (Int.tmod (wrap64 (x1)) (x0.length : Int)) bt564.1).bind fun bt568 => ((data_Path.f x0 (Int.tmod (wrap64 (x1)) (x0.length : Int))).bind fun bt572 => ((data_At.f x0 bt572.1).bind fun bt576 => (if bt564.2 = 0 then (if bt568.2 = 0 then (if bt572.2 = 0 then (if bt576.2 = 0 then ((mummerref04_Same.f k bt568.1 x0).bind fun t578 => (if t578 = true then (if bt576.1 = (Int.tmod (wrap64 (x1)) (x0.length : Int)) then ((data_Kids.f x0 (Int.tmod (wrap64 (x1)) (x0.length : Int))).bind fun bt579 => ((data_Size.f k x0 (Int.tmod (wrap64 (x1)) (x0.length : Int))).bind fun bt583 => (if bt579.2 = 0 then (if bt583.2 = 0 then (if 0 ≤ (Int.tmod (wrap64 (x1)) (x0.length : Int)) then (if (Int.tmod (wrap64 (x1)) (x0.length : Int)) < (x0.length : Int) then (if (bt579.1.length : Int) = ((rd_T51 x0 (Int.tmod (wrap64 (x1)) (x0.length : Int))).f1) then (if bt583.1 = (bt564.1.length : Int) then (mummerlaw04_DataRound.l0 k x0 (Int.tmod (wrap64 (x1)) (x0.length : Int)) bt564.1 bt572.1 bt579.1 bt583.1 ([] : List (List (S51))) 1 0) else (none)) else (none)) else (none)) else (none)) else (none)) else (none)))) else (none)) else (none))) else (none)) else (none)) else (none)) else (none)))))))
def mummerlaw04_DataRound.l0 : Nat → List (S51) → Int → List (S51) → List Int → List Int → Int → List (List (S51)) → Int → Int → Option (Bool)
  | 0, _, _, _, _, _, _, _, _, _ => none
  | k + 1, x0, x7, x8, x11, x15, x16, x17, x18, x19 => if x19 < (x15.length : Int) then (if 0 ≤ x19 then ((data_Sub.f k x0 (rd x15 x19)).bind fun bt587 => ((data_Parent.f k x0 (rd x15 x19)).bind fun bt592 => ((data_Path.f x0 (rd x15 x19)).bind fun bt595 => (if bt587.2 = 0 then (if bt592.2 = 0 then (if bt595.2 = 0 then (if bt592.1 = x7 then (if (bt595.1.length : Int) = (wrap64 ((x11.length : Int) + 1)) then (if 0 ≤ (wrap64 ((bt595.1.length : Int) - 1)) then (if (wrap64 ((bt595.1.length : Int) - 1)) < (bt595.1.length : Int) then (if (rd bt595.1 (wrap64 ((bt595.1.length : Int) - 1))) = x19 then (if x17.length < 5864062014805 then (mummerlaw04_DataRound.l0 k x0 x7 x8 x11 x15 x16 (x17 ++ [bt587.1]) (wrap64 (x18 + (bt587.1.length : Int))) (wrap64 (x19 + 1))) else (none)) else (none)) else (none)) else (none)) else (none)) else (none)) else (none)) else (none)) else (none))))) else (none)) else (if x18 = x16 then (if 0 ≤ x7 then (if x7 < (x0.length : Int) then (if ((rd_T51 x0 x7).f0) = 4 then ((data_List.f k x17).bind fun bt604 => (if bt604.2 = 0 then ((mummerref04_Same.f k bt604.1 x8).bind fun t608 => (if t608 = true then ((mummerlaw04_shown.f k).bind fun t609 => (some t609)) else (none))) else (none))) else ((mummerlaw04_shown.f k).bind fun t610 => (some t610))) else (none)) else (none)) else (none))
end
def mummerlaw04_DataRound.f (k : Nat) (l0 : List (S51)) (a1 : Int) : Option (Bool) := (data_Check.f k l0).bind fun bt560 => ((mummerlaw04_Far.f k l0).bind fun t562 => (if t562 = true then (mummerlaw04_DataRound.j0 k l0 a1 true) else (if bt560.2 = 0 then (mummerlaw04_DataRound.j0 k l0 a1 ((l0.length : Int) == 0)) else (mummerlaw04_DataRound.j0 k l0 a1 true))))
set_option maxHeartbeats 8000000 in
set_option maxRecDepth 100000 in
theorem mummerlaw04_DataRound.calls (k : Nat) (A0 : Option Addr) (c0 : Nat) (l0 : List (S51)) (a1 : Int) (r : Bool) (w : World) (hr0 : Kd.C k51 w A0 l0.length l0) (hc0 : l0.length ≤ c0) (hG : G0 w) (h : mummerlaw04_DataRound.f k l0 a1 = some r) :
    Calls Tryd.prog 9 #[.slice A0 l0.length c0, .int .u16 a1] w fun e w' => e = .returned (.bool r) ∧ Below w.heap.size w w' := by
  have HGl := Aside0.mk hG
  clear hG
  have HR0 := Aside0.mk hr0
  have HC0 := Aside0.mk hc0
  clear hr0 hc0
  have HB := Aside0.mk (Below.refl w.heap.size w)
  have H : ((data_Check.f k l0).bind fun bt560 => ((mummerlaw04_Far.f k l0).bind fun t562 => (if t562 = true then (mummerlaw04_DataRound.j0 k l0 a1 true) else (if bt560.2 = 0 then (mummerlaw04_DataRound.j0 k l0 a1 ((l0.length : Int) == 0)) else (mummerlaw04_DataRound.j0 k l0 a1 true))))) = some r := h
  clear h
  replace H := Option.bind_eq_some_iff.mp H
  obtain ⟨⟨t560, t561⟩, A30, H⟩ := H
  replace H : ((mummerlaw04_Far.f k l0).bind fun t562 => (if t562 = true then (mummerlaw04_DataRound.j0 k l0 a1 true) else (if t561 = 0 then (mummerlaw04_DataRound.j0 k l0 a1 ((l0.length : Int) == 0)) else (mummerlaw04_DataRound.j0 k l0 a1 true)))) = some r := H
  have A3 := Aside0.mk A30
  clear A30
  have HC4 := Aside0.mk H
  clear H
  go_enter Tryd.func9, Tryd.ntmps9
  go_upto_region 2 with (first | ((with_reducible refine gate_callee (f := 14) rfl ?_); refine goesL_ (some 29) rfl rfl Tryd.func14 (by kernel_rfl) rfl #[.slice A0 l0.length c0] rfl (by (try simp only [List.map_toArray, List.map_cons, List.map_nil]); first | done | rfl | (simp only [List.length_drop, List.length_take]; rfl)) ?_; (with_reducible refine (data_Check.calls k _ _ l0 t560 t561 _ ?side1 ?side2 ?side3 A3.out).mono ?_); (case side1 => repeat (first | exact HR0.out | (with_reducible refine Kd.C_alloc ?_ _) | (with_reducible refine Kd.C_drewN ?_ _) | (with_reducible refine Kd.C_drew ?_))); (case side2 => exact HC0.out); (case side3 => exact G0_keep HGl.out (by repeat (first | (with_reducible first | exact HB.out | apply below_alloc | apply pw_below_drewN | apply below_drew1) | exact HB.out))); rintro e w5 ⟨rfl, hb⟩; refine ⟨_, rfl, ?_⟩; have n0_ := Aside0.mk (below_step (by repeat (first | (with_reducible first | exact HB.out | apply below_alloc | apply pw_below_drewN | apply below_drew1) | exact HB.out)) hb); clear HB; have HB := n0_; clear n0_; (try clear hb); (try clear hb2); (try clear hk); (try clear hi)))
  (try simp only [Act.put, List.setIfInBounds_toArray, List.set_cons_zero, List.set_cons_succ])
  go_cut [42] (fun v42 wc => ∃ (kq : Nat) (x42_3 : Bool), v42 = .bool x42_3 ∧ Aside0 (mummerlaw04_DataRound.j0 kq l0 a1 x42_3 = some r) ∧ Aside0 (kq ≤ k) ∧ Aside0 (Below w.heap.size w wc))
  case first =>
    have H := HC4.out
    clear HC4
    replace H := Option.bind_eq_some_iff.mp H
    obtain ⟨t562, A60, H⟩ := H
    replace H : (if t562 = true then (mummerlaw04_DataRound.j0 k l0 a1 true) else (if t561 = 0 then (mummerlaw04_DataRound.j0 k l0 a1 ((l0.length : Int) == 0)) else (mummerlaw04_DataRound.j0 k l0 a1 true))) = some r := H
    have A6 := Aside0.mk A60
    clear A60
    by_cases c7 : t562 = true
    · subst c7
      have H1 : (mummerlaw04_DataRound.j0 k l0 a1 true) = some r := by rw [if_pos rfl] at H; exact H
      clear H
      have H := H1
      clear H1
      have H' := Aside0.mk H
      clear H
      go_wp2_with (first | ((with_reducible refine gate_callee (f := 12) rfl ?_); refine goesL_ (some 33) rfl rfl Tryd.func12 (by kernel_rfl) rfl #[.slice A0 l0.length c0] rfl (by (try simp only [List.map_toArray, List.map_cons, List.map_nil]); first | done | rfl | (simp only [List.length_drop, List.length_take]; rfl)) ?_; (with_reducible refine (mummerlaw04_Far.calls k _ _ l0 true _ ?side1 ?side2 A6.out).mono ?_); (case side1 => repeat (first | exact (Kd.C_below HR0.out HB.out) | (with_reducible refine Kd.C_alloc ?_ _) | (with_reducible refine Kd.C_drewN ?_ _) | (with_reducible refine Kd.C_drew ?_))); (case side2 => exact HC0.out); rintro e w' ⟨rfl, ⟨nd, rfl⟩⟩; refine ⟨_, rfl, ?_⟩))
      go_meet
      case rel => exact ⟨_, (true), (by first | rfl | (simp; done) | (simp [*]; done)), H', ⟨by first | omega | exact Nat.le_refl _⟩, ⟨by repeat (first | (with_reducible first | exact HB.out | apply below_alloc | apply pw_below_drewN | apply below_drew1) | exact HB.out)⟩⟩
    · replace c7 := Bool.eq_false_iff.mpr c7
      subst c7
      have H1 : (if t561 = 0 then (mummerlaw04_DataRound.j0 k l0 a1 ((l0.length : Int) == 0)) else (mummerlaw04_DataRound.j0 k l0 a1 true)) = some r := by rw [if_neg (show ¬ (false = true) by decide)] at H; exact H
      clear H
      have H := H1
      clear H1
      by_cases c8 : t561 = 0
      · rw [if_pos c8] at H
        have c8b0 : (t561 == 0) = true := beq_iff_eq.mpr c8
        have c8b1 : (t561 != 0) = false := bne_eq_false_iff_eq.mpr c8
        clear c8
        (first | rw [c8b0] | (simp only [i64_w, i32_w]; rw [c8b0]) | skip)
        have H' := Aside0.mk H
        clear H
        go_wp2_with (first | ((with_reducible refine gate_callee (f := 12) rfl ?_); refine goesL_ (some 33) rfl rfl Tryd.func12 (by kernel_rfl) rfl #[.slice A0 l0.length c0] rfl (by (try simp only [List.map_toArray, List.map_cons, List.map_nil]); first | done | rfl | (simp only [List.length_drop, List.length_take]; rfl)) ?_; (with_reducible refine (mummerlaw04_Far.calls k _ _ l0 false _ ?side1 ?side2 A6.out).mono ?_); (case side1 => repeat (first | exact (Kd.C_below HR0.out HB.out) | (with_reducible refine Kd.C_alloc ?_ _) | (with_reducible refine Kd.C_drewN ?_ _) | (with_reducible refine Kd.C_drew ?_))); (case side2 => exact HC0.out); rintro e w' ⟨rfl, ⟨nd, rfl⟩⟩; refine ⟨_, rfl, ?_⟩))
        go_meet
        case rel => exact ⟨_, (((l0.length : Int) == 0)), (by first | rfl | (simp; done) | (simp [*]; done)), H', ⟨by first | omega | exact Nat.le_refl _⟩, ⟨by repeat (first | (with_reducible first | exact HB.out | apply below_alloc | apply pw_below_drewN | apply below_drew1) | exact HB.out)⟩⟩
      · rw [if_neg c8] at H
        have c8b0 : (t561 == 0) = false := beq_eq_false_iff_ne.mpr c8
        have c8b1 : (t561 != 0) = true := bne_iff_ne.mpr c8
        (first | rw [c8b0] | (simp only [i64_w, i32_w]; rw [c8b0]) | skip)
        have H' := Aside0.mk H
        clear H
        go_wp2_with (first | ((with_reducible refine gate_callee (f := 12) rfl ?_); refine goesL_ (some 33) rfl rfl Tryd.func12 (by kernel_rfl) rfl #[.slice A0 l0.length c0] rfl (by (try simp only [List.map_toArray, List.map_cons, List.map_nil]); first | done | rfl | (simp only [List.length_drop, List.length_take]; rfl)) ?_; (with_reducible refine (mummerlaw04_Far.calls k _ _ l0 false _ ?side1 ?side2 A6.out).mono ?_); (case side1 => repeat (first | exact (Kd.C_below HR0.out HB.out) | (with_reducible refine Kd.C_alloc ?_ _) | (with_reducible refine Kd.C_drewN ?_ _) | (with_reducible refine Kd.C_drew ?_))); (case side2 => exact HC0.out); rintro e w' ⟨rfl, ⟨nd, rfl⟩⟩; refine ⟨_, rfl, ?_⟩))
        go_meet
        case rel => exact ⟨_, (true), (by first | rfl | (simp; done) | (simp [*]; done)), H', ⟨by first | omega | exact Nat.le_refl _⟩, ⟨by repeat (first | (with_reducible first | exact HB.out | apply below_alloc | apply pw_below_drewN | apply below_drew1) | exact HB.out)⟩⟩
  case rest =>
    clear HC4
    try clear c1
    try clear p2
    try clear c7
    try clear c8
    try clear c8b0
    try clear c8b1
    obtain ⟨kq, x42_3, rfl, HA, HJ3, HB⟩ := hcut
    cases kq with
    | zero => exact absurd HA.out (by simp [mummerlaw04_DataRound.j0])
    | succ kj3 =>
      have H := HA.out
      clear HA
      simp only [mummerlaw04_DataRound.j0] at H
      by_cases c9 : x42_3 = true
      · subst c9
        have H1 : ((mummerlaw04_shown.f kj3).bind fun t563 => (some t563)) = some r := by rw [if_pos rfl] at H; exact H
        clear H
        have H := H1
        clear H1
        replace H := Option.bind_eq_some_iff.mp H
        obtain ⟨t563, A100, H⟩ := H
        replace H : (some t563) = some r := H
        have A10 := Aside0.mk A100
        clear A100
        obtain rfl := Option.some.inj H
        go_wp2_with (first | ((with_reducible refine gate_callee (f := 13) rfl ?_); refine goesL_ (some 43) rfl rfl Tryd.func13 (by kernel_rfl) rfl #[] rfl (by (try simp only [List.map_toArray, List.map_cons, List.map_nil]); first | done | rfl | (simp only [List.length_drop, List.length_take]; rfl)) ?_; (with_reducible refine (mummerlaw04_shown.calls kj3  t563 _ ?side1 A10.out).mono ?_); (case side1 => exact G0_keep HGl.out (by repeat (first | (with_reducible first | exact HB.out | apply below_alloc | apply pw_below_drewN | apply below_drew1) | exact HB.out))); rintro e w11 ⟨rfl, hb⟩; refine ⟨_, rfl, ?_⟩; have n0_ := Aside0.mk (below_step (by repeat (first | (with_reducible first | exact HB.out | apply below_alloc | apply pw_below_drewN | apply below_drew1) | exact HB.out)) hb); clear HB; have HB := n0_; clear n0_; (try clear hb); (try clear hb2); (try clear hk); (try clear hi)))
        go_ret
        exact ⟨by first | rfl | (simp [errW_none, errW_some] <;> rfl) | (simp [*, errW_none, errW_some] <;> rfl), by repeat (first | (with_reducible first | exact HB.out | apply below_alloc | apply pw_below_drewN | apply below_drew1) | exact HB.out)⟩
      · replace c9 := Bool.eq_false_iff.mpr c9
        subst c9
        have H1 : (if (l0.length : Int) = 0 then (none) else ((data_Sub.f kj3 l0 (Int.tmod (wrap64 (a1)) (l0.length : Int))).bind fun bt564 => ((data_Put.f l0 (Int.tmod (wrap64 (a1)) (l0.length : Int)) bt564.1).bind fun bt568 => ((data_Path.f l0 (Int.tmod (wrap64 (a1)) (l0.length : Int))).bind fun bt572 => ((data_At.f l0 bt572.1).bind fun bt576 => (if bt564.2 = 0 then (if bt568.2 = 0 then (if bt572.2 = 0 then (if bt576.2 = 0 then ((mummerref04_Same.f kj3 bt568.1 l0).bind fun t578 => (if t578 = true then (if bt576.1 = (Int.tmod (wrap64 (a1)) (l0.length : Int)) then ((data_Kids.f l0 (Int.tmod (wrap64 (a1)) (l0.length : Int))).bind fun bt579 => ((data_Size.f kj3 l0 (Int.tmod (wrap64 (a1)) (l0.length : Int))).bind fun bt583 => (if bt579.2 = 0 then (if bt583.2 = 0 then (if 0 ≤ (Int.tmod (wrap64 (a1)) (l0.length : Int)) then (if (Int.tmod (wrap64 (a1)) (l0.length : Int)) < (l0.length : Int) then (if (bt579.1.length : Int) = ((rd_T51 l0 (Int.tmod (wrap64 (a1)) (l0.length : Int))).f1) then (if bt583.1 = (bt564.1.length : Int) then (mummerlaw04_DataRound.l0 kj3 l0 (Int.tmod (wrap64 (a1)) (l0.length : Int)) bt564.1 bt572.1 bt579.1 bt583.1 ([] : List (List (S51))) 1 0) else (none)) else (none)) else (none)) else (none)) else (none)) else (none)))) else (none)) else (none))) else (none)) else (none)) else (none)) else (none))))))) = some r := by rw [if_neg (show ¬ (false = true) by decide)] at H; exact H
        clear H
        have H := H1
        clear H1
        by_cases c12 : (l0.length : Int) = 0
        · rw [if_pos c12] at H
          exact absurd H (by simp)
        · rw [if_neg c12] at H
          have c12b0 : ((l0.length : Int) == 0) = false := beq_eq_false_iff_ne.mpr c12
          have c12b1 : ((l0.length : Int) != 0) = true := bne_iff_ne.mpr c12
          have c12b2 : ¬ (l0 = []) := fun h_ => c12 (by rw [h_]; rfl)
          replace H := Option.bind_eq_some_iff.mp H
          obtain ⟨⟨t564, t565⟩, A130, H⟩ := H
          replace H : ((data_Put.f l0 (Int.tmod (wrap64 (a1)) (l0.length : Int)) t564).bind fun bt568 => ((data_Path.f l0 (Int.tmod (wrap64 (a1)) (l0.length : Int))).bind fun bt572 => ((data_At.f l0 bt572.1).bind fun bt576 => (if t565 = 0 then (if bt568.2 = 0 then (if bt572.2 = 0 then (if bt576.2 = 0 then ((mummerref04_Same.f kj3 bt568.1 l0).bind fun t578 => (if t578 = true then (if bt576.1 = (Int.tmod (wrap64 (a1)) (l0.length : Int)) then ((data_Kids.f l0 (Int.tmod (wrap64 (a1)) (l0.length : Int))).bind fun bt579 => ((data_Size.f kj3 l0 (Int.tmod (wrap64 (a1)) (l0.length : Int))).bind fun bt583 => (if bt579.2 = 0 then (if bt583.2 = 0 then (if 0 ≤ (Int.tmod (wrap64 (a1)) (l0.length : Int)) then (if (Int.tmod (wrap64 (a1)) (l0.length : Int)) < (l0.length : Int) then (if (bt579.1.length : Int) = ((rd_T51 l0 (Int.tmod (wrap64 (a1)) (l0.length : Int))).f1) then (if bt583.1 = (t564.length : Int) then (mummerlaw04_DataRound.l0 kj3 l0 (Int.tmod (wrap64 (a1)) (l0.length : Int)) t564 bt572.1 bt579.1 bt583.1 ([] : List (List (S51))) 1 0) else (none)) else (none)) else (none)) else (none)) else (none)) else (none)))) else (none)) else (none))) else (none)) else (none)) else (none)) else (none))))) = some r := H
          have A13 := Aside0.mk A130
          clear A130
          replace H := Option.bind_eq_some_iff.mp H
          obtain ⟨⟨t568, t569⟩, A140, H⟩ := H
          replace H : ((data_Path.f l0 (Int.tmod (wrap64 (a1)) (l0.length : Int))).bind fun bt572 => ((data_At.f l0 bt572.1).bind fun bt576 => (if t565 = 0 then (if t569 = 0 then (if bt572.2 = 0 then (if bt576.2 = 0 then ((mummerref04_Same.f kj3 t568 l0).bind fun t578 => (if t578 = true then (if bt576.1 = (Int.tmod (wrap64 (a1)) (l0.length : Int)) then ((data_Kids.f l0 (Int.tmod (wrap64 (a1)) (l0.length : Int))).bind fun bt579 => ((data_Size.f kj3 l0 (Int.tmod (wrap64 (a1)) (l0.length : Int))).bind fun bt583 => (if bt579.2 = 0 then (if bt583.2 = 0 then (if 0 ≤ (Int.tmod (wrap64 (a1)) (l0.length : Int)) then (if (Int.tmod (wrap64 (a1)) (l0.length : Int)) < (l0.length : Int) then (if (bt579.1.length : Int) = ((rd_T51 l0 (Int.tmod (wrap64 (a1)) (l0.length : Int))).f1) then (if bt583.1 = (t564.length : Int) then (mummerlaw04_DataRound.l0 kj3 l0 (Int.tmod (wrap64 (a1)) (l0.length : Int)) t564 bt572.1 bt579.1 bt583.1 ([] : List (List (S51))) 1 0) else (none)) else (none)) else (none)) else (none)) else (none)) else (none)))) else (none)) else (none))) else (none)) else (none)) else (none)) else (none)))) = some r := H
          have A14 := Aside0.mk A140
          clear A140
          replace H := Option.bind_eq_some_iff.mp H
          obtain ⟨⟨t572, t573⟩, A150, H⟩ := H
          replace H : ((data_At.f l0 t572).bind fun bt576 => (if t565 = 0 then (if t569 = 0 then (if t573 = 0 then (if bt576.2 = 0 then ((mummerref04_Same.f kj3 t568 l0).bind fun t578 => (if t578 = true then (if bt576.1 = (Int.tmod (wrap64 (a1)) (l0.length : Int)) then ((data_Kids.f l0 (Int.tmod (wrap64 (a1)) (l0.length : Int))).bind fun bt579 => ((data_Size.f kj3 l0 (Int.tmod (wrap64 (a1)) (l0.length : Int))).bind fun bt583 => (if bt579.2 = 0 then (if bt583.2 = 0 then (if 0 ≤ (Int.tmod (wrap64 (a1)) (l0.length : Int)) then (if (Int.tmod (wrap64 (a1)) (l0.length : Int)) < (l0.length : Int) then (if (bt579.1.length : Int) = ((rd_T51 l0 (Int.tmod (wrap64 (a1)) (l0.length : Int))).f1) then (if bt583.1 = (t564.length : Int) then (mummerlaw04_DataRound.l0 kj3 l0 (Int.tmod (wrap64 (a1)) (l0.length : Int)) t564 t572 bt579.1 bt583.1 ([] : List (List (S51))) 1 0) else (none)) else (none)) else (none)) else (none)) else (none)) else (none)))) else (none)) else (none))) else (none)) else (none)) else (none)) else (none))) = some r := H
          have A15 := Aside0.mk A150
          clear A150
          replace H := Option.bind_eq_some_iff.mp H
          obtain ⟨⟨t576, t577⟩, A160, H⟩ := H
          replace H : (if t565 = 0 then (if t569 = 0 then (if t573 = 0 then (if t577 = 0 then ((mummerref04_Same.f kj3 t568 l0).bind fun t578 => (if t578 = true then (if t576 = (Int.tmod (wrap64 (a1)) (l0.length : Int)) then ((data_Kids.f l0 (Int.tmod (wrap64 (a1)) (l0.length : Int))).bind fun bt579 => ((data_Size.f kj3 l0 (Int.tmod (wrap64 (a1)) (l0.length : Int))).bind fun bt583 => (if bt579.2 = 0 then (if bt583.2 = 0 then (if 0 ≤ (Int.tmod (wrap64 (a1)) (l0.length : Int)) then (if (Int.tmod (wrap64 (a1)) (l0.length : Int)) < (l0.length : Int) then (if (bt579.1.length : Int) = ((rd_T51 l0 (Int.tmod (wrap64 (a1)) (l0.length : Int))).f1) then (if bt583.1 = (t564.length : Int) then (mummerlaw04_DataRound.l0 kj3 l0 (Int.tmod (wrap64 (a1)) (l0.length : Int)) t564 t572 bt579.1 bt583.1 ([] : List (List (S51))) 1 0) else (none)) else (none)) else (none)) else (none)) else (none)) else (none)))) else (none)) else (none))) else (none)) else (none)) else (none)) else (none)) = some r := H
          have A16 := Aside0.mk A160
          clear A160
          by_cases c17 : t565 = 0
          · rw [if_pos c17] at H
            have c17b0 : (t565 == 0) = true := beq_iff_eq.mpr c17
            have c17b1 : (t565 != 0) = false := bne_eq_false_iff_eq.mpr c17
            clear c17
            by_cases c18 : t569 = 0
            · rw [if_pos c18] at H
              have c18b0 : (t569 == 0) = true := beq_iff_eq.mpr c18
              have c18b1 : (t569 != 0) = false := bne_eq_false_iff_eq.mpr c18
              clear c18
              by_cases c19 : t573 = 0
              · rw [if_pos c19] at H
                have c19b0 : (t573 == 0) = true := beq_iff_eq.mpr c19
                have c19b1 : (t573 != 0) = false := bne_eq_false_iff_eq.mpr c19
                clear c19
                by_cases c20 : t577 = 0
                · rw [if_pos c20] at H
                  have c20b0 : (t577 == 0) = true := beq_iff_eq.mpr c20
                  have c20b1 : (t577 != 0) = false := bne_eq_false_iff_eq.mpr c20
                  clear c20
                  replace H := Option.bind_eq_some_iff.mp H
                  obtain ⟨t578, A210, H⟩ := H
                  replace H : (if t578 = true then (if t576 = (Int.tmod (wrap64 (a1)) (l0.length : Int)) then ((data_Kids.f l0 (Int.tmod (wrap64 (a1)) (l0.length : Int))).bind fun bt579 => ((data_Size.f kj3 l0 (Int.tmod (wrap64 (a1)) (l0.length : Int))).bind fun bt583 => (if bt579.2 = 0 then (if bt583.2 = 0 then (if 0 ≤ (Int.tmod (wrap64 (a1)) (l0.length : Int)) then (if (Int.tmod (wrap64 (a1)) (l0.length : Int)) < (l0.length : Int) then (if (bt579.1.length : Int) = ((rd_T51 l0 (Int.tmod (wrap64 (a1)) (l0.length : Int))).f1) then (if bt583.1 = (t564.length : Int) then (mummerlaw04_DataRound.l0 kj3 l0 (Int.tmod (wrap64 (a1)) (l0.length : Int)) t564 t572 bt579.1 bt583.1 ([] : List (List (S51))) 1 0) else (none)) else (none)) else (none)) else (none)) else (none)) else (none)))) else (none)) else (none)) = some r := H
                  have A21 := Aside0.mk A210
                  clear A210
                  by_cases c22 : t578 = true
                  · subst c22
                    have H1 : (if t576 = (Int.tmod (wrap64 (a1)) (l0.length : Int)) then ((data_Kids.f l0 (Int.tmod (wrap64 (a1)) (l0.length : Int))).bind fun bt579 => ((data_Size.f kj3 l0 (Int.tmod (wrap64 (a1)) (l0.length : Int))).bind fun bt583 => (if bt579.2 = 0 then (if bt583.2 = 0 then (if 0 ≤ (Int.tmod (wrap64 (a1)) (l0.length : Int)) then (if (Int.tmod (wrap64 (a1)) (l0.length : Int)) < (l0.length : Int) then (if (bt579.1.length : Int) = ((rd_T51 l0 (Int.tmod (wrap64 (a1)) (l0.length : Int))).f1) then (if bt583.1 = (t564.length : Int) then (mummerlaw04_DataRound.l0 kj3 l0 (Int.tmod (wrap64 (a1)) (l0.length : Int)) t564 t572 bt579.1 bt583.1 ([] : List (List (S51))) 1 0) else (none)) else (none)) else (none)) else (none)) else (none)) else (none)))) else (none)) = some r := by rw [if_pos rfl] at H; exact H
                    clear H
                    have H := H1
                    clear H1
                    by_cases c23 : t576 = (Int.tmod (wrap64 (a1)) (l0.length : Int))
                    · rw [if_pos c23] at H
                      have c23b0 : (t576 == (Int.tmod (wrap64 (a1)) (l0.length : Int))) = true := beq_iff_eq.mpr c23
                      have c23b1 : (t576 != (Int.tmod (wrap64 (a1)) (l0.length : Int))) = false := bne_eq_false_iff_eq.mpr c23
                      clear c23
                      replace H := Option.bind_eq_some_iff.mp H
                      obtain ⟨⟨t579, t580⟩, A240, H⟩ := H
                      replace H : ((data_Size.f kj3 l0 (Int.tmod (wrap64 (a1)) (l0.length : Int))).bind fun bt583 => (if t580 = 0 then (if bt583.2 = 0 then (if 0 ≤ (Int.tmod (wrap64 (a1)) (l0.length : Int)) then (if (Int.tmod (wrap64 (a1)) (l0.length : Int)) < (l0.length : Int) then (if (t579.length : Int) = ((rd_T51 l0 (Int.tmod (wrap64 (a1)) (l0.length : Int))).f1) then (if bt583.1 = (t564.length : Int) then (mummerlaw04_DataRound.l0 kj3 l0 (Int.tmod (wrap64 (a1)) (l0.length : Int)) t564 t572 t579 bt583.1 ([] : List (List (S51))) 1 0) else (none)) else (none)) else (none)) else (none)) else (none)) else (none))) = some r := H
                      have A24 := Aside0.mk A240
                      clear A240
                      replace H := Option.bind_eq_some_iff.mp H
                      obtain ⟨⟨t583, t584⟩, A250, H⟩ := H
                      replace H : (if t580 = 0 then (if t584 = 0 then (if 0 ≤ (Int.tmod (wrap64 (a1)) (l0.length : Int)) then (if (Int.tmod (wrap64 (a1)) (l0.length : Int)) < (l0.length : Int) then (if (t579.length : Int) = ((rd_T51 l0 (Int.tmod (wrap64 (a1)) (l0.length : Int))).f1) then (if t583 = (t564.length : Int) then (mummerlaw04_DataRound.l0 kj3 l0 (Int.tmod (wrap64 (a1)) (l0.length : Int)) t564 t572 t579 t583 ([] : List (List (S51))) 1 0) else (none)) else (none)) else (none)) else (none)) else (none)) else (none)) = some r := H
                      have A25 := Aside0.mk A250
                      clear A250
                      by_cases c26 : t580 = 0
                      · rw [if_pos c26] at H
                        have c26b0 : (t580 == 0) = true := beq_iff_eq.mpr c26
                        have c26b1 : (t580 != 0) = false := bne_eq_false_iff_eq.mpr c26
                        clear c26
                        by_cases c27 : t584 = 0
                        · rw [if_pos c27] at H
                          have c27b0 : (t584 == 0) = true := beq_iff_eq.mpr c27
                          have c27b1 : (t584 != 0) = false := bne_eq_false_iff_eq.mpr c27
                          clear c27
                          obtain ⟨ji28, hji28⟩ : ∃ j_ : Int, (Int.tmod (wrap64 (a1)) (l0.length : Int)) = j_ := ⟨_, rfl⟩
                          replace H : (if 0 ≤ (ji28) then (if (ji28) < (l0.length : Int) then (if (t579.length : Int) = ((rd_T51 l0 (ji28)).f1) then (if t583 = (t564.length : Int) then (mummerlaw04_DataRound.l0 kj3 l0 ji28 t564 t572 t579 t583 ([] : List (List (S51))) 1 0) else (none)) else (none)) else (none)) else (none)) = some r := by first | (rw [hji28] at H; exact H) | (simp only [hji28] at H ⊢; exact H)
                          (try rw [hji28] at c23b0)
                          (try rw [hji28] at c23b1)
                          (try rw [hji28] at A13)
                          (try rw [hji28] at A14)
                          (try rw [hji28] at A15)
                          (try rw [hji28] at A16)
                          (try rw [hji28] at A21)
                          (try rw [hji28] at A24)
                          (try rw [hji28] at A25)
                          by_cases c29 : 0 ≤ (ji28)
                          · rw [if_pos c29] at H
                            have c29b0 : decide (0 ≤ (ji28)) = true := decide_eq_true c29
                            clear c29
                            by_cases c30 : (ji28) < (l0.length : Int)
                            · rw [if_pos c30] at H
                              have c30b0 : decide ((ji28) < (l0.length : Int)) = true := decide_eq_true c30
                              clear c30
                              by_cases c31 : (t579.length : Int) = ((rd_T51 l0 (ji28)).f1)
                              · rw [if_pos c31] at H
                                have c31b0 : ((t579.length : Int) == ((rd_T51 l0 (ji28)).f1)) = true := beq_iff_eq.mpr c31
                                have c31b1 : ((t579.length : Int) != ((rd_T51 l0 (ji28)).f1)) = false := bne_eq_false_iff_eq.mpr c31
                                clear c31
                                by_cases c32 : t583 = (t564.length : Int)
                                · rw [if_pos c32] at H
                                  have c32b0 : (t583 == (t564.length : Int)) = true := beq_iff_eq.mpr c32
                                  have c32b1 : (t583 != (t564.length : Int)) = false := bne_eq_false_iff_eq.mpr c32
                                  clear c32
                                  have H' := Aside0.mk H
                                  clear H
                                  go_wp2_with (first | ((with_reducible refine gate_callee (f := 22) rfl ?_); refine goesL_ (some 52) rfl rfl Tryd.func22 (by kernel_rfl) rfl #[.slice A0 l0.length c0, .int .i64 ji28] rfl (by (try simp only [List.map_toArray, List.map_cons, List.map_nil]); first | done | (simp only [hji28]; rfl) | rfl | (simp only [List.length_drop, List.length_take]; rfl)) ?_; (with_reducible refine (data_Sub.calls kj3 _ _ l0 ji28 t564 t565 _ ?side1 ?side2 ?side3 A13.out).mono ?_); (case side1 => repeat (first | exact (Kd.C_below HR0.out HB.out) | (with_reducible refine Kd.C_alloc ?_ _) | (with_reducible refine Kd.C_drewN ?_ _) | (with_reducible refine Kd.C_drew ?_))); (case side2 => exact HC0.out); (case side3 => exact G0_keep HGl.out (by repeat (first | (with_reducible first | exact HB.out | apply below_alloc | apply pw_below_drewN | apply below_drew1) | exact HB.out))); rintro e w33 ⟨v566, rfl, ho0, hb⟩; refine ⟨_, rfl, ?_⟩; have n0_ := Aside0.mk (Kd.R_lower ho0 (below_size (by repeat (first | (with_reducible first | exact HB.out | apply below_alloc | apply pw_below_drewN | apply below_drew1) | exact HB.out)))); have n1_ := Aside0.mk (below_step (by repeat (first | (with_reducible first | exact HB.out | apply below_alloc | apply pw_below_drewN | apply below_drew1) | exact HB.out)) hb); clear HB; have HO567 := n0_; have HB := n1_; clear n0_ n1_; (try clear hb); (try clear hb2); (try clear hk); (try clear hi); (try clear ho0); obtain ⟨Ao34, co34, eo34⟩ := Kd.R_slice HO567.out; subst eo34) | ((with_reducible refine gate_callee (f := 21) rfl ?_); refine goesL_ (some 59) rfl rfl Tryd.func21 (by kernel_rfl) rfl #[.slice A0 l0.length c0, .int .i64 ji28, .slice Ao34 t564.length co34] rfl (by (try simp only [List.map_toArray, List.map_cons, List.map_nil]); first | done | (simp only [hji28]; rfl) | rfl | (simp only [List.length_drop, List.length_take]; rfl)) ?_; (with_reducible refine (data_Put.calls _ _ l0 ji28 _ _ t564 t568 t569 _ ?side1 ?side2 ?side3 ?side4 ?side5 A14.out).mono ?_); (case side1 => repeat (first | exact (Kd.C_below HR0.out HB.out) | (with_reducible refine Kd.C_alloc ?_ _) | (with_reducible refine Kd.C_drewN ?_ _) | (with_reducible refine Kd.C_drew ?_))); (case side2 => exact HC0.out); (case side3 => repeat (first | exact (Kd.R_reads' HO567.out).2.2 | (with_reducible refine Kd.C_alloc ?_ _) | (with_reducible refine Kd.C_drewN ?_ _) | (with_reducible refine Kd.C_drew ?_))); (case side4 => exact (Kd.R_reads' HO567.out).2.1); (case side5 => exact G0_keep HGl.out (by repeat (first | (with_reducible first | exact HB.out | apply below_alloc | apply pw_below_drewN | apply below_drew1) | exact HB.out))); rintro e w35 ⟨v570, rfl, ho0, hb⟩; refine ⟨_, rfl, ?_⟩; have n0_ := Aside0.mk (Kd.R_elder' (by (with_reducible repeat (first | apply Kd.R_alloc | apply Kd.R_drewN | apply Kd.R_drew)); exact HO567.out) (Kd.R_base ho0) hb); have n1_ := Aside0.mk (Kd.R_lower (Kd.R_new' ho0 (Kd.R_lt (by (with_reducible repeat (first | apply Kd.R_alloc | apply Kd.R_drewN | apply Kd.R_drew)); exact HO567.out))) (below_size (by repeat (first | (with_reducible first | exact HB.out | apply below_alloc | apply pw_below_drewN | apply below_drew1) | exact HB.out)))); have n2_ := Aside0.mk (below_step (by repeat (first | (with_reducible first | exact HB.out | apply below_alloc | apply pw_below_drewN | apply below_drew1) | exact HB.out)) hb); clear HO567; clear HB; have HO567 := n0_; have HO571 := n1_; have HB := n2_; clear n0_ n1_ n2_; (try clear hb); (try clear hb2); (try clear hk); (try clear hi); (try clear ho0)) | ((with_reducible refine gate_callee (f := 37) rfl ?_); refine goesL_ (some 65) rfl rfl Tryd.func37 (by kernel_rfl) rfl #[.slice A0 l0.length c0, .int .i64 ji28] rfl (by (try simp only [List.map_toArray, List.map_cons, List.map_nil]); first | done | (simp only [hji28]; rfl) | rfl | (simp only [List.length_drop, List.length_take]; rfl)) ?_; (with_reducible refine (data_Path.calls _ _ l0 ji28 t572 t573 _ ?side1 ?side2 ?side3 A15.out).mono ?_); (case side1 => repeat (first | exact (Kd.C_below HR0.out HB.out) | (with_reducible refine Kd.C_alloc ?_ _) | (with_reducible refine Kd.C_drewN ?_ _) | (with_reducible refine Kd.C_drew ?_))); (case side2 => exact HC0.out); (case side3 => exact G0_keep HGl.out (by repeat (first | (with_reducible first | exact HB.out | apply below_alloc | apply pw_below_drewN | apply below_drew1) | exact HB.out))); rintro e w36 ⟨v574, rfl, ho0, hb⟩; refine ⟨_, rfl, ?_⟩; have n0_ := Aside0.mk (Kd.R_below (by (with_reducible repeat (first | apply Kd.R_alloc | apply Kd.R_drewN | apply Kd.R_drew)); exact HO567.out) hb); have n1_ := Aside0.mk (Kd.R_below (by (with_reducible repeat (first | apply Kd.R_alloc | apply Kd.R_drewN | apply Kd.R_drew)); exact HO571.out) hb); have n2_ := Aside0.mk (Kd.R_lower ho0 (below_size (by repeat (first | (with_reducible first | exact HB.out | apply below_alloc | apply pw_below_drewN | apply below_drew1) | exact HB.out)))); have n3_ := Aside0.mk (below_step (by repeat (first | (with_reducible first | exact HB.out | apply below_alloc | apply pw_below_drewN | apply below_drew1) | exact HB.out)) hb); clear HO567; clear HO571; clear HB; have HO567 := n0_; have HO571 := n1_; have HO575 := n2_; have HB := n3_; clear n0_ n1_ n2_ n3_; (try clear hb); (try clear hb2); (try clear hk); (try clear hi); (try clear ho0); obtain ⟨Ao37, co37, eo37⟩ := Kd.R_slice HO575.out; subst eo37) | ((with_reducible refine gate_callee (f := 39) rfl ?_); refine goesL_ (some 71) rfl rfl Tryd.func39 (by kernel_rfl) rfl #[.slice A0 l0.length c0, .slice Ao37 t572.length co37] rfl (by (try simp only [List.map_toArray, List.map_cons, List.map_nil]); first | done | rfl | (simp only [List.length_drop, List.length_take]; rfl)) ?_; (with_reducible refine (data_At.calls _ _ l0 _ _ t572 t576 t577 _ ?side1 ?side2 ?side3 ?side4 ?side5 A16.out).mono ?_); (case side1 => repeat (first | exact (Kd.C_below HR0.out HB.out) | (with_reducible refine Kd.C_alloc ?_ _) | (with_reducible refine Kd.C_drewN ?_ _) | (with_reducible refine Kd.C_drew ?_))); (case side2 => exact HC0.out); (case side3 => repeat (first | exact (Kd.R_reads' HO575.out).2.2 | (with_reducible refine Kd.C_alloc ?_ _) | (with_reducible refine Kd.C_drewN ?_ _) | (with_reducible refine Kd.C_drew ?_))); (case side4 => exact (Kd.R_reads' HO575.out).2.1); (case side5 => exact G0_keep HGl.out (by repeat (first | (with_reducible first | exact HB.out | apply below_alloc | apply pw_below_drewN | apply below_drew1) | exact HB.out))); rintro e w38 ⟨rfl, hb⟩; refine ⟨_, rfl, ?_⟩; have n0_ := Aside0.mk (Kd.R_below (by (with_reducible repeat (first | apply Kd.R_alloc | apply Kd.R_drewN | apply Kd.R_drew)); exact HO567.out) hb); have n1_ := Aside0.mk (Kd.R_below (by (with_reducible repeat (first | apply Kd.R_alloc | apply Kd.R_drewN | apply Kd.R_drew)); exact HO571.out) hb); have n2_ := Aside0.mk (Kd.R_below (by (with_reducible repeat (first | apply Kd.R_alloc | apply Kd.R_drewN | apply Kd.R_drew)); exact HO575.out) hb); have n3_ := Aside0.mk (below_step (by repeat (first | (with_reducible first | exact HB.out | apply below_alloc | apply pw_below_drewN | apply below_drew1) | exact HB.out)) hb); clear HO567; clear HO571; clear HO575; clear HB; have HO567 := n0_; have HO571 := n1_; have HO575 := n2_; have HB := n3_; clear n0_ n1_ n2_ n3_; (try clear hb); (try clear hb2); (try clear hk); (try clear hi); obtain ⟨Ao39, co39, eo39⟩ := Kd.R_slice HO571.out; subst eo39) | (go_at_call 24; (with_reducible refine (mummerref04_Same.calls kj3 _ _ t568 _ _ l0 true _ ?side1 ?side2 ?side3 ?side4 A21.out).mono ?_); (case side1 => repeat (first | exact (Kd.R_reads' HO571.out).2.2 | (with_reducible refine Kd.C_alloc ?_ _) | (with_reducible refine Kd.C_drewN ?_ _) | (with_reducible refine Kd.C_drew ?_))); (case side2 => exact (Kd.R_reads' HO571.out).2.1); (case side3 => repeat (first | exact (Kd.C_below HR0.out HB.out) | (with_reducible refine Kd.C_alloc ?_ _) | (with_reducible refine Kd.C_drewN ?_ _) | (with_reducible refine Kd.C_drew ?_))); (case side4 => exact HC0.out); rintro e w' ⟨rfl, ⟨nd, rfl⟩⟩) | ((with_reducible refine gate_callee (f := 31) rfl ?_); refine goesL_ (some 102) rfl rfl Tryd.func31 (by kernel_rfl) rfl #[.slice A0 l0.length c0, .int .i64 ji28] rfl (by (try simp only [List.map_toArray, List.map_cons, List.map_nil]); first | done | (simp only [hji28]; rfl) | rfl | (simp only [List.length_drop, List.length_take]; rfl)) ?_; (with_reducible refine (data_Kids.calls _ _ l0 ji28 t579 t580 _ ?side1 ?side2 ?side3 A24.out).mono ?_); (case side1 => repeat (first | exact (Kd.C_below HR0.out (by repeat (first | (with_reducible first | exact HB.out | apply below_alloc | apply pw_below_drewN | apply below_drew1) | exact HB.out))) | (with_reducible refine Kd.C_alloc ?_ _) | (with_reducible refine Kd.C_drewN ?_ _) | (with_reducible refine Kd.C_drew ?_))); (case side2 => exact HC0.out); (case side3 => exact G0_keep HGl.out (by repeat (first | (with_reducible first | exact HB.out | apply below_alloc | apply pw_below_drewN | apply below_drew1) | exact HB.out))); rintro e w40 ⟨v581, rfl, ho0, hb⟩; refine ⟨_, rfl, ?_⟩; have n0_ := Aside0.mk (Kd.R_below (by (with_reducible repeat (first | apply Kd.R_alloc | apply Kd.R_drewN | apply Kd.R_drew)); exact HO567.out) hb); have n1_ := Aside0.mk (Kd.R_below (by (with_reducible repeat (first | apply Kd.R_alloc | apply Kd.R_drewN | apply Kd.R_drew)); exact HO571.out) hb); have n2_ := Aside0.mk (Kd.R_elder' (by (with_reducible repeat (first | apply Kd.R_alloc | apply Kd.R_drewN | apply Kd.R_drew)); exact HO575.out) (Kd.R_base ho0) hb); have n3_ := Aside0.mk (Kd.R_lower (Kd.R_new' ho0 (Kd.R_lt (by (with_reducible repeat (first | apply Kd.R_alloc | apply Kd.R_drewN | apply Kd.R_drew)); exact HO575.out))) (below_size (by repeat (first | (with_reducible first | exact HB.out | apply below_alloc | apply pw_below_drewN | apply below_drew1) | exact HB.out)))); have n4_ := Aside0.mk (below_step (by repeat (first | (with_reducible first | exact HB.out | apply below_alloc | apply pw_below_drewN | apply below_drew1) | exact HB.out)) hb); clear HO567; clear HO571; clear HO575; clear HB; have HO567 := n0_; have HO571 := n1_; have HO575 := n2_; have HO582 := n3_; have HB := n4_; clear n0_ n1_ n2_ n3_ n4_; (try clear hb); (try clear hb2); (try clear hk); (try clear hi); (try clear ho0)) | ((with_reducible refine gate_callee (f := 23) rfl ?_); refine goesL_ (some 108) rfl rfl Tryd.func23 (by kernel_rfl) rfl #[.slice A0 l0.length c0, .int .i64 ji28] rfl (by (try simp only [List.map_toArray, List.map_cons, List.map_nil]); first | done | (simp only [hji28]; rfl) | rfl | (simp only [List.length_drop, List.length_take]; rfl)) ?_; (with_reducible refine (data_Size.calls kj3 _ _ l0 ji28 t583 t584 _ ?side1 ?side2 ?side3 A25.out).mono ?_); (case side1 => repeat (first | exact (Kd.C_below HR0.out HB.out) | (with_reducible refine Kd.C_alloc ?_ _) | (with_reducible refine Kd.C_drewN ?_ _) | (with_reducible refine Kd.C_drew ?_))); (case side2 => exact HC0.out); (case side3 => exact G0_keep HGl.out (by repeat (first | (with_reducible first | exact HB.out | apply below_alloc | apply pw_below_drewN | apply below_drew1) | exact HB.out))); rintro e w41 ⟨rfl, hb⟩; refine ⟨_, rfl, ?_⟩; have n0_ := Aside0.mk (Kd.R_below (by (with_reducible repeat (first | apply Kd.R_alloc | apply Kd.R_drewN | apply Kd.R_drew)); exact HO567.out) hb); have n1_ := Aside0.mk (Kd.R_below (by (with_reducible repeat (first | apply Kd.R_alloc | apply Kd.R_drewN | apply Kd.R_drew)); exact HO571.out) hb); have n2_ := Aside0.mk (Kd.R_below (by (with_reducible repeat (first | apply Kd.R_alloc | apply Kd.R_drewN | apply Kd.R_drew)); exact HO575.out) hb); have n3_ := Aside0.mk (Kd.R_below (by (with_reducible repeat (first | apply Kd.R_alloc | apply Kd.R_drewN | apply Kd.R_drew)); exact HO582.out) hb); have n4_ := Aside0.mk (below_step (by repeat (first | (with_reducible first | exact HB.out | apply below_alloc | apply pw_below_drewN | apply below_drew1) | exact HB.out)) hb); clear HO567; clear HO571; clear HO575; clear HO582; clear HB; have HO567 := n0_; have HO571 := n1_; have HO575 := n2_; have HO582 := n3_; have HB := n4_; clear n0_ n1_ n2_ n3_ n4_; (try clear hb); (try clear hb2); (try clear hk); (try clear hi); obtain ⟨Ao42, co42, eo42⟩ := Kd.R_slice HO582.out; subst eo42; have p585 : 0 ≤ ((ji28) : Int) := of_decide_eq_true (by first | (with_reducible assumption) | assumption); have q585 : (ji28) < (l0.length : Int) := of_decide_eq_true (by first | (with_reducible assumption) | assumption); obtain ⟨ad585, e585, hx585_0, hx585_1, hx585_2, hx585_3⟩ := at_T51 HR0.out (ji28) p585 q585; cases e585; replace hx585_0 := (HB.out.cell (World.block_lt_of_cell? w _ hx585_0)).trans hx585_0; replace hx585_1 := (HB.out.cell (World.block_lt_of_cell? w _ hx585_1)).trans hx585_1; replace hx585_2 := (HB.out.cell (World.block_lt_of_cell? w _ hx585_2)).trans hx585_2; replace hx585_3 := (HB.out.cell (World.block_lt_of_cell? w _ hx585_3)).trans hx585_3; replace p585 := eq_true p585; replace q585 := eq_true q585))
                                  go_loopg [17, 18, 19] kj3 (fun kq v17 v18 v19 w' => ∃ (x17_2 : List (List (S51))) (x18_2 : Int) (x19_2 : Int), v18 = .int .i64 x18_2 ∧ v19 = .int .i64 x19_2 ∧ Aside0 (mummerlaw04_DataRound.l0 kq l0 ji28 t564 t572 t579 t583 x17_2 x18_2 x19_2 = some r) ∧ Aside0 (kq ≤ kj3) ∧ Aside0 (Kd.R k51 51 w' w.heap.size (fun _ => True) (.slice Ao34 t564.length co34) t564) ∧ Aside0 (Kd.R (Kd.int .i64) 3 w' w.heap.size (fun k_ => some k_ ≠ ((.slice Ao42 t579.length co42) : Value).ownBlock) (.slice Ao37 t572.length co37) t572) ∧ Aside0 (Kd.R (Kd.int .i64) 3 w' w.heap.size (fun k_ => some k_ ≠ ((.slice Ao37 t572.length co37) : Value).ownBlock) (.slice Ao42 t579.length co42) t579) ∧ Aside0 (Kd.S (Kd.slice 51 k51) 22 w' w.heap.size (fun k_ => some k_ ≠ ((.slice Ao34 t564.length co34) : Value).ownBlock) v17 x17_2) ∧ Aside0 (Below w.heap.size w w'))
                                  case atStart => exact ⟨(([] : List (List (S51)))), (1), (0), (by first | rfl | (simp; done) | (simp [*]; done)), (by first | rfl | (simp; done) | (simp [*]; done)), H', ⟨Nat.le_refl _⟩, ⟨by (with_reducible repeat (first | apply Kd.R_alloc | apply Kd.R_drewN | apply Kd.R_drew)); exact Kd.R_mono HO567.out (fun _ hk => trivial)⟩, ⟨by (with_reducible repeat (first | apply Kd.R_alloc | apply Kd.R_drewN | apply Kd.R_drew)); exact Kd.R_mono HO575.out (fun _ hk => hk.2)⟩, ⟨by (with_reducible repeat (first | apply Kd.R_alloc | apply Kd.R_drewN | apply Kd.R_drew)); exact Kd.R_mono HO582.out (fun _ hk => hk.2)⟩, ⟨by first | exact Kd.S_nil _ _ _ _ _ | exact Kd.N_nil _ _ _ _ _ | exact Kd.V_nil _ _ _ _ _ | exact Kd.Q_nil _ _ _ _ _ | exact Kd.R_nil _ _ _ _ _⟩, ⟨by repeat (first | (with_reducible first | exact HB.out | apply below_alloc | apply pw_below_drewN | apply below_drew1) | exact HB.out)⟩⟩
                                  case round =>
                                    clear H'
                                    try clear c1
                                    try clear c2
                                    try clear p2
                                    try clear c3
                                    try clear p5
                                    try clear q5
                                    try clear hx5
                                    try clear p6
                                    try clear c7
                                    try clear c8
                                    try clear c8b0
                                    try clear c8b1
                                    try clear c9
                                    try clear c12
                                    try clear c12b0
                                    try clear c12b1
                                    try clear c12b2
                                    try clear c13
                                    try clear c14
                                    try clear c17
                                    try clear c17b0
                                    try clear c17b1
                                    try clear c18
                                    try clear c18b0
                                    try clear c18b1
                                    try clear c19
                                    try clear c19b0
                                    try clear c19b1
                                    try clear c20
                                    try clear c20b0
                                    try clear c20b1
                                    try clear c21
                                    try clear c22
                                    try clear c23
                                    try clear c23b0
                                    try clear c23b1
                                    try clear c26
                                    try clear c26b0
                                    try clear c26b1
                                    try clear c27
                                    try clear c27b0
                                    try clear c27b1
                                    try clear c29
                                    try clear c29b0
                                    try clear c30
                                    try clear c30b0
                                    try clear c31
                                    try clear c31b0
                                    try clear c31b1
                                    try clear c32
                                    try clear c32b0
                                    try clear c32b1
                                    try clear c37
                                    try clear c39
                                    try clear hx585_0
                                    try clear hx585_1
                                    try clear hx585_2
                                    try clear hx585_3
                                    try clear p2
                                    try clear p585
                                    try clear q585
                                    obtain ⟨x17_2, x18_2, x19_2, rfl, rfl, HA, HK2, HO_8, HO_11, HO_15, HO_17, HB⟩ := hrel
                                    cases gk with
                                    | zero => exact absurd HA.out (by simp [mummerlaw04_DataRound.l0])
                                    | succ k2 =>
                                      have H := HA.out
                                      clear HA
                                      simp only [mummerlaw04_DataRound.l0] at H
                                      by_cases c43 : x19_2 < (t579.length : Int)
                                      · rw [if_pos c43] at H
                                        have c43b0 : decide (x19_2 < (t579.length : Int)) = true := decide_eq_true c43
                                        clear c43
                                        by_cases c44 : 0 ≤ x19_2
                                        · rw [if_pos c44] at H
                                          have c44b0 : decide (0 ≤ x19_2) = true := decide_eq_true c44
                                          clear c44
                                          replace H := Option.bind_eq_some_iff.mp H
                                          obtain ⟨⟨t587, t588⟩, A450, H⟩ := H
                                          replace H : ((data_Parent.f k2 l0 (rd t579 x19_2)).bind fun bt592 => ((data_Path.f l0 (rd t579 x19_2)).bind fun bt595 => (if t588 = 0 then (if bt592.2 = 0 then (if bt595.2 = 0 then (if bt592.1 = ji28 then (if (bt595.1.length : Int) = (wrap64 ((t572.length : Int) + 1)) then (if 0 ≤ (wrap64 ((bt595.1.length : Int) - 1)) then (if (wrap64 ((bt595.1.length : Int) - 1)) < (bt595.1.length : Int) then (if (rd bt595.1 (wrap64 ((bt595.1.length : Int) - 1))) = x19_2 then (if x17_2.length < 5864062014805 then (mummerlaw04_DataRound.l0 k2 l0 ji28 t564 t572 t579 t583 (x17_2 ++ [t587]) (wrap64 (x18_2 + (t587.length : Int))) (wrap64 (x19_2 + 1))) else (none)) else (none)) else (none)) else (none)) else (none)) else (none)) else (none)) else (none)) else (none)))) = some r := H
                                          have A45 := Aside0.mk A450
                                          clear A450
                                          replace H := Option.bind_eq_some_iff.mp H
                                          obtain ⟨⟨t592, t593⟩, A460, H⟩ := H
                                          replace H : ((data_Path.f l0 (rd t579 x19_2)).bind fun bt595 => (if t588 = 0 then (if t593 = 0 then (if bt595.2 = 0 then (if t592 = ji28 then (if (bt595.1.length : Int) = (wrap64 ((t572.length : Int) + 1)) then (if 0 ≤ (wrap64 ((bt595.1.length : Int) - 1)) then (if (wrap64 ((bt595.1.length : Int) - 1)) < (bt595.1.length : Int) then (if (rd bt595.1 (wrap64 ((bt595.1.length : Int) - 1))) = x19_2 then (if x17_2.length < 5864062014805 then (mummerlaw04_DataRound.l0 k2 l0 ji28 t564 t572 t579 t583 (x17_2 ++ [t587]) (wrap64 (x18_2 + (t587.length : Int))) (wrap64 (x19_2 + 1))) else (none)) else (none)) else (none)) else (none)) else (none)) else (none)) else (none)) else (none)) else (none))) = some r := H
                                          have A46 := Aside0.mk A460
                                          clear A460
                                          replace H := Option.bind_eq_some_iff.mp H
                                          obtain ⟨⟨t595, t596⟩, A470, H⟩ := H
                                          replace H : (if t588 = 0 then (if t593 = 0 then (if t596 = 0 then (if t592 = ji28 then (if (t595.length : Int) = (wrap64 ((t572.length : Int) + 1)) then (if 0 ≤ (wrap64 ((t595.length : Int) - 1)) then (if (wrap64 ((t595.length : Int) - 1)) < (t595.length : Int) then (if (rd t595 (wrap64 ((t595.length : Int) - 1))) = x19_2 then (if x17_2.length < 5864062014805 then (mummerlaw04_DataRound.l0 k2 l0 ji28 t564 t572 t579 t583 (x17_2 ++ [t587]) (wrap64 (x18_2 + (t587.length : Int))) (wrap64 (x19_2 + 1))) else (none)) else (none)) else (none)) else (none)) else (none)) else (none)) else (none)) else (none)) else (none)) = some r := H
                                          have A47 := Aside0.mk A470
                                          clear A470
                                          by_cases c48 : t588 = 0
                                          · rw [if_pos c48] at H
                                            have c48b0 : (t588 == 0) = true := beq_iff_eq.mpr c48
                                            have c48b1 : (t588 != 0) = false := bne_eq_false_iff_eq.mpr c48
                                            clear c48
                                            by_cases c49 : t593 = 0
                                            · rw [if_pos c49] at H
                                              have c49b0 : (t593 == 0) = true := beq_iff_eq.mpr c49
                                              have c49b1 : (t593 != 0) = false := bne_eq_false_iff_eq.mpr c49
                                              clear c49
                                              by_cases c50 : t596 = 0
                                              · rw [if_pos c50] at H
                                                have c50b0 : (t596 == 0) = true := beq_iff_eq.mpr c50
                                                have c50b1 : (t596 != 0) = false := bne_eq_false_iff_eq.mpr c50
                                                clear c50
                                                by_cases c51 : t592 = ji28
                                                · rw [if_pos c51] at H
                                                  have c51b0 : (t592 == ji28) = true := beq_iff_eq.mpr c51
                                                  have c51b1 : (t592 != ji28) = false := bne_eq_false_iff_eq.mpr c51
                                                  clear c51
                                                  by_cases c52 : (t595.length : Int) = (wrap64 ((t572.length : Int) + 1))
                                                  · rw [if_pos c52] at H
                                                    have c52b0 : ((t595.length : Int) == (wrap64 ((t572.length : Int) + 1))) = true := beq_iff_eq.mpr c52
                                                    have c52b1 : ((t595.length : Int) != (wrap64 ((t572.length : Int) + 1))) = false := bne_eq_false_iff_eq.mpr c52
                                                    clear c52
                                                    obtain ⟨ji53, hji53⟩ : ∃ j_ : Int, (wrap64 ((t595.length : Int) - 1)) = j_ := ⟨_, rfl⟩
                                                    replace H : (if 0 ≤ (ji53) then (if (ji53) < (t595.length : Int) then (if (rd t595 (ji53)) = x19_2 then (if x17_2.length < 5864062014805 then (mummerlaw04_DataRound.l0 k2 l0 ji28 t564 t572 t579 t583 (x17_2 ++ [t587]) (wrap64 (x18_2 + (t587.length : Int))) (wrap64 (x19_2 + 1))) else (none)) else (none)) else (none)) else (none)) = some r := by first | (rw [hji53] at H; exact H) | (simp only [hji53] at H ⊢; exact H)
                                                    (try rw [hji53] at A45)
                                                    (try rw [hji53] at A46)
                                                    (try rw [hji53] at A47)
                                                    have hji53w : (IntKind.i64.wrap ((t595.length : Int) - 1)) = ji53 := (i64_w _).trans hji53
                                                    by_cases c54 : 0 ≤ (ji53)
                                                    · rw [if_pos c54] at H
                                                      have c54b0 : decide (0 ≤ (ji53)) = true := decide_eq_true c54
                                                      clear c54
                                                      by_cases c55 : (ji53) < (t595.length : Int)
                                                      · rw [if_pos c55] at H
                                                        have c55b0 : decide ((ji53) < (t595.length : Int)) = true := decide_eq_true c55
                                                        clear c55
                                                        by_cases c56 : (rd t595 (ji53)) = x19_2
                                                        · rw [if_pos c56] at H
                                                          have c56b0 : ((rd t595 (ji53)) == x19_2) = true := beq_iff_eq.mpr c56
                                                          have c56b1 : ((rd t595 (ji53)) != x19_2) = false := bne_eq_false_iff_eq.mpr c56
                                                          clear c56
                                                          by_cases c57 : x17_2.length < 5864062014805
                                                          · rw [if_pos c57] at H
                                                            have LMc57 := Aside0.mk c57
                                                            clear c57
                                                            obtain ⟨y600, hy600⟩ : ∃ y_ : List (List (S51)), y_ = (x17_2 ++ [t587]) := ⟨_, rfl⟩
                                                            replace H : (mummerlaw04_DataRound.l0 k2 l0 ji28 t564 t572 t579 t583 y600 (wrap64 (x18_2 + (t587.length : Int))) (wrap64 (x19_2 + 1))) = some r := by first | (rw [hy600]; with_reducible exact H) | (have H2_ := (Option.bind_some _ _).symm.trans H; rw [hy600]; with_reducible exact H2_) | (have H2_ := (Option.bind_some _ _).symm.trans H; with_reducible exact H2_) | with_reducible exact H | (rw [hy600]; exact H) | exact H
                                                            have Ny600 := Aside0.mk hy600
                                                            clear hy600
                                                            have H' := Aside0.mk H
                                                            clear H
                                                            have p586 : 0 ≤ (x19_2 : Int) := of_decide_eq_true (by first | (with_reducible assumption) | assumption)
                                                            have q586 : x19_2 < (t579.length : Int) := of_decide_eq_true (by first | (with_reducible assumption) | assumption)
                                                            obtain ⟨ad586, e586, hx586_0⟩ := Kd.at_int (Kd.R_reads' HO_15.out).2.2 x19_2 p586 q586
                                                            cases e586
                                                            replace p586 := eq_true p586
                                                            replace q586 := eq_true q586
                                                            go_wp2_with (first | ((with_reducible refine gate_callee (f := 22) rfl ?_); refine goesL_ (some 145) rfl rfl Tryd.func22 (by kernel_rfl) rfl #[.slice (some ad585) l0.length c0, .int .i64 (rd t579 x19_2)] rfl (by (try simp only [List.map_toArray, List.map_cons, List.map_nil]); first | done | rfl | (simp only [List.length_drop, List.length_take]; rfl)) ?_; (with_reducible refine (data_Sub.calls k2 _ _ l0 (rd t579 x19_2) t587 t588 _ ?side1 ?side2 ?side3 A45.out).mono ?_); (case side1 => repeat (first | exact (Kd.C_below HR0.out HB.out) | (with_reducible refine Kd.C_alloc ?_ _) | (with_reducible refine Kd.C_drewN ?_ _) | (with_reducible refine Kd.C_drew ?_))); (case side2 => exact HC0.out); (case side3 => exact G0_keep HGl.out (by repeat (first | (with_reducible first | exact HB.out | apply below_alloc | apply pw_below_drewN | apply below_drew1) | exact HB.out))); rintro e w58 ⟨v589, rfl, ho0, hb⟩; refine ⟨_, rfl, ?_⟩; have n0_ := Aside0.mk (Kd.R_elder' (by (with_reducible repeat (first | apply Kd.R_alloc | apply Kd.R_drewN | apply Kd.R_drew)); exact HO_8.out) (Kd.R_base ho0) hb); have n1_ := Aside0.mk (Kd.R_below (by (with_reducible repeat (first | apply Kd.R_alloc | apply Kd.R_drewN | apply Kd.R_drew)); exact HO_11.out) hb); have n2_ := Aside0.mk (Kd.R_below (by (with_reducible repeat (first | apply Kd.R_alloc | apply Kd.R_drewN | apply Kd.R_drew)); exact HO_15.out) hb); have n3_ := Aside0.mk (Kd.S_elder' (by (with_reducible repeat (first | apply Kd.S_alloc | apply Kd.S_drewN | apply Kd.S_drew)); exact HO_17.out) (Kd.R_base ho0) hb); have n4_ := Aside0.mk (Kd.R_lower (Kd.R_new' ho0 (Kd.R_lt (by (with_reducible repeat (first | apply Kd.R_alloc | apply Kd.R_drewN | apply Kd.R_drew)); exact HO_8.out))) (below_size (by repeat (first | (with_reducible first | exact HB.out | apply below_alloc | apply pw_below_drewN | apply below_drew1) | exact HB.out)))); have n5_ := Aside0.mk (below_step (by repeat (first | (with_reducible first | exact HB.out | apply below_alloc | apply pw_below_drewN | apply below_drew1) | exact HB.out)) hb); clear HO_8; clear HO_11; clear HO_15; clear HO_17; clear HB; have HO_8 := n0_; have HO_11 := n1_; have HO_15 := n2_; have HO_17 := n3_; have HO590 := n4_; have HB := n5_; clear n0_ n1_ n2_ n3_ n4_ n5_; (try clear hb); (try clear hb2); (try clear hk); (try clear hi); (try clear ho0); have p591 : 0 ≤ (x19_2 : Int) := of_decide_eq_true (by first | (with_reducible assumption) | assumption); have q591 : x19_2 < (t579.length : Int) := of_decide_eq_true (by first | (with_reducible assumption) | assumption); obtain ⟨ad591, e591, hx591_0⟩ := Kd.at_int (Kd.R_reads' HO_15.out).2.2 x19_2 p591 q591; obtain rfl : ad586 = ad591 := (by injection e591); replace p591 := eq_true p591; replace q591 := eq_true q591) | ((with_reducible refine gate_callee (f := 33) rfl ?_); refine goesL_ (some 154) rfl rfl Tryd.func33 (by kernel_rfl) rfl #[.slice (some ad585) l0.length c0, .int .i64 (rd t579 x19_2)] rfl (by (try simp only [List.map_toArray, List.map_cons, List.map_nil]); first | done | rfl | (simp only [List.length_drop, List.length_take]; rfl)) ?_; (with_reducible refine (data_Parent.calls k2 _ _ l0 (rd t579 x19_2) t592 t593 _ ?side1 ?side2 ?side3 A46.out).mono ?_); (case side1 => repeat (first | exact (Kd.C_below HR0.out HB.out) | (with_reducible refine Kd.C_alloc ?_ _) | (with_reducible refine Kd.C_drewN ?_ _) | (with_reducible refine Kd.C_drew ?_))); (case side2 => exact HC0.out); (case side3 => exact G0_keep HGl.out (by repeat (first | (with_reducible first | exact HB.out | apply below_alloc | apply pw_below_drewN | apply below_drew1) | exact HB.out))); rintro e w59 ⟨rfl, hb⟩; refine ⟨_, rfl, ?_⟩; have n0_ := Aside0.mk (Kd.R_below (by (with_reducible repeat (first | apply Kd.R_alloc | apply Kd.R_drewN | apply Kd.R_drew)); exact HO_8.out) hb); have n1_ := Aside0.mk (Kd.R_below (by (with_reducible repeat (first | apply Kd.R_alloc | apply Kd.R_drewN | apply Kd.R_drew)); exact HO_11.out) hb); have n2_ := Aside0.mk (Kd.R_below (by (with_reducible repeat (first | apply Kd.R_alloc | apply Kd.R_drewN | apply Kd.R_drew)); exact HO_15.out) hb); have n3_ := Aside0.mk (Kd.S_below (by (with_reducible repeat (first | apply Kd.S_alloc | apply Kd.S_drewN | apply Kd.S_drew)); exact HO_17.out) hb); have n4_ := Aside0.mk (Kd.R_below (by (with_reducible repeat (first | apply Kd.R_alloc | apply Kd.R_drewN | apply Kd.R_drew)); exact HO590.out) hb); have n5_ := Aside0.mk (below_step (by repeat (first | (with_reducible first | exact HB.out | apply below_alloc | apply pw_below_drewN | apply below_drew1) | exact HB.out)) hb); clear HO_8; clear HO_11; clear HO_15; clear HO_17; clear HO590; clear HB; have HO_8 := n0_; have HO_11 := n1_; have HO_15 := n2_; have HO_17 := n3_; have HO590 := n4_; have HB := n5_; clear n0_ n1_ n2_ n3_ n4_ n5_; (try clear hb); (try clear hb2); (try clear hk); (try clear hi); have p594 : 0 ≤ (x19_2 : Int) := of_decide_eq_true (by first | (with_reducible assumption) | assumption); have q594 : x19_2 < (t579.length : Int) := of_decide_eq_true (by first | (with_reducible assumption) | assumption); obtain ⟨ad594, e594, hx594_0⟩ := Kd.at_int (Kd.R_reads' HO_15.out).2.2 x19_2 p594 q594; obtain rfl : ad586 = ad594 := (by injection e594); replace p594 := eq_true p594; replace q594 := eq_true q594) | ((with_reducible refine gate_callee (f := 37) rfl ?_); refine goesL_ (some 163) rfl rfl Tryd.func37 (by kernel_rfl) rfl #[.slice (some ad585) l0.length c0, .int .i64 (rd t579 x19_2)] rfl (by (try simp only [List.map_toArray, List.map_cons, List.map_nil]); first | done | rfl | (simp only [List.length_drop, List.length_take]; rfl)) ?_; (with_reducible refine (data_Path.calls _ _ l0 (rd t579 x19_2) t595 t596 _ ?side1 ?side2 ?side3 A47.out).mono ?_); (case side1 => repeat (first | exact (Kd.C_below HR0.out HB.out) | (with_reducible refine Kd.C_alloc ?_ _) | (with_reducible refine Kd.C_drewN ?_ _) | (with_reducible refine Kd.C_drew ?_))); (case side2 => exact HC0.out); (case side3 => exact G0_keep HGl.out (by repeat (first | (with_reducible first | exact HB.out | apply below_alloc | apply pw_below_drewN | apply below_drew1) | exact HB.out))); rintro e w60 ⟨v597, rfl, ho0, hb⟩; refine ⟨_, rfl, ?_⟩; have n0_ := Aside0.mk (Kd.R_below (by (with_reducible repeat (first | apply Kd.R_alloc | apply Kd.R_drewN | apply Kd.R_drew)); exact HO_8.out) hb); have n1_ := Aside0.mk (Kd.R_elder' (by (with_reducible repeat (first | apply Kd.R_alloc | apply Kd.R_drewN | apply Kd.R_drew)); exact HO_11.out) (Kd.R_base ho0) hb); have n2_ := Aside0.mk (Kd.R_elder' (by (with_reducible repeat (first | apply Kd.R_alloc | apply Kd.R_drewN | apply Kd.R_drew)); exact HO_15.out) (Kd.R_base ho0) hb); have n3_ := Aside0.mk (Kd.S_below (by (with_reducible repeat (first | apply Kd.S_alloc | apply Kd.S_drewN | apply Kd.S_drew)); exact HO_17.out) hb); have n4_ := Aside0.mk (Kd.R_below (by (with_reducible repeat (first | apply Kd.R_alloc | apply Kd.R_drewN | apply Kd.R_drew)); exact HO590.out) hb); have n5_ := Aside0.mk (Kd.R_lower (Kd.R_new' (Kd.R_new' ho0 (Kd.R_lt (by (with_reducible repeat (first | apply Kd.R_alloc | apply Kd.R_drewN | apply Kd.R_drew)); exact HO_11.out))) (Kd.R_lt (by (with_reducible repeat (first | apply Kd.R_alloc | apply Kd.R_drewN | apply Kd.R_drew)); exact HO_15.out))) (below_size (by repeat (first | (with_reducible first | exact HB.out | apply below_alloc | apply pw_below_drewN | apply below_drew1) | exact HB.out)))); have n6_ := Aside0.mk (below_step (by repeat (first | (with_reducible first | exact HB.out | apply below_alloc | apply pw_below_drewN | apply below_drew1) | exact HB.out)) hb); clear HO_8; clear HO_11; clear HO_15; clear HO_17; clear HO590; clear HB; have HO_8 := n0_; have HO_11 := n1_; have HO_15 := n2_; have HO_17 := n3_; have HO590 := n4_; have HO598 := n5_; have HB := n6_; clear n0_ n1_ n2_ n3_ n4_ n5_ n6_; (try clear hb); (try clear hb2); (try clear hk); (try clear hi); (try clear ho0); obtain ⟨Ao61, co61, eo61⟩ := Kd.R_slice HO598.out; subst eo61; have p599 : 0 ≤ ((ji53) : Int) := of_decide_eq_true (by first | (with_reducible assumption) | assumption); have q599 : (ji53) < (t595.length : Int) := of_decide_eq_true (by first | (with_reducible assumption) | assumption); obtain ⟨ad599, e599, hx599_0⟩ := Kd.at_int (Kd.R_reads' HO598.out).2.2 (ji53) p599 q599; cases e599; replace p599 := eq_true p599; replace q599 := eq_true q599; obtain ⟨Ao62, co62, eo62⟩ := Kd.R_slice HO590.out; subst eo62) | ((with_reducible refine gate_builtin (b := .append) (xs := #[.tmp 203, .tmp 205]) rfl ?_); (try (refine gate_guard (by rfl) ?_; dsimp only)); at_builtin; refine Kd.S_append (Kd.slice 51 k51) (w0 := w) w.heap.size rfl (.tmp 203) (.tmp 205) 42 22 (.slice none 0 0) 24 rfl Tryd.underlying42 info22 rfl (by decide) (by omega) u17 x17_2 t587 [.slice Ao62 t587.length co62] (fun k_ => some k_ ≠ (.slice Ao34 t564.length co34 : Value).ownBlock) (fun k_ => some k_ = (.slice Ao62 t587.length co62 : Value).ownBlock) rfl rfl ?aP (fun k_ hk_ => ((Kd.R_mono (ok' := fun k_ => ((fun k_ => some k_ ≠ (.slice Ao34 t564.length co34 : Value).ownBlock)) k_ ∧ some k_ ≠ (u17 : Value).ownBlock) (Kd.R_apart' (HO590.out) (Kd.S_typed HO_17.out) (by decide)) (fun k_ hk => ⟨hk.1.2, hk.2⟩))).1 k_ hk_.symm) ?aF ?aO ?aB ?aS ?aL ?_; (case aP => exact Kd.M_row (Kd.R_mono (Kd.R_tight rfl (Kd.R_mono (ok' := fun k_ => ((fun k_ => some k_ ≠ (.slice Ao34 t564.length co34 : Value).ownBlock)) k_ ∧ some k_ ≠ (u17 : Value).ownBlock) (Kd.R_apart' (HO590.out) (Kd.S_typed HO_17.out) (by decide)) (fun k_ hk => ⟨hk.1.2, hk.2⟩))) (fun _ h_ => h_))); (case aB => exact (by repeat (first | (with_reducible first | exact HB.out | apply below_alloc | apply pw_below_drewN | apply below_drew1) | exact HB.out))); (case aF => exact (fun k_ hk => Kd.fresh' (Kd.R_lt (by (with_reducible repeat (first | apply Kd.R_alloc | apply Kd.R_drewN | apply Kd.R_drew)); exact HO_8.out)) k_ hk)); (case aO => exact (by (with_reducible repeat (first | apply Kd.S_alloc | apply Kd.S_drewN | apply Kd.S_drew)); exact Kd.S_mono HO_17.out (fun k_ hk => ⟨hk.1, fun e_ => hk.2 e_⟩))); (case aS => exact (below_size (by repeat (first | (with_reducible first | exact HB.out | apply below_alloc | apply pw_below_drewN | apply below_drew1) | exact HB.out)))); (case aL => have := LMc57.out; omega); intro v601 w63 ho hb hg hat; rw [← Ny600.out] at ho; have n0_ := Aside0.mk (Kd.R_over' (by (with_reducible repeat (first | apply Kd.R_alloc | apply Kd.R_drewN | apply Kd.R_drew)); exact HO_8.out) (Kd.S_typed (by (with_reducible repeat (first | apply Kd.S_alloc | apply Kd.S_drewN | apply Kd.S_drew)); exact HO_17.out)) (by decide) hg); have n1_ := Aside0.mk (Kd.R_over' (by (with_reducible repeat (first | apply Kd.R_alloc | apply Kd.R_drewN | apply Kd.R_drew)); exact HO_11.out) (Kd.S_typed (by (with_reducible repeat (first | apply Kd.S_alloc | apply Kd.S_drewN | apply Kd.S_drew)); exact HO_17.out)) (by decide) hg); have n2_ := Aside0.mk (Kd.R_over' (by (with_reducible repeat (first | apply Kd.R_alloc | apply Kd.R_drewN | apply Kd.R_drew)); exact HO_15.out) (Kd.S_typed (by (with_reducible repeat (first | apply Kd.S_alloc | apply Kd.S_drewN | apply Kd.S_drew)); exact HO_17.out)) (by decide) hg); have n3_ := Aside0.mk (Kd.R_over' (by (with_reducible repeat (first | apply Kd.R_alloc | apply Kd.R_drewN | apply Kd.R_drew)); exact HO598.out) (Kd.S_typed (by (with_reducible repeat (first | apply Kd.S_alloc | apply Kd.S_drewN | apply Kd.S_drew)); exact HO_17.out)) (by decide) hg); have n4_ := Aside0.mk (hb); have n5_ := Aside0.mk (ho); clear HO_8; clear HO_11; clear HO_15; clear HO598; clear HB; clear HO_17; clear HO590; have HO_8 := n0_; have HO_11 := n1_; have HO_15 := n2_; have HO598 := n3_; have HB := n4_; have HO602 := n5_; clear n0_ n1_ n2_ n3_ n4_ n5_; clear ho hb hg hat))
                                                            go_roundg k2
                                                            case measure => have := HJ3.out; have := HK2.out; omega
                                                            case rel => exact ⟨(y600), (wrap64 (x18_2 + (t587.length : Int))), (wrap64 (x19_2 + 1)), (by first | rfl | (simp; done) | (simp [*]; done)), (by first | rfl | (simp; done) | (simp [*]; done)), H', ⟨by have := HJ3.out; have := HK2.out; omega⟩, ⟨by (with_reducible repeat (first | apply Kd.R_alloc | apply Kd.R_drewN | apply Kd.R_drew)); exact Kd.R_mono HO_8.out (fun _ hk => trivial)⟩, ⟨by (with_reducible repeat (first | apply Kd.R_alloc | apply Kd.R_drewN | apply Kd.R_drew)); exact Kd.R_mono HO_11.out (fun _ hk => hk.1)⟩, ⟨by (with_reducible repeat (first | apply Kd.R_alloc | apply Kd.R_drewN | apply Kd.R_drew)); exact Kd.R_mono HO_15.out (fun _ hk => hk.1)⟩, ⟨by (with_reducible repeat (first | apply Kd.S_alloc | apply Kd.S_drewN | apply Kd.S_drew)); exact HO602.out⟩, ⟨by repeat (first | (with_reducible first | exact HB.out | apply below_alloc | apply pw_below_drewN | apply below_drew1) | exact HB.out)⟩⟩
                                                          · rw [if_neg c57] at H
                                                            exact absurd H (by simp)
                                                        · rw [if_neg c56] at H
                                                          exact absurd H (by simp)
                                                      · rw [if_neg c55] at H
                                                        exact absurd H (by simp)
                                                    · rw [if_neg c54] at H
                                                      exact absurd H (by simp)
                                                  · rw [if_neg c52] at H
                                                    exact absurd H (by simp)
                                                · rw [if_neg c51] at H
                                                  exact absurd H (by simp)
                                              · rw [if_neg c50] at H
                                                exact absurd H (by simp)
                                            · rw [if_neg c49] at H
                                              exact absurd H (by simp)
                                          · rw [if_neg c48] at H
                                            exact absurd H (by simp)
                                        · rw [if_neg c44] at H
                                          exact absurd H (by simp)
                                      · rw [if_neg c43] at H
                                        have c43b0 : decide (x19_2 < (t579.length : Int)) = false := decide_eq_false c43
                                        clear c43
                                        by_cases c64 : x18_2 = t583
                                        · rw [if_pos c64] at H
                                          have c64b0 : (x18_2 == t583) = true := beq_iff_eq.mpr c64
                                          have c64b1 : (x18_2 != t583) = false := bne_eq_false_iff_eq.mpr c64
                                          clear c64
                                          by_cases c65 : 0 ≤ ji28
                                          · rw [if_pos c65] at H
                                            have c65b0 : decide (0 ≤ ji28) = true := decide_eq_true c65
                                            clear c65
                                            by_cases c66 : ji28 < (l0.length : Int)
                                            · rw [if_pos c66] at H
                                              have c66b0 : decide (ji28 < (l0.length : Int)) = true := decide_eq_true c66
                                              clear c66
                                              by_cases c67 : ((rd_T51 l0 ji28).f0) = 4
                                              · rw [if_pos c67] at H
                                                have c67b0 : (((rd_T51 l0 ji28).f0) == 4) = true := beq_iff_eq.mpr c67
                                                have c67b1 : (((rd_T51 l0 ji28).f0) != 4) = false := bne_eq_false_iff_eq.mpr c67
                                                clear c67
                                                replace H := Option.bind_eq_some_iff.mp H
                                                obtain ⟨⟨t604, t607⟩, A680, H⟩ := H
                                                replace H : (if t607 = 0 then ((mummerref04_Same.f k2 t604 t564).bind fun t608 => (if t608 = true then ((mummerlaw04_shown.f k2).bind fun t609 => (some t609)) else (none))) else (none)) = some r := H
                                                have A68 := Aside0.mk A680
                                                clear A680
                                                by_cases c69 : t607 = 0
                                                · rw [if_pos c69] at H
                                                  have c69b0 : (t607 == 0) = true := beq_iff_eq.mpr c69
                                                  have c69b1 : (t607 != 0) = false := bne_eq_false_iff_eq.mpr c69
                                                  clear c69
                                                  replace H := Option.bind_eq_some_iff.mp H
                                                  obtain ⟨t608, A700, H⟩ := H
                                                  replace H : (if t608 = true then ((mummerlaw04_shown.f k2).bind fun t609 => (some t609)) else (none)) = some r := H
                                                  have A70 := Aside0.mk A700
                                                  clear A700
                                                  by_cases c71 : t608 = true
                                                  · subst c71
                                                    have H1 : ((mummerlaw04_shown.f k2).bind fun t609 => (some t609)) = some r := by rw [if_pos rfl] at H; exact H
                                                    clear H
                                                    have H := H1
                                                    clear H1
                                                    replace H := Option.bind_eq_some_iff.mp H
                                                    obtain ⟨t609, A720, H⟩ := H
                                                    replace H : (some t609) = some r := H
                                                    have A72 := Aside0.mk A720
                                                    clear A720
                                                    obtain rfl := Option.some.inj H
                                                    have p603 : 0 ≤ (ji28 : Int) := of_decide_eq_true (by first | (with_reducible assumption) | assumption)
                                                    have q603 : ji28 < (l0.length : Int) := of_decide_eq_true (by first | (with_reducible assumption) | assumption)
                                                    obtain ⟨ad603, e603, hx603_0, hx603_1, hx603_2, hx603_3⟩ := at_T51 HR0.out ji28 p603 q603
                                                    obtain rfl : ad585 = ad603 := (by injection e603)
                                                    replace hx603_0 := (HB.out.cell (World.block_lt_of_cell? w _ hx603_0)).trans hx603_0
                                                    replace hx603_1 := (HB.out.cell (World.block_lt_of_cell? w _ hx603_1)).trans hx603_1
                                                    replace hx603_2 := (HB.out.cell (World.block_lt_of_cell? w _ hx603_2)).trans hx603_2
                                                    replace hx603_3 := (HB.out.cell (World.block_lt_of_cell? w _ hx603_3)).trans hx603_3
                                                    replace p603 := eq_true p603
                                                    replace q603 := eq_true q603
                                                    obtain ⟨Ao73, co73, eo73⟩ := Kd.S_slice HO_17.out
                                                    subst eo73
                                                    go_wp2_with (first | ((with_reducible refine gate_callee (f := 26) rfl ?_); refine goesL_ (some 219) rfl rfl Tryd.func26 (by kernel_rfl) rfl #[.slice Ao73 x17_2.length co73] rfl (by (try simp only [List.map_toArray, List.map_cons, List.map_nil]); first | done | rfl | (simp only [List.length_drop, List.length_take]; rfl)) ?_; (with_reducible refine (data_List.calls k2 _ _ x17_2 t604 t607 _ ?side1 ?side2 ?side3 A68.out).mono ?_); (case side1 => repeat (first | exact (Kd.S_reads' HO_17.out).2.2 | (with_reducible refine Kd.C_alloc ?_ _) | (with_reducible refine Kd.C_drewN ?_ _) | (with_reducible refine Kd.C_drew ?_))); (case side2 => exact (Kd.S_reads' HO_17.out).2.1); (case side3 => exact G0_keep HGl.out (by repeat (first | (with_reducible first | exact HB.out | apply below_alloc | apply pw_below_drewN | apply below_drew1) | exact HB.out))); rintro e w74 ⟨v605, rfl, ho0, hb⟩; refine ⟨_, rfl, ?_⟩; have n0_ := Aside0.mk (Kd.R_below (by (with_reducible repeat (first | apply Kd.R_alloc | apply Kd.R_drewN | apply Kd.R_drew)); exact HO_8.out) hb); have n1_ := Aside0.mk (Kd.R_below (by (with_reducible repeat (first | apply Kd.R_alloc | apply Kd.R_drewN | apply Kd.R_drew)); exact HO_11.out) hb); have n2_ := Aside0.mk (Kd.R_below (by (with_reducible repeat (first | apply Kd.R_alloc | apply Kd.R_drewN | apply Kd.R_drew)); exact HO_15.out) hb); have n3_ := Aside0.mk (Kd.S_below (by (with_reducible repeat (first | apply Kd.S_alloc | apply Kd.S_drewN | apply Kd.S_drew)); exact HO_17.out) hb); have n4_ := Aside0.mk (Kd.V_lower (Kd.V_mono (ok' := fun k_ => some k_ ≠ (.slice Ao34 t564.length co34 : Value).ownBlock ∧ some k_ ≠ (.slice Ao37 t572.length co37 : Value).ownBlock ∧ some k_ ≠ (.slice Ao42 t579.length co42 : Value).ownBlock ∧ some k_ ≠ (.slice Ao73 x17_2.length co73 : Value).ownBlock) ho0 (fun k_ hk_ => ⟨(Kd.fresh' (Kd.R_lt (by (with_reducible repeat (first | apply Kd.R_alloc | apply Kd.R_drewN | apply Kd.R_drew)); exact HO_8.out)) k_ hk_), (Kd.fresh' (Kd.R_lt (by (with_reducible repeat (first | apply Kd.R_alloc | apply Kd.R_drewN | apply Kd.R_drew)); exact HO_11.out)) k_ hk_), (Kd.fresh' (Kd.R_lt (by (with_reducible repeat (first | apply Kd.R_alloc | apply Kd.R_drewN | apply Kd.R_drew)); exact HO_15.out)) k_ hk_), (Kd.fresh' (Kd.S_lt (by (with_reducible repeat (first | apply Kd.S_alloc | apply Kd.S_drewN | apply Kd.S_drew)); exact HO_17.out)) k_ hk_)⟩)) (below_size (by repeat (first | (with_reducible first | exact HB.out | apply below_alloc | apply pw_below_drewN | apply below_drew1) | exact HB.out)))); have n5_ := Aside0.mk (below_step (by repeat (first | (with_reducible first | exact HB.out | apply below_alloc | apply pw_below_drewN | apply below_drew1) | exact HB.out)) hb); clear HO_8; clear HO_11; clear HO_15; clear HO_17; clear HB; have HO_8 := n0_; have HO_11 := n1_; have HO_15 := n2_; have HO_17 := n3_; have HO606 := n4_; have HB := n5_; clear n0_ n1_ n2_ n3_ n4_ n5_; (try clear hb); (try clear hb2); (try clear hk); (try clear hi); (try clear ho0); obtain ⟨Ao75, co75, eo75⟩ := Kd.V_slice HO606.out; subst eo75) | (go_at_call 24; (with_reducible refine (mummerref04_Same.calls k2 _ _ t604 _ _ t564 true _ ?side1 ?side2 ?side3 ?side4 A70.out).mono ?_); (case side1 => repeat (first | exact (Kd.V_reads' HO606.out).2.2 | (with_reducible refine Kd.C_alloc ?_ _) | (with_reducible refine Kd.C_drewN ?_ _) | (with_reducible refine Kd.C_drew ?_))); (case side2 => exact (Kd.V_reads' HO606.out).2.1); (case side3 => repeat (first | exact (Kd.R_reads' HO_8.out).2.2 | (with_reducible refine Kd.C_alloc ?_ _) | (with_reducible refine Kd.C_drewN ?_ _) | (with_reducible refine Kd.C_drew ?_))); (case side4 => exact (Kd.R_reads' HO_8.out).2.1); rintro e w' ⟨rfl, ⟨nd, rfl⟩⟩) | (go_at_call 13; (with_reducible refine (mummerlaw04_shown.calls k2  t609 _ ?side1 A72.out).mono ?_); (case side1 => exact G0_keep HGl.out (by repeat (first | (with_reducible first | exact HB.out | apply below_alloc | apply pw_below_drewN | apply below_drew1) | exact HB.out))); rintro e w76 ⟨rfl, hb⟩; have n0_ := Aside0.mk (Kd.R_below (by (with_reducible repeat (first | apply Kd.R_alloc | apply Kd.R_drewN | apply Kd.R_drew)); exact HO_8.out) hb); have n1_ := Aside0.mk (Kd.R_below (by (with_reducible repeat (first | apply Kd.R_alloc | apply Kd.R_drewN | apply Kd.R_drew)); exact HO_11.out) hb); have n2_ := Aside0.mk (Kd.R_below (by (with_reducible repeat (first | apply Kd.R_alloc | apply Kd.R_drewN | apply Kd.R_drew)); exact HO_15.out) hb); have n3_ := Aside0.mk (Kd.S_below (by (with_reducible repeat (first | apply Kd.S_alloc | apply Kd.S_drewN | apply Kd.S_drew)); exact HO_17.out) hb); have n4_ := Aside0.mk (Kd.V_below (by (with_reducible repeat (first | apply Kd.V_alloc | apply Kd.V_drewN | apply Kd.V_drew)); exact HO606.out) hb); have n5_ := Aside0.mk (below_step (by repeat (first | (with_reducible first | exact HB.out | apply below_alloc | apply pw_below_drewN | apply below_drew1) | exact HB.out)) hb); clear HO_8; clear HO_11; clear HO_15; clear HO_17; clear HO606; clear HB; have HO_8 := n0_; have HO_11 := n1_; have HO_15 := n2_; have HO_17 := n3_; have HO606 := n4_; have HB := n5_; clear n0_ n1_ n2_ n3_ n4_ n5_; (try clear hb); (try clear hb2); (try clear hk); (try clear hi)))
                                                    go_ret
                                                    exact ⟨by first | rfl | (simp [errW_none, errW_some] <;> rfl) | (simp only [← hji28]; first | rfl | (simp [errW_none, errW_some] <;> rfl)) | (simp [*, errW_none, errW_some] <;> rfl), by repeat (first | (with_reducible first | exact HB.out | apply below_alloc | apply pw_below_drewN | apply below_drew1) | exact HB.out)⟩
                                                  · replace c71 := Bool.eq_false_iff.mpr c71
                                                    subst c71
                                                    have H1 : (none) = some r := by rw [if_neg (show ¬ (false = true) by decide)] at H; exact H
                                                    clear H
                                                    have H := H1
                                                    clear H1
                                                    exact absurd H (by simp)
                                                · rw [if_neg c69] at H
                                                  exact absurd H (by simp)
                                              · rw [if_neg c67] at H
                                                have c67b0 : (((rd_T51 l0 ji28).f0) == 4) = false := beq_eq_false_iff_ne.mpr c67
                                                have c67b1 : (((rd_T51 l0 ji28).f0) != 4) = true := bne_iff_ne.mpr c67
                                                replace H := Option.bind_eq_some_iff.mp H
                                                obtain ⟨t610, A770, H⟩ := H
                                                replace H : (some t610) = some r := H
                                                have A77 := Aside0.mk A770
                                                clear A770
                                                obtain rfl := Option.some.inj H
                                                have p603 : 0 ≤ (ji28 : Int) := of_decide_eq_true (by first | (with_reducible assumption) | assumption)
                                                have q603 : ji28 < (l0.length : Int) := of_decide_eq_true (by first | (with_reducible assumption) | assumption)
                                                obtain ⟨ad603, e603, hx603_0, hx603_1, hx603_2, hx603_3⟩ := at_T51 HR0.out ji28 p603 q603
                                                obtain rfl : ad585 = ad603 := (by injection e603)
                                                replace hx603_0 := (HB.out.cell (World.block_lt_of_cell? w _ hx603_0)).trans hx603_0
                                                replace hx603_1 := (HB.out.cell (World.block_lt_of_cell? w _ hx603_1)).trans hx603_1
                                                replace hx603_2 := (HB.out.cell (World.block_lt_of_cell? w _ hx603_2)).trans hx603_2
                                                replace hx603_3 := (HB.out.cell (World.block_lt_of_cell? w _ hx603_3)).trans hx603_3
                                                replace p603 := eq_true p603
                                                replace q603 := eq_true q603
                                                go_wp2_with (first | ((with_reducible refine gate_callee (f := 13) rfl ?_); refine goesL_ (some 216) rfl rfl Tryd.func13 (by kernel_rfl) rfl #[] rfl (by (try simp only [List.map_toArray, List.map_cons, List.map_nil]); first | done | rfl | (simp only [List.length_drop, List.length_take]; rfl)) ?_; (with_reducible refine (mummerlaw04_shown.calls k2  t610 _ ?side1 A77.out).mono ?_); (case side1 => exact G0_keep HGl.out (by repeat (first | (with_reducible first | exact HB.out | apply below_alloc | apply pw_below_drewN | apply below_drew1) | exact HB.out))); rintro e w78 ⟨rfl, hb⟩; refine ⟨_, rfl, ?_⟩; have n0_ := Aside0.mk (Kd.R_below (by (with_reducible repeat (first | apply Kd.R_alloc | apply Kd.R_drewN | apply Kd.R_drew)); exact HO_8.out) hb); have n1_ := Aside0.mk (Kd.R_below (by (with_reducible repeat (first | apply Kd.R_alloc | apply Kd.R_drewN | apply Kd.R_drew)); exact HO_11.out) hb); have n2_ := Aside0.mk (Kd.R_below (by (with_reducible repeat (first | apply Kd.R_alloc | apply Kd.R_drewN | apply Kd.R_drew)); exact HO_15.out) hb); have n3_ := Aside0.mk (Kd.S_below (by (with_reducible repeat (first | apply Kd.S_alloc | apply Kd.S_drewN | apply Kd.S_drew)); exact HO_17.out) hb); have n4_ := Aside0.mk (below_step (by repeat (first | (with_reducible first | exact HB.out | apply below_alloc | apply pw_below_drewN | apply below_drew1) | exact HB.out)) hb); clear HO_8; clear HO_11; clear HO_15; clear HO_17; clear HB; have HO_8 := n0_; have HO_11 := n1_; have HO_15 := n2_; have HO_17 := n3_; have HB := n4_; clear n0_ n1_ n2_ n3_ n4_; (try clear hb); (try clear hb2); (try clear hk); (try clear hi)))
                                                go_ret
                                                exact ⟨by first | rfl | (simp [errW_none, errW_some] <;> rfl) | (simp only [← hji28]; first | rfl | (simp [errW_none, errW_some] <;> rfl)) | (simp [*, errW_none, errW_some] <;> rfl), by repeat (first | (with_reducible first | exact HB.out | apply below_alloc | apply pw_below_drewN | apply below_drew1) | exact HB.out)⟩
                                            · rw [if_neg c66] at H
                                              exact absurd H (by simp)
                                          · rw [if_neg c65] at H
                                            exact absurd H (by simp)
                                        · rw [if_neg c64] at H
                                          exact absurd H (by simp)
                                · rw [if_neg c32] at H
                                  exact absurd H (by simp)
                              · rw [if_neg c31] at H
                                exact absurd H (by simp)
                            · rw [if_neg c30] at H
                              exact absurd H (by simp)
                          · rw [if_neg c29] at H
                            exact absurd H (by simp)
                        · rw [if_neg c27] at H
                          exact absurd H (by simp)
                      · rw [if_neg c26] at H
                        exact absurd H (by simp)
                    · rw [if_neg c23] at H
                      exact absurd H (by simp)
                  · replace c22 := Bool.eq_false_iff.mpr c22
                    subst c22
                    have H1 : (none) = some r := by rw [if_neg (show ¬ (false = true) by decide)] at H; exact H
                    clear H
                    have H := H1
                    clear H1
                    exact absurd H (by simp)
                · rw [if_neg c20] at H
                  exact absurd H (by simp)
              · rw [if_neg c19] at H
                exact absurd H (by simp)
            · rw [if_neg c18] at H
              exact absurd H (by simp)
          · rw [if_neg c17] at H
            exact absurd H (by simp)
end Go.Proofs.YtgmiekggdgmhkaaDoor.Q
end
