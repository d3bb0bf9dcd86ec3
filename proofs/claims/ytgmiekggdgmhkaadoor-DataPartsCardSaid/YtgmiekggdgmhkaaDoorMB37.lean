import Derived.Test.YtgmiekggdgmhkaaDoorMB17
import Derived.Test.YtgmiekggdgmhkaaDoorMB22
import Derived.Test.YtgmiekggdgmhkaaDoorMB23
import Derived.Test.YtgmiekggdgmhkaaDoorMB30
import Derived.Test.YtgmiekggdgmhkaaDoorMB33
import Derived.Test.YtgmiekggdgmhkaaDoorMB36
import Derived.Test.YtgmiekggdgmhkaaDoorMB5
import Derived.Test.YtgmiekggdgmhkaaDoorMB7
section
-- a print of this session's own (hook.py)
namespace Go.Proofs.YtgmiekggdgmhkaaDoor.Q
open Go.RowKit Go.Proofs.YtgmiekggdgmhkaaDoorW.PrintWords Go.Proofs.YtgmiekggdgmhkaaDoorW.PrintLast Go.Proofs.YtgmiekggdgmhkaaDoorW.PrintMore
attribute [local go_sem] max2_int min2_int max_two min_two max_three min_three max_four min_four   -- for this text's walks alone
set_option linter.unusedVariables false
set_option linter.unusedSimpArgs false
/-! ### mummerlaw04_DataParts: function 6 -/
mutual
def mummerlaw04_DataParts.l0 : Nat → List (S51) → Int → List (List (S51)) → Int → Int → Option (Bool)
  | 0, _, _, _, _, _ => none
  | k + 1, x0, x1, x2, x7, x8 => if x8 < (x2.length : Int) then (mummerlaw04_DataParts.j1 k x0 x1 x2 x7 x8 (decide (x8 < 100))) else (mummerlaw04_DataParts.j1 k x0 x1 x2 x7 x8 false)
def mummerlaw04_DataParts.j1 : Nat → List (S51) → Int → List (List (S51)) → Int → Int → Bool → Option (Bool)
  | 0, _, _, _, _, _, _ => none
  | k + 1, x0, x1, x2, x7, x8, x26 => if x26 = true then (if 0 ≤ x8 then (if x8 < (x2.length : Int) then ((mummerlaw04_Far.f k (rd_L3 x2 x8)).bind fun t379 => (if t379 = true then ((mummerlaw04_shown.f k).bind fun t380 => (some t380)) else (mummerlaw04_DataParts.l0 k x0 x1 x2 (wrap64 (x7 + ((rd_L3 x2 x8).length : Int))) (wrap64 (x8 + 1))))) else (none)) else (none)) else ((mummerlaw04_Far.f k x0).bind fun t381 => (if t381 = true then (mummerlaw04_DataParts.j2 k x0 x1 x2 true) else (if (x2.length : Int) > 60 then (mummerlaw04_DataParts.j2 k x0 x1 x2 true) else (mummerlaw04_DataParts.j2 k x0 x1 x2 (decide (x7 > 500))))))
def mummerlaw04_DataParts.j2 : Nat → List (S51) → Int → List (List (S51)) → Bool → Option (Bool)
  | 0, _, _, _, _ => none
  | k + 1, x0, x1, x2, x52 => if x52 = true then ((mummerlaw04_shown.f k).bind fun t382 => (some t382)) else ((data_Sub.f k x0 x1).bind fun bt383 => ((mummerref04_Sub.f k x0 x1).bind fun bt387 => ((data_List.f k x2).bind fun bt391 => ((mummerref04_List.f k x2).bind fun bt395 => ((mummerref04_Same.f k bt383.1 bt387.1).bind fun t399 => (if t399 = true then (if bt383.2 = bt387.2 then ((mummerref04_Same.f k bt391.1 bt395.1).bind fun t400 => (if t400 = true then (mummerlaw04_DataParts.j3 k x0 x1 x2 (bt391.2 != bt395.2)) else (mummerlaw04_DataParts.j3 k x0 x1 x2 true))) else (mummerlaw04_DataParts.j3 k x0 x1 x2 true)) else (mummerlaw04_DataParts.j3 k x0 x1 x2 true)))))))
def mummerlaw04_DataParts.j3 : Nat → List (S51) → Int → List (List (S51)) → Bool → Option (Bool)
  | 0, _, _, _, _ => none
  | k + 1, x0, x1, x2, x95 => if x95 = true then (none) else (if (x2.length : Int) > 0 then (if 0 < (x2.length : Int) then ((some (([] : List (S51)) : List (S51))).bind fun y402 => (if y402.length + x0.length < 3518437208883 then ((data_Put.f x0 x1 (rd_L3 x2 0)).bind fun bt408 => ((mummerref04_Put.f k x0 x1 (rd_L3 x2 0)).bind fun bt412 => ((mummerref04_Same.f k bt408.1 bt412.1).bind fun t416 => (if t416 = true then (if bt408.2 = bt412.2 then ((mummerref04_Same.f k x0 (y402 ++ x0)).bind fun t417 => (if t417 = true then ((mummerlaw04_shown.f k).bind fun t418 => (some t418)) else (none))) else (none)) else (none))))) else (none))) else (none)) else ((some (([] : List (S51)) : List (S51))).bind fun y419 => (if y419.length + x0.length < 3518437208883 then ((data_Put.f x0 x1 ([] : List (S51))).bind fun bt425 => ((mummerref04_Put.f k x0 x1 ([] : List (S51))).bind fun bt429 => ((mummerref04_Same.f k bt425.1 bt429.1).bind fun t433 => (if t433 = true then (if bt425.2 = bt429.2 then ((mummerref04_Same.f k x0 (y419 ++ x0)).bind fun t434 => (if t434 = true then ((mummerlaw04_shown.f k).bind fun t435 => (some t435)) else (none))) else (none)) else (none))))) else (none))))
end
def mummerlaw04_DataParts.f (k : Nat) (l0 : List (S51)) (a1 : Int) (l2 : List (List (S51))) : Option (Bool) := mummerlaw04_DataParts.l0 k l0 a1 l2 0 0
theorem mummerlaw04_DataParts.mono_l : ∀ k, (∀ y0 y1 y2 y3 y4, LeO (mummerlaw04_DataParts.l0 k y0 y1 y2 y3 y4) (mummerlaw04_DataParts.l0 (k + 1) y0 y1 y2 y3 y4)) ∧ (∀ y0 y1 y2 y3 y4 y5, LeO (mummerlaw04_DataParts.j1 k y0 y1 y2 y3 y4 y5) (mummerlaw04_DataParts.j1 (k + 1) y0 y1 y2 y3 y4 y5)) ∧ (∀ y0 y1 y2 y3, LeO (mummerlaw04_DataParts.j2 k y0 y1 y2 y3) (mummerlaw04_DataParts.j2 (k + 1) y0 y1 y2 y3)) ∧ (∀ y0 y1 y2 y3, LeO (mummerlaw04_DataParts.j3 k y0 y1 y2 y3) (mummerlaw04_DataParts.j3 (k + 1) y0 y1 y2 y3))
  | 0 => ⟨fun _ _ _ _ _ r h => by simp [mummerlaw04_DataParts.l0] at h, fun _ _ _ _ _ _ r h => by simp [mummerlaw04_DataParts.j1] at h, fun _ _ _ _ r h => by simp [mummerlaw04_DataParts.j2] at h, fun _ _ _ _ r h => by simp [mummerlaw04_DataParts.j3] at h⟩
  | k + 1 => by
    obtain ⟨ih0, ih1, ih2, ih3⟩ := mummerlaw04_DataParts.mono_l k
    refine ⟨?_, ?_, ?_, ?_⟩
    · intro y0 y1 y2 y3 y4
      unfold mummerlaw04_DataParts.l0
      repeat' first
      | (with_reducible exact ih0 _ _ _ _ _)
      | (with_reducible exact ih1 _ _ _ _ _ _)
      | (with_reducible exact ih2 _ _ _ _)
      | (with_reducible exact ih3 _ _ _ _)
      | (with_reducible exact data_List.mono _ _)
      | (with_reducible exact data_Sub.mono _ _ _)
      | (with_reducible exact mummerlaw04_Far.mono _ _)
      | (with_reducible exact mummerlaw04_shown.mono _)
      | (with_reducible exact mummerref04_List.mono _ _)
      | (with_reducible exact mummerref04_Put.mono _ _ _ _)
      | (with_reducible exact mummerref04_Same.mono _ _ _)
      | (with_reducible exact mummerref04_Sub.mono _ _ _)
      | (with_reducible exact LeO.refl _)
      | (with_reducible exact LeO.none _)
      | (with_reducible refine LeO.ite ?_ ?_)
      | (with_reducible refine LeO.bind ?_ (fun _ => ?_))
      | exact ih0 _ _ _ _ _
      | exact ih1 _ _ _ _ _ _
      | exact ih2 _ _ _ _
      | exact ih3 _ _ _ _
      | exact data_List.mono _ _
      | exact data_Sub.mono _ _ _
      | exact mummerlaw04_Far.mono _ _
      | exact mummerlaw04_shown.mono _
      | exact mummerref04_List.mono _ _
      | exact mummerref04_Put.mono _ _ _ _
      | exact mummerref04_Same.mono _ _ _
      | exact mummerref04_Sub.mono _ _ _
      | exact LeO.none _
      | refine LeO.ite ?_ ?_
      | refine LeO.bind ?_ (fun _ => ?_)
    · intro y0 y1 y2 y3 y4 y5
      unfold mummerlaw04_DataParts.j1
      repeat' first
      | (with_reducible exact ih0 _ _ _ _ _)
      | (with_reducible exact ih1 _ _ _ _ _ _)
      | (with_reducible exact ih2 _ _ _ _)
      | (with_reducible exact ih3 _ _ _ _)
      | (with_reducible exact data_List.mono _ _)
      | (with_reducible exact data_Sub.mono _ _ _)
      | (with_reducible exact mummerlaw04_Far.mono _ _)
      | (with_reducible exact mummerlaw04_shown.mono _)
      | (with_reducible exact mummerref04_List.mono _ _)
      | (with_reducible exact mummerref04_Put.mono _ _ _ _)
      | (with_reducible exact mummerref04_Same.mono _ _ _)
      | (with_reducible exact mummerref04_Sub.mono _ _ _)
      | (with_reducible exact LeO.refl _)
      | (with_reducible exact LeO.none _)
      | (with_reducible refine LeO.ite ?_ ?_)
      | (with_reducible refine LeO.bind ?_ (fun _ => ?_))
      | exact ih0 _ _ _ _ _
      | exact ih1 _ _ _ _ _ _
      | exact ih2 _ _ _ _
      | exact ih3 _ _ _ _
      | exact data_List.mono _ _
      | exact data_Sub.mono _ _ _
      | exact mummerlaw04_Far.mono _ _
      | exact mummerlaw04_shown.mono _
      | exact mummerref04_List.mono _ _
      | exact mummerref04_Put.mono _ _ _ _
      | exact mummerref04_Same.mono _ _ _
      | exact mummerref04_Sub.mono _ _ _
      | exact LeO.none _
      | refine LeO.ite ?_ ?_
      | refine LeO.bind ?_ (fun _ => ?_)
    · intro y0 y1 y2 y3
      unfold mummerlaw04_DataParts.j2
      repeat' first
      | (with_reducible exact ih0 _ _ _ _ _)
      | (with_reducible exact ih1 _ _ _ _ _ _)
      | (with_reducible exact ih2 _ _ _ _)
      | (with_reducible exact ih3 _ _ _ _)
      | (with_reducible exact data_List.mono _ _)
      | (with_reducible exact data_Sub.mono _ _ _)
      | (with_reducible exact mummerlaw04_Far.mono _ _)
      | (with_reducible exact mummerlaw04_shown.mono _)
      | (with_reducible exact mummerref04_List.mono _ _)
      | (with_reducible exact mummerref04_Put.mono _ _ _ _)
      | (with_reducible exact mummerref04_Same.mono _ _ _)
      | (with_reducible exact mummerref04_Sub.mono _ _ _)
      | (with_reducible exact LeO.refl _)
      | (with_reducible exact LeO.none _)
      | (with_reducible refine LeO.ite ?_ ?_)
      | (with_reducible refine LeO.bind ?_ (fun _ => ?_))
      | exact ih0 _ _ _ _ _
      | exact ih1 _ _ _ _ _ _
      | exact ih2 _ _ _ _
      | exact ih3 _ _ _ _
      | exact data_List.mono _ _
      | exact data_Sub.mono _ _ _
      | exact mummerlaw04_Far.mono _ _
      | exact mummerlaw04_shown.mono _
      | exact mummerref04_List.mono _ _
      | exact mummerref04_Put.mono _ _ _ _
      | exact mummerref04_Same.mono _ _ _
      | exact mummerref04_Sub.mono _ _ _
      | exact LeO.none _
      | refine LeO.ite ?_ ?_
      | refine LeO.bind ?_ (fun _ => ?_)
    · intro y0 y1 y2 y3
      unfold mummerlaw04_DataParts.j3
      repeat' first
      | (with_reducible exact ih0 _ _ _ _ _)
      | (with_reducible exact ih1 _ _ _ _ _ _)
      | (with_reducible exact ih2 _ _ _ _)
      | (with_reducible exact ih3 _ _ _ _)
      | (with_reducible exact data_List.mono _ _)
      | (with_reducible exact data_Sub.mono _ _ _)
      | (with_reducible exact mummerlaw04_Far.mono _ _)
      | (with_reducible exact mummerlaw04_shown.mono _)
      | (with_reducible exact mummerref04_List.mono _ _)
      | (with_reducible exact mummerref04_Put.mono _ _ _ _)
      | (with_reducible exact mummerref04_Same.mono _ _ _)
      | (with_reducible exact mummerref04_Sub.mono _ _ _)
      | (with_reducible exact LeO.refl _)
      | (with_reducible exact LeO.none _)
      | (with_reducible refine LeO.ite ?_ ?_)
      | (with_reducible refine LeO.bind ?_ (fun _ => ?_))
      | exact ih0 _ _ _ _ _
      | exact ih1 _ _ _ _ _ _
      | exact ih2 _ _ _ _
      | exact ih3 _ _ _ _
      | exact data_List.mono _ _
      | exact data_Sub.mono _ _ _
      | exact mummerlaw04_Far.mono _ _
      | exact mummerlaw04_shown.mono _
      | exact mummerref04_List.mono _ _
      | exact mummerref04_Put.mono _ _ _ _
      | exact mummerref04_Same.mono _ _ _
      | exact mummerref04_Sub.mono _ _ _
      | exact LeO.none _
      | refine LeO.ite ?_ ?_
      | refine LeO.bind ?_ (fun _ => ?_)
theorem mummerlaw04_DataParts.mono : ∀ a0 a1 a2 k, LeO (mummerlaw04_DataParts.f k a0 a1 a2) (mummerlaw04_DataParts.f (k + 1) a0 a1 a2) := by
  intro a0 a1 a2 k
  obtain ⟨ih0, ih1, ih2, ih3⟩ := mummerlaw04_DataParts.mono_l k
  unfold mummerlaw04_DataParts.f
  repeat' first
      | (with_reducible exact ih0 _ _ _ _ _)
      | (with_reducible exact ih1 _ _ _ _ _ _)
      | (with_reducible exact ih2 _ _ _ _)
      | (with_reducible exact ih3 _ _ _ _)
      | (with_reducible exact data_List.mono _ _)
      | (with_reducible exact data_Sub.mono _ _ _)
      | (with_reducible exact mummerlaw04_Far.mono _ _)
      | (with_reducible exact mummerlaw04_shown.mono _)
      | (with_reducible exact mummerref04_List.mono _ _)
      | (with_reducible exact mummerref04_Put.mono _ _ _ _)
      | (with_reducible exact mummerref04_Same.mono _ _ _)
      | (with_reducible exact mummerref04_Sub.mono _ _ _)
      | (with_reducible exact LeO.refl _)
      | (with_reducible exact LeO.none _)
      | (with_reducible refine LeO.ite ?_ ?_)
      | (with_reducible refine LeO.bind ?_ (fun _ => ?_))
      | exact ih0 _ _ _ _ _
      | exact ih1 _ _ _ _ _ _
      | exact ih2 _ _ _ _
      | exact ih3 _ _ _ _
      | exact data_List.mono _ _
      | exact data_Sub.mono _ _ _
      | exact mummerlaw04_Far.mono _ _
      | exact mummerlaw04_shown.mono _
      | exact mummerref04_List.mono _ _
      | exact mummerref04_Put.mono _ _ _ _
      | exact mummerref04_Same.mono _ _ _
      | exact mummerref04_Sub.mono _ _ _
      | exact LeO.none _
      | refine LeO.ite ?_ ?_
      | refine LeO.bind ?_ (fun _ => ?_)
set_option maxHeartbeats 8000000 in
set_option maxRecDepth 100000 in
theorem mummerlaw04_DataParts.calls (k : Nat) (A0 : Option Addr) (c0 : Nat) (l0 : List (S51)) (a1 : Int) (A2 : Option Addr) (c2 : Nat) (l2 : List (List (S51))) (r : Bool) (w : World) (hr0 : Kd.C k51 w A0 l0.length l0) (hc0 : l0.length ≤ c0) (hr2 : Kd.C (Kd.slice 51 k51) w A2 l2.length l2) (hc2 : l2.length ≤ c2) (hG : G0 w) (h : mummerlaw04_DataParts.f k l0 a1 l2 = some r) :
    Calls Tryd.prog 6 #[.slice A0 l0.length c0, .int .i64 a1, .slice A2 l2.length c2] w fun e w' => e = .returned (.bool r) ∧ Below w.heap.size w w' := by
  have HGl := Aside0.mk hG
  clear hG
  have HR0 := Aside0.mk hr0
  have HC0 := Aside0.mk hc0
  clear hr0 hc0
  have HR2 := Aside0.mk hr2
  have HC2 := Aside0.mk hc2
  clear hr2 hc2
  have HB := Aside0.mk (Below.refl w.heap.size w)
  have H : (mummerlaw04_DataParts.l0 k l0 a1 l2 0 0) = some r := h
  clear h
  have H' := Aside0.mk H
  clear H
  go_enter Tryd.func6, Tryd.ntmps6
  go_wp2
  go_loopg [7, 8] k (fun kq v7 v8 w' => ∃ (x7_1 : Int) (x8_1 : Int), v7 = .int .i64 x7_1 ∧ v8 = .int .i64 x8_1 ∧ Aside0 (mummerlaw04_DataParts.l0 kq l0 a1 l2 x7_1 x8_1 = some r) ∧ Aside0 (kq ≤ k) ∧ Aside0 (Below w.heap.size w w'))
  case atStart => exact ⟨(0), (0), (by first | rfl | (simp; done) | (simp [*]; done)), (by first | rfl | (simp; done) | (simp [*]; done)), H', ⟨Nat.le_refl _⟩, ⟨by repeat (first | (with_reducible first | exact HB.out | apply below_alloc | apply pw_below_drewN | apply below_drew1) | exact HB.out)⟩⟩
  case round =>
    clear H'
    try clear c2
    try clear p2
    obtain ⟨x7_1, x8_1, rfl, rfl, HA, HK1, HB⟩ := hrel
    cases gk with
    | zero => exact absurd HA.out (by simp [mummerlaw04_DataParts.l0])
    | succ k1 =>
      have H := HA.out
      clear HA
      simp only [mummerlaw04_DataParts.l0] at H
      have HC4 := Aside0.mk H
      clear H
      go_upto_region 3 with (fail)
      go_cut [26] (fun v26 wc => ∃ (kq : Nat) (x26_3 : Bool), v26 = .bool x26_3 ∧ Aside0 (mummerlaw04_DataParts.j1 kq l0 a1 l2 x7_1 x8_1 x26_3 = some r) ∧ Aside0 (kq ≤ k1) ∧ Aside0 (Below w.heap.size w wc))
      case first =>
        have H := HC4.out
        clear HC4
        by_cases c5 : x8_1 < (l2.length : Int)
        · rw [if_pos c5] at H
          have c5b0 : decide (x8_1 < (l2.length : Int)) = true := decide_eq_true c5
          clear c5
          (first | rw [c5b0] | (simp only [i64_w, i32_w]; rw [c5b0]) | skip)
          have H' := Aside0.mk H
          clear H
          go_wp2
          go_meet
          case rel => exact ⟨_, (decide (x8_1 < 100)), (by first | rfl | (simp; done) | (simp [*]; done)), H', ⟨by have := HK1.out; first | omega | exact Nat.le_refl _⟩, ⟨by repeat (first | (with_reducible first | exact HB.out | apply below_alloc | apply pw_below_drewN | apply below_drew1) | exact HB.out)⟩⟩
        · rw [if_neg c5] at H
          have c5b0 : decide (x8_1 < (l2.length : Int)) = false := decide_eq_false c5
          clear c5
          (first | rw [c5b0] | (simp only [i64_w, i32_w]; rw [c5b0]) | skip)
          have H' := Aside0.mk H
          clear H
          go_wp2
          go_meet
          case rel => exact ⟨_, (false), (by first | rfl | (simp; done) | (simp [*]; done)), H', ⟨by have := HK1.out; first | omega | exact Nat.le_refl _⟩, ⟨by repeat (first | (with_reducible first | exact HB.out | apply below_alloc | apply pw_below_drewN | apply below_drew1) | exact HB.out)⟩⟩
      case rest =>
        clear HC4
        try clear c2
        try clear p2
        try clear c5
        try clear c5b0
        try clear p2
        obtain ⟨kq, x26_3, rfl, HA, HJ3, HB⟩ := hcut
        cases kq with
        | zero => exact absurd HA.out (by simp [mummerlaw04_DataParts.j1])
        | succ kj3 =>
          have H := HA.out
          clear HA
          simp only [mummerlaw04_DataParts.j1] at H
          by_cases c6 : x26_3 = true
          · subst c6
            have H1 : (if 0 ≤ x8_1 then (if x8_1 < (l2.length : Int) then ((mummerlaw04_Far.f kj3 (rd_L3 l2 x8_1)).bind fun t379 => (if t379 = true then ((mummerlaw04_shown.f kj3).bind fun t380 => (some t380)) else (mummerlaw04_DataParts.l0 kj3 l0 a1 l2 (wrap64 (x7_1 + ((rd_L3 l2 x8_1).length : Int))) (wrap64 (x8_1 + 1))))) else (none)) else (none)) = some r := by rw [if_pos rfl] at H; exact H
            clear H
            have H := H1
            clear H1
            by_cases c7 : 0 ≤ x8_1
            · rw [if_pos c7] at H
              have c7b0 : decide (0 ≤ x8_1) = true := decide_eq_true c7
              clear c7
              by_cases c8 : x8_1 < (l2.length : Int)
              · rw [if_pos c8] at H
                have c8b0 : decide (x8_1 < (l2.length : Int)) = true := decide_eq_true c8
                clear c8
                replace H := Option.bind_eq_some_iff.mp H
                obtain ⟨t379, A90, H⟩ := H
                replace H : (if t379 = true then ((mummerlaw04_shown.f kj3).bind fun t380 => (some t380)) else (mummerlaw04_DataParts.l0 kj3 l0 a1 l2 (wrap64 (x7_1 + ((rd_L3 l2 x8_1).length : Int))) (wrap64 (x8_1 + 1)))) = some r := H
                have A9 := Aside0.mk A90
                clear A90
                by_cases c10 : t379 = true
                · subst c10
                  have H1 : ((mummerlaw04_shown.f kj3).bind fun t380 => (some t380)) = some r := by rw [if_pos rfl] at H; exact H
                  clear H
                  have H := H1
                  clear H1
                  replace H := Option.bind_eq_some_iff.mp H
                  obtain ⟨t380, A110, H⟩ := H
                  replace H : (some t380) = some r := H
                  have A11 := Aside0.mk A110
                  clear A110
                  obtain rfl := Option.some.inj H
                  have p377 : 0 ≤ (x8_1 : Int) := of_decide_eq_true (by first | (with_reducible assumption) | assumption)
                  have q377 : x8_1 < (l2.length : Int) := of_decide_eq_true (by first | (with_reducible assumption) | assumption)
                  obtain ⟨ad377, A377_0, c377_0, e377, hx377_0, hl377_0, hi377_0⟩ := at_L3 HR2.out x8_1 p377 q377
                  cases e377
                  replace hx377_0 := (HB.out.cell (World.block_lt_of_cell? w _ hx377_0)).trans hx377_0
                  have HR377_0 := Aside0.mk hi377_0
                  have HC377_0 := Aside0.mk hl377_0
                  clear hi377_0 hl377_0
                  replace p377 := eq_true p377
                  replace q377 := eq_true q377
                  have p378 : 0 ≤ (x8_1 : Int) := of_decide_eq_true (by first | (with_reducible assumption) | assumption)
                  have q378 : x8_1 < (l2.length : Int) := of_decide_eq_true (by first | (with_reducible assumption) | assumption)
                  obtain ⟨ad378, A378_0, c378_0, e378, hx378_0, hl378_0, hi378_0⟩ := at_L3 HR2.out x8_1 p378 q378
                  obtain rfl : ad377 = ad378 := (by injection e378)
                  replace hx378_0 := (HB.out.cell (World.block_lt_of_cell? w _ hx378_0)).trans hx378_0
                  have HR378_0 := Aside0.mk hi378_0
                  have HC378_0 := Aside0.mk hl378_0
                  clear hi378_0 hl378_0
                  replace p378 := eq_true p378
                  replace q378 := eq_true q378
                  have ea_ := Option.some.inj (hx377_0.symm.trans hx378_0)
                  injection ea_ with ea_ en_ ec_
                  subst ea_
                  subst ec_
                  clear en_
                  go_wp2_with (first | ((with_reducible refine gate_callee (f := 12) rfl ?_); refine goesL_ (some 40) rfl rfl Tryd.func12 (by kernel_rfl) rfl #[.slice A377_0 (rd_L3 l2 x8_1).length c377_0] rfl (by (try simp only [List.map_toArray, List.map_cons, List.map_nil]); first | done | rfl | (simp only [List.length_drop, List.length_take]; rfl)) ?_; (with_reducible refine (mummerlaw04_Far.calls kj3 _ _ (rd_L3 l2 x8_1) true _ ?side1 ?side2 A9.out).mono ?_); (case side1 => repeat (first | exact (Kd.C_below HR378_0.out HB.out) | (with_reducible refine Kd.C_alloc ?_ _) | (with_reducible refine Kd.C_drewN ?_ _) | (with_reducible refine Kd.C_drew ?_))); (case side2 => exact HC378_0.out); rintro e w' ⟨rfl, ⟨nd, rfl⟩⟩; refine ⟨_, rfl, ?_⟩) | ((with_reducible refine gate_callee (f := 13) rfl ?_); refine goesL_ (some 41) rfl rfl Tryd.func13 (by kernel_rfl) rfl #[] rfl (by (try simp only [List.map_toArray, List.map_cons, List.map_nil]); first | done | rfl | (simp only [List.length_drop, List.length_take]; rfl)) ?_; (with_reducible refine (mummerlaw04_shown.calls kj3  t380 _ ?side1 A11.out).mono ?_); (case side1 => exact G0_keep HGl.out (by repeat (first | (with_reducible first | exact HB.out | apply below_alloc | apply pw_below_drewN | apply below_drew1) | exact HB.out))); rintro e w12 ⟨rfl, hb⟩; refine ⟨_, rfl, ?_⟩; have n0_ := Aside0.mk (below_step (by repeat (first | (with_reducible first | exact HB.out | apply below_alloc | apply pw_below_drewN | apply below_drew1) | exact HB.out)) hb); clear HB; have HB := n0_; clear n0_; (try clear hb); (try clear hb2); (try clear hk); (try clear hi)))
                  go_ret
                  exact ⟨by first | rfl | (simp [errW_none, errW_some] <;> rfl) | (simp [*, errW_none, errW_some] <;> rfl), by repeat (first | (with_reducible first | exact HB.out | apply below_alloc | apply pw_below_drewN | apply below_drew1) | exact HB.out)⟩
                · replace c10 := Bool.eq_false_iff.mpr c10
                  subst c10
                  have H1 : (mummerlaw04_DataParts.l0 kj3 l0 a1 l2 (wrap64 (x7_1 + ((rd_L3 l2 x8_1).length : Int))) (wrap64 (x8_1 + 1))) = some r := by rw [if_neg (show ¬ (false = true) by decide)] at H; exact H
                  clear H
                  have H := H1
                  clear H1
                  have H' := Aside0.mk H
                  clear H
                  have p377 : 0 ≤ (x8_1 : Int) := of_decide_eq_true (by first | (with_reducible assumption) | assumption)
                  have q377 : x8_1 < (l2.length : Int) := of_decide_eq_true (by first | (with_reducible assumption) | assumption)
                  obtain ⟨ad377, A377_0, c377_0, e377, hx377_0, hl377_0, hi377_0⟩ := at_L3 HR2.out x8_1 p377 q377
                  cases e377
                  replace hx377_0 := (HB.out.cell (World.block_lt_of_cell? w _ hx377_0)).trans hx377_0
                  have HR377_0 := Aside0.mk hi377_0
                  have HC377_0 := Aside0.mk hl377_0
                  clear hi377_0 hl377_0
                  replace p377 := eq_true p377
                  replace q377 := eq_true q377
                  have p378 : 0 ≤ (x8_1 : Int) := of_decide_eq_true (by first | (with_reducible assumption) | assumption)
                  have q378 : x8_1 < (l2.length : Int) := of_decide_eq_true (by first | (with_reducible assumption) | assumption)
                  obtain ⟨ad378, A378_0, c378_0, e378, hx378_0, hl378_0, hi378_0⟩ := at_L3 HR2.out x8_1 p378 q378
                  obtain rfl : ad377 = ad378 := (by injection e378)
                  replace hx378_0 := (HB.out.cell (World.block_lt_of_cell? w _ hx378_0)).trans hx378_0
                  have HR378_0 := Aside0.mk hi378_0
                  have HC378_0 := Aside0.mk hl378_0
                  clear hi378_0 hl378_0
                  replace p378 := eq_true p378
                  replace q378 := eq_true q378
                  have ea_ := Option.some.inj (hx377_0.symm.trans hx378_0)
                  injection ea_ with ea_ en_ ec_
                  subst ea_
                  subst ec_
                  clear en_
                  go_wp2_with (first | ((with_reducible refine gate_callee (f := 12) rfl ?_); refine goesL_ (some 40) rfl rfl Tryd.func12 (by kernel_rfl) rfl #[.slice A377_0 (rd_L3 l2 x8_1).length c377_0] rfl (by (try simp only [List.map_toArray, List.map_cons, List.map_nil]); first | done | rfl | (simp only [List.length_drop, List.length_take]; rfl)) ?_; (with_reducible refine (mummerlaw04_Far.calls kj3 _ _ (rd_L3 l2 x8_1) false _ ?side1 ?side2 A9.out).mono ?_); (case side1 => repeat (first | exact (Kd.C_below HR378_0.out HB.out) | (with_reducible refine Kd.C_alloc ?_ _) | (with_reducible refine Kd.C_drewN ?_ _) | (with_reducible refine Kd.C_drew ?_))); (case side2 => exact HC378_0.out); rintro e w' ⟨rfl, ⟨nd, rfl⟩⟩; refine ⟨_, rfl, ?_⟩))
                  go_roundg kj3
                  case measure => have := HK1.out; have := HJ3.out; omega
                  case rel => exact ⟨(wrap64 (x7_1 + ((rd_L3 l2 x8_1).length : Int))), (wrap64 (x8_1 + 1)), (by first | rfl | (simp; done) | (simp [*]; done)), (by first | rfl | (simp; done) | (simp [*]; done)), H', ⟨by have := HK1.out; have := HJ3.out; omega⟩, ⟨by repeat (first | (with_reducible first | exact HB.out | apply below_alloc | apply pw_below_drewN | apply below_drew1) | exact HB.out)⟩⟩
              · rw [if_neg c8] at H
                exact absurd H (by simp)
            · rw [if_neg c7] at H
              exact absurd H (by simp)
          · replace c6 := Bool.eq_false_iff.mpr c6
            subst c6
            have H1 : ((mummerlaw04_Far.f kj3 l0).bind fun t381 => (if t381 = true then (mummerlaw04_DataParts.j2 kj3 l0 a1 l2 true) else (if (l2.length : Int) > 60 then (mummerlaw04_DataParts.j2 kj3 l0 a1 l2 true) else (mummerlaw04_DataParts.j2 kj3 l0 a1 l2 (decide (x7_1 > 500)))))) = some r := by rw [if_neg (show ¬ (false = true) by decide)] at H; exact H
            clear H
            have H := H1
            clear H1
            have HC13 := Aside0.mk H
            clear H
            go_upto_region 8 with (fail)
            go_cut [52] (fun v52 wc => ∃ (kq : Nat) (x52_12 : Bool), v52 = .bool x52_12 ∧ Aside0 (mummerlaw04_DataParts.j2 kq l0 a1 l2 x52_12 = some r) ∧ Aside0 (kq ≤ kj3) ∧ Aside0 (Below w.heap.size w wc))
            case first =>
              have H := HC13.out
              clear HC13
              replace H := Option.bind_eq_some_iff.mp H
              obtain ⟨t381, A140, H⟩ := H
              replace H : (if t381 = true then (mummerlaw04_DataParts.j2 kj3 l0 a1 l2 true) else (if (l2.length : Int) > 60 then (mummerlaw04_DataParts.j2 kj3 l0 a1 l2 true) else (mummerlaw04_DataParts.j2 kj3 l0 a1 l2 (decide (x7_1 > 500))))) = some r := H
              have A14 := Aside0.mk A140
              clear A140
              by_cases c15 : t381 = true
              · subst c15
                have H1 : (mummerlaw04_DataParts.j2 kj3 l0 a1 l2 true) = some r := by rw [if_pos rfl] at H; exact H
                clear H
                have H := H1
                clear H1
                have H' := Aside0.mk H
                clear H
                go_wp2_with (first | ((with_reducible refine gate_callee (f := 12) rfl ?_); refine goesL_ (some 43) rfl rfl Tryd.func12 (by kernel_rfl) rfl #[.slice A0 l0.length c0] rfl (by (try simp only [List.map_toArray, List.map_cons, List.map_nil]); first | done | rfl | (simp only [List.length_drop, List.length_take]; rfl)) ?_; (with_reducible refine (mummerlaw04_Far.calls kj3 _ _ l0 true _ ?side1 ?side2 A14.out).mono ?_); (case side1 => repeat (first | exact (Kd.C_below HR0.out HB.out) | (with_reducible refine Kd.C_alloc ?_ _) | (with_reducible refine Kd.C_drewN ?_ _) | (with_reducible refine Kd.C_drew ?_))); (case side2 => exact HC0.out); rintro e w' ⟨rfl, ⟨nd, rfl⟩⟩; refine ⟨_, rfl, ?_⟩))
                go_meet
                case rel => exact ⟨_, (true), (by first | rfl | (simp; done) | (simp [*]; done)), H', ⟨by have := HK1.out; have := HJ3.out; first | omega | exact Nat.le_refl _⟩, ⟨by repeat (first | (with_reducible first | exact HB.out | apply below_alloc | apply pw_below_drewN | apply below_drew1) | exact HB.out)⟩⟩
              · replace c15 := Bool.eq_false_iff.mpr c15
                subst c15
                have H1 : (if (l2.length : Int) > 60 then (mummerlaw04_DataParts.j2 kj3 l0 a1 l2 true) else (mummerlaw04_DataParts.j2 kj3 l0 a1 l2 (decide (x7_1 > 500)))) = some r := by rw [if_neg (show ¬ (false = true) by decide)] at H; exact H
                clear H
                have H := H1
                clear H1
                by_cases c16 : (l2.length : Int) > 60
                · rw [if_pos c16] at H
                  have c16b0 : decide (60 < (l2.length : Int)) = true := decide_eq_true c16
                  have c16b1 : decide (60 < l2.length) = true := decide_eq_true (by omega)
                  clear c16
                  (first | rw [c16b0] | (simp only [i64_w, i32_w]; rw [c16b0]) | skip)
                  have H' := Aside0.mk H
                  clear H
                  go_wp2_with (first | ((with_reducible refine gate_callee (f := 12) rfl ?_); refine goesL_ (some 43) rfl rfl Tryd.func12 (by kernel_rfl) rfl #[.slice A0 l0.length c0] rfl (by (try simp only [List.map_toArray, List.map_cons, List.map_nil]); first | done | rfl | (simp only [List.length_drop, List.length_take]; rfl)) ?_; (with_reducible refine (mummerlaw04_Far.calls kj3 _ _ l0 false _ ?side1 ?side2 A14.out).mono ?_); (case side1 => repeat (first | exact (Kd.C_below HR0.out HB.out) | (with_reducible refine Kd.C_alloc ?_ _) | (with_reducible refine Kd.C_drewN ?_ _) | (with_reducible refine Kd.C_drew ?_))); (case side2 => exact HC0.out); rintro e w' ⟨rfl, ⟨nd, rfl⟩⟩; refine ⟨_, rfl, ?_⟩))
                  go_meet
                  case rel => exact ⟨_, (true), (by first | rfl | (simp; done) | (simp [*]; done)), H', ⟨by have := HK1.out; have := HJ3.out; first | omega | exact Nat.le_refl _⟩, ⟨by repeat (first | (with_reducible first | exact HB.out | apply below_alloc | apply pw_below_drewN | apply below_drew1) | exact HB.out)⟩⟩
                · rw [if_neg c16] at H
                  have c16b0 : decide (60 < (l2.length : Int)) = false := decide_eq_false c16
                  have c16b1 : decide (60 < l2.length) = false := decide_eq_false (by omega)
                  clear c16
                  (first | rw [c16b0] | (simp only [i64_w, i32_w]; rw [c16b0]) | skip)
                  have H' := Aside0.mk H
                  clear H
                  go_wp2_with (first | ((with_reducible refine gate_callee (f := 12) rfl ?_); refine goesL_ (some 43) rfl rfl Tryd.func12 (by kernel_rfl) rfl #[.slice A0 l0.length c0] rfl (by (try simp only [List.map_toArray, List.map_cons, List.map_nil]); first | done | rfl | (simp only [List.length_drop, List.length_take]; rfl)) ?_; (with_reducible refine (mummerlaw04_Far.calls kj3 _ _ l0 false _ ?side1 ?side2 A14.out).mono ?_); (case side1 => repeat (first | exact (Kd.C_below HR0.out HB.out) | (with_reducible refine Kd.C_alloc ?_ _) | (with_reducible refine Kd.C_drewN ?_ _) | (with_reducible refine Kd.C_drew ?_))); (case side2 => exact HC0.out); rintro e w' ⟨rfl, ⟨nd, rfl⟩⟩; refine ⟨_, rfl, ?_⟩))
                  go_meet
                  case rel => exact ⟨_, (decide (x7_1 > 500)), (by first | rfl | (simp; done) | (simp [*]; done)), H', ⟨by have := HK1.out; have := HJ3.out; first | omega | exact Nat.le_refl _⟩, ⟨by repeat (first | (with_reducible first | exact HB.out | apply below_alloc | apply pw_below_drewN | apply below_drew1) | exact HB.out)⟩⟩
            case rest =>
              clear HC13
              try clear c1
              try clear c2
              try clear p2
              try clear c3
              try clear p3
              try clear q3
              try clear hx3
              try clear c5
              try clear c5b0
              try clear c6
              try clear p6
              try clear c7
              try clear c7b0
              try clear c8
              try clear c8b0
              try clear c10
              try clear c12
              try clear c13
              try clear c15
              try clear c16
              try clear c16b0
              try clear c16b1
              try clear hx377_0
              try clear hx378_0
              try clear p2
              try clear p377
              try clear p378
              try clear q377
              try clear q378
              obtain ⟨kq, x52_12, rfl, HA, HJ12, HB⟩ := hcut
              cases kq with
              | zero => exact absurd HA.out (by simp [mummerlaw04_DataParts.j2])
              | succ kj12 =>
                have H := HA.out
                clear HA
                simp only [mummerlaw04_DataParts.j2] at H
                by_cases c17 : x52_12 = true
                · subst c17
                  have H1 : ((mummerlaw04_shown.f kj12).bind fun t382 => (some t382)) = some r := by rw [if_pos rfl] at H; exact H
                  clear H
                  have H := H1
                  clear H1
                  replace H := Option.bind_eq_some_iff.mp H
                  obtain ⟨t382, A180, H⟩ := H
                  replace H : (some t382) = some r := H
                  have A18 := Aside0.mk A180
                  clear A180
                  obtain rfl := Option.some.inj H
                  go_wp2_with (first | ((with_reducible refine gate_callee (f := 13) rfl ?_); refine goesL_ (some 53) rfl rfl Tryd.func13 (by kernel_rfl) rfl #[] rfl (by (try simp only [List.map_toArray, List.map_cons, List.map_nil]); first | done | rfl | (simp only [List.length_drop, List.length_take]; rfl)) ?_; (with_reducible refine (mummerlaw04_shown.calls kj12  t382 _ ?side1 A18.out).mono ?_); (case side1 => exact G0_keep HGl.out (by repeat (first | (with_reducible first | exact HB.out | apply below_alloc | apply pw_below_drewN | apply below_drew1) | exact HB.out))); rintro e w19 ⟨rfl, hb⟩; refine ⟨_, rfl, ?_⟩; have n0_ := Aside0.mk (below_step (by repeat (first | (with_reducible first | exact HB.out | apply below_alloc | apply pw_below_drewN | apply below_drew1) | exact HB.out)) hb); clear HB; have HB := n0_; clear n0_; (try clear hb); (try clear hb2); (try clear hk); (try clear hi)))
                  go_ret
                  exact ⟨by first | rfl | (simp [errW_none, errW_some] <;> rfl) | (simp [*, errW_none, errW_some] <;> rfl), by repeat (first | (with_reducible first | exact HB.out | apply below_alloc | apply pw_below_drewN | apply below_drew1) | exact HB.out)⟩
                · replace c17 := Bool.eq_false_iff.mpr c17
                  subst c17
                  have H1 : ((data_Sub.f kj12 l0 a1).bind fun bt383 => ((mummerref04_Sub.f kj12 l0 a1).bind fun bt387 => ((data_List.f kj12 l2).bind fun bt391 => ((mummerref04_List.f kj12 l2).bind fun bt395 => ((mummerref04_Same.f kj12 bt383.1 bt387.1).bind fun t399 => (if t399 = true then (if bt383.2 = bt387.2 then ((mummerref04_Same.f kj12 bt391.1 bt395.1).bind fun t400 => (if t400 = true then (mummerlaw04_DataParts.j3 kj12 l0 a1 l2 (bt391.2 != bt395.2)) else (mummerlaw04_DataParts.j3 kj12 l0 a1 l2 true))) else (mummerlaw04_DataParts.j3 kj12 l0 a1 l2 true)) else (mummerlaw04_DataParts.j3 kj12 l0 a1 l2 true))))))) = some r := by rw [if_neg (show ¬ (false = true) by decide)] at H; exact H
                  clear H
                  have H := H1
                  clear H1
                  replace H := Option.bind_eq_some_iff.mp H
                  obtain ⟨⟨t383, t384⟩, A200, H⟩ := H
                  replace H : ((mummerref04_Sub.f kj12 l0 a1).bind fun bt387 => ((data_List.f kj12 l2).bind fun bt391 => ((mummerref04_List.f kj12 l2).bind fun bt395 => ((mummerref04_Same.f kj12 t383 bt387.1).bind fun t399 => (if t399 = true then (if t384 = bt387.2 then ((mummerref04_Same.f kj12 bt391.1 bt395.1).bind fun t400 => (if t400 = true then (mummerlaw04_DataParts.j3 kj12 l0 a1 l2 (bt391.2 != bt395.2)) else (mummerlaw04_DataParts.j3 kj12 l0 a1 l2 true))) else (mummerlaw04_DataParts.j3 kj12 l0 a1 l2 true)) else (mummerlaw04_DataParts.j3 kj12 l0 a1 l2 true)))))) = some r := H
                  have A20 := Aside0.mk A200
                  clear A200
                  replace H := Option.bind_eq_some_iff.mp H
                  obtain ⟨⟨t387, t388⟩, A210, H⟩ := H
                  replace H : ((data_List.f kj12 l2).bind fun bt391 => ((mummerref04_List.f kj12 l2).bind fun bt395 => ((mummerref04_Same.f kj12 t383 t387).bind fun t399 => (if t399 = true then (if t384 = t388 then ((mummerref04_Same.f kj12 bt391.1 bt395.1).bind fun t400 => (if t400 = true then (mummerlaw04_DataParts.j3 kj12 l0 a1 l2 (bt391.2 != bt395.2)) else (mummerlaw04_DataParts.j3 kj12 l0 a1 l2 true))) else (mummerlaw04_DataParts.j3 kj12 l0 a1 l2 true)) else (mummerlaw04_DataParts.j3 kj12 l0 a1 l2 true))))) = some r := H
                  have A21 := Aside0.mk A210
                  clear A210
                  replace H := Option.bind_eq_some_iff.mp H
                  obtain ⟨⟨t391, t394⟩, A220, H⟩ := H
                  replace H : ((mummerref04_List.f kj12 l2).bind fun bt395 => ((mummerref04_Same.f kj12 t383 t387).bind fun t399 => (if t399 = true then (if t384 = t388 then ((mummerref04_Same.f kj12 t391 bt395.1).bind fun t400 => (if t400 = true then (mummerlaw04_DataParts.j3 kj12 l0 a1 l2 (t394 != bt395.2)) else (mummerlaw04_DataParts.j3 kj12 l0 a1 l2 true))) else (mummerlaw04_DataParts.j3 kj12 l0 a1 l2 true)) else (mummerlaw04_DataParts.j3 kj12 l0 a1 l2 true)))) = some r := H
                  have A22 := Aside0.mk A220
                  clear A220
                  replace H := Option.bind_eq_some_iff.mp H
                  obtain ⟨⟨t395, t398⟩, A230, H⟩ := H
                  replace H : ((mummerref04_Same.f kj12 t383 t387).bind fun t399 => (if t399 = true then (if t384 = t388 then ((mummerref04_Same.f kj12 t391 t395).bind fun t400 => (if t400 = true then (mummerlaw04_DataParts.j3 kj12 l0 a1 l2 (t394 != t398)) else (mummerlaw04_DataParts.j3 kj12 l0 a1 l2 true))) else (mummerlaw04_DataParts.j3 kj12 l0 a1 l2 true)) else (mummerlaw04_DataParts.j3 kj12 l0 a1 l2 true))) = some r := H
                  have A23 := Aside0.mk A230
                  clear A230
                  have HC24 := Aside0.mk H
                  clear H
                  go_upto_region 14 with (first | ((with_reducible refine gate_callee (f := 22) rfl ?_); refine goesL_ (some 57) rfl rfl Tryd.func22 (by kernel_rfl) rfl #[.slice A0 l0.length c0, .int .i64 a1] rfl (by (try simp only [List.map_toArray, List.map_cons, List.map_nil]); first | done | rfl | (simp only [List.length_drop, List.length_take]; rfl)) ?_; (with_reducible refine (data_Sub.calls kj12 _ _ l0 a1 t383 t384 _ ?side1 ?side2 ?side3 A20.out).mono ?_); (case side1 => repeat (first | exact (Kd.C_below HR0.out HB.out) | (with_reducible refine Kd.C_alloc ?_ _) | (with_reducible refine Kd.C_drewN ?_ _) | (with_reducible refine Kd.C_drew ?_))); (case side2 => exact HC0.out); (case side3 => exact G0_keep HGl.out (by repeat (first | (with_reducible first | exact HB.out | apply below_alloc | apply pw_below_drewN | apply below_drew1) | exact HB.out))); rintro e w25 ⟨v385, rfl, ho0, hb⟩; refine ⟨_, rfl, ?_⟩; have n0_ := Aside0.mk (Kd.R_lower ho0 (below_size (by repeat (first | (with_reducible first | exact HB.out | apply below_alloc | apply pw_below_drewN | apply below_drew1) | exact HB.out)))); have n1_ := Aside0.mk (below_step (by repeat (first | (with_reducible first | exact HB.out | apply below_alloc | apply pw_below_drewN | apply below_drew1) | exact HB.out)) hb); clear HB; have HO386 := n0_; have HB := n1_; clear n0_ n1_; (try clear hb); (try clear hb2); (try clear hk); (try clear hi); (try clear ho0)) | ((with_reducible refine gate_callee (f := 25) rfl ?_); refine goesL_ (some 63) rfl rfl Tryd.func25 (by kernel_rfl) rfl #[.slice A0 l0.length c0, .int .i64 a1] rfl (by (try simp only [List.map_toArray, List.map_cons, List.map_nil]); first | done | rfl | (simp only [List.length_drop, List.length_take]; rfl)) ?_; (with_reducible refine (mummerref04_Sub.calls kj12 _ _ l0 a1 t387 t388 _ ?side1 ?side2 A21.out).mono ?_); (case side1 => repeat (first | exact (Kd.C_below HR0.out HB.out) | (with_reducible refine Kd.C_alloc ?_ _) | (with_reducible refine Kd.C_drewN ?_ _) | (with_reducible refine Kd.C_drew ?_))); (case side2 => exact HC0.out); rintro e w26 ⟨v389, rfl, ho0, hb⟩; refine ⟨_, rfl, ?_⟩; have n0_ := Aside0.mk (Kd.R_elder' (by (with_reducible repeat (first | apply Kd.R_alloc | apply Kd.R_drewN | apply Kd.R_drew)); exact HO386.out) (Kd.R_base ho0) hb); have n1_ := Aside0.mk (Kd.R_lower (Kd.R_new' ho0 (Kd.R_lt (by (with_reducible repeat (first | apply Kd.R_alloc | apply Kd.R_drewN | apply Kd.R_drew)); exact HO386.out))) (below_size (by repeat (first | (with_reducible first | exact HB.out | apply below_alloc | apply pw_below_drewN | apply below_drew1) | exact HB.out)))); have n2_ := Aside0.mk (below_step (by repeat (first | (with_reducible first | exact HB.out | apply below_alloc | apply pw_below_drewN | apply below_drew1) | exact HB.out)) hb); clear HO386; clear HB; have HO386 := n0_; have HO390 := n1_; have HB := n2_; clear n0_ n1_ n2_; (try clear hb); (try clear hb2); (try clear hk); (try clear hi); (try clear ho0)) | ((with_reducible refine gate_callee (f := 26) rfl ?_); refine goesL_ (some 68) rfl rfl Tryd.func26 (by kernel_rfl) rfl #[.slice A2 l2.length c2] rfl (by (try simp only [List.map_toArray, List.map_cons, List.map_nil]); first | done | rfl | (simp only [List.length_drop, List.length_take]; rfl)) ?_; (with_reducible refine (data_List.calls kj12 _ _ l2 t391 t394 _ ?side1 ?side2 ?side3 A22.out).mono ?_); (case side1 => repeat (first | exact (Kd.C_below HR2.out HB.out) | (with_reducible refine Kd.C_alloc ?_ _) | (with_reducible refine Kd.C_drewN ?_ _) | (with_reducible refine Kd.C_drew ?_))); (case side2 => exact HC2.out); (case side3 => exact G0_keep HGl.out (by repeat (first | (with_reducible first | exact HB.out | apply below_alloc | apply pw_below_drewN | apply below_drew1) | exact HB.out))); rintro e w27 ⟨v392, rfl, ho0, hb⟩; refine ⟨_, rfl, ?_⟩; have n0_ := Aside0.mk (Kd.R_below (by (with_reducible repeat (first | apply Kd.R_alloc | apply Kd.R_drewN | apply Kd.R_drew)); exact HO386.out) hb); have n1_ := Aside0.mk (Kd.R_below (by (with_reducible repeat (first | apply Kd.R_alloc | apply Kd.R_drewN | apply Kd.R_drew)); exact HO390.out) hb); have n2_ := Aside0.mk (Kd.V_lower (Kd.V_mono (ok' := fun k_ => some k_ ≠ (v385 : Value).ownBlock ∧ some k_ ≠ (v389 : Value).ownBlock) ho0 (fun k_ hk_ => ⟨(Kd.fresh' (Kd.R_lt (by (with_reducible repeat (first | apply Kd.R_alloc | apply Kd.R_drewN | apply Kd.R_drew)); exact HO386.out)) k_ hk_), (Kd.fresh' (Kd.R_lt (by (with_reducible repeat (first | apply Kd.R_alloc | apply Kd.R_drewN | apply Kd.R_drew)); exact HO390.out)) k_ hk_)⟩)) (below_size (by repeat (first | (with_reducible first | exact HB.out | apply below_alloc | apply pw_below_drewN | apply below_drew1) | exact HB.out)))); have n3_ := Aside0.mk (below_step (by repeat (first | (with_reducible first | exact HB.out | apply below_alloc | apply pw_below_drewN | apply below_drew1) | exact HB.out)) hb); clear HO386; clear HO390; clear HB; have HO386 := n0_; have HO390 := n1_; have HO393 := n2_; have HB := n3_; clear n0_ n1_ n2_ n3_; (try clear hb); (try clear hb2); (try clear hk); (try clear hi); (try clear ho0)) | ((with_reducible refine gate_callee (f := 27) rfl ?_); refine goesL_ (some 73) rfl rfl Tryd.func27 (by kernel_rfl) rfl #[.slice A2 l2.length c2] rfl (by (try simp only [List.map_toArray, List.map_cons, List.map_nil]); first | done | rfl | (simp only [List.length_drop, List.length_take]; rfl)) ?_; (with_reducible refine (mummerref04_List.calls kj12 _ _ l2 t395 t398 _ ?side1 ?side2 A23.out).mono ?_); (case side1 => repeat (first | exact (Kd.C_below HR2.out HB.out) | (with_reducible refine Kd.C_alloc ?_ _) | (with_reducible refine Kd.C_drewN ?_ _) | (with_reducible refine Kd.C_drew ?_))); (case side2 => exact HC2.out); rintro e w28 ⟨v396, rfl, ho0, hb⟩; refine ⟨_, rfl, ?_⟩; have n0_ := Aside0.mk (Kd.R_below (by (with_reducible repeat (first | apply Kd.R_alloc | apply Kd.R_drewN | apply Kd.R_drew)); exact HO386.out) hb); have n1_ := Aside0.mk (Kd.R_below (by (with_reducible repeat (first | apply Kd.R_alloc | apply Kd.R_drewN | apply Kd.R_drew)); exact HO390.out) hb); have n2_ := Aside0.mk (Kd.V_below (by (with_reducible repeat (first | apply Kd.V_alloc | apply Kd.V_drewN | apply Kd.V_drew)); exact HO393.out) hb); have n3_ := Aside0.mk (Kd.V_lower (Kd.V_mono (ok' := fun k_ => some k_ ≠ (v385 : Value).ownBlock ∧ some k_ ≠ (v389 : Value).ownBlock) ho0 (fun k_ hk_ => ⟨(Kd.fresh' (Kd.R_lt (by (with_reducible repeat (first | apply Kd.R_alloc | apply Kd.R_drewN | apply Kd.R_drew)); exact HO386.out)) k_ hk_), (Kd.fresh' (Kd.R_lt (by (with_reducible repeat (first | apply Kd.R_alloc | apply Kd.R_drewN | apply Kd.R_drew)); exact HO390.out)) k_ hk_)⟩)) (below_size (by repeat (first | (with_reducible first | exact HB.out | apply below_alloc | apply pw_below_drewN | apply below_drew1) | exact HB.out)))); have n4_ := Aside0.mk (below_step (by repeat (first | (with_reducible first | exact HB.out | apply below_alloc | apply pw_below_drewN | apply below_drew1) | exact HB.out)) hb); clear HO386; clear HO390; clear HO393; clear HB; have HO386 := n0_; have HO390 := n1_; have HO393 := n2_; have HO397 := n3_; have HB := n4_; clear n0_ n1_ n2_ n3_ n4_; (try clear hb); (try clear hb2); (try clear hk); (try clear hi); (try clear ho0)))
                  (try simp only [Act.put, List.setIfInBounds_toArray, List.set_cons_zero, List.set_cons_succ])
                  go_cut [95] (fun v95 wc => ∃ (kq : Nat) (x95_23 : Bool), v95 = .bool x95_23 ∧ Aside0 (mummerlaw04_DataParts.j3 kq l0 a1 l2 x95_23 = some r) ∧ Aside0 (kq ≤ kj12) ∧ Aside0 (Below w.heap.size w wc))
                  case first =>
                    have H := HC24.out
                    clear HC24
                    replace H := Option.bind_eq_some_iff.mp H
                    obtain ⟨t399, A290, H⟩ := H
                    replace H : (if t399 = true then (if t384 = t388 then ((mummerref04_Same.f kj12 t391 t395).bind fun t400 => (if t400 = true then (mummerlaw04_DataParts.j3 kj12 l0 a1 l2 (t394 != t398)) else (mummerlaw04_DataParts.j3 kj12 l0 a1 l2 true))) else (mummerlaw04_DataParts.j3 kj12 l0 a1 l2 true)) else (mummerlaw04_DataParts.j3 kj12 l0 a1 l2 true)) = some r := H
                    have A29 := Aside0.mk A290
                    clear A290
                    by_cases c30 : t399 = true
                    · subst c30
                      have H1 : (if t384 = t388 then ((mummerref04_Same.f kj12 t391 t395).bind fun t400 => (if t400 = true then (mummerlaw04_DataParts.j3 kj12 l0 a1 l2 (t394 != t398)) else (mummerlaw04_DataParts.j3 kj12 l0 a1 l2 true))) else (mummerlaw04_DataParts.j3 kj12 l0 a1 l2 true)) = some r := by rw [if_pos rfl] at H; exact H
                      clear H
                      have H := H1
                      clear H1
                      by_cases c31 : t384 = t388
                      · rw [if_pos c31] at H
                        have c31b0 : (t384 == t388) = true := beq_iff_eq.mpr c31
                        have c31b1 : (t384 != t388) = false := bne_eq_false_iff_eq.mpr c31
                        clear c31
                        (first | rw [c31b0] | (simp only [i64_w, i32_w]; rw [c31b0]) | skip)
                        replace H := Option.bind_eq_some_iff.mp H
                        obtain ⟨t400, A320, H⟩ := H
                        replace H : (if t400 = true then (mummerlaw04_DataParts.j3 kj12 l0 a1 l2 (t394 != t398)) else (mummerlaw04_DataParts.j3 kj12 l0 a1 l2 true)) = some r := H
                        have A32 := Aside0.mk A320
                        clear A320
                        by_cases c33 : t400 = true
                        · subst c33
                          have H1 : (mummerlaw04_DataParts.j3 kj12 l0 a1 l2 (t394 != t398)) = some r := by rw [if_pos rfl] at H; exact H
                          clear H
                          have H := H1
                          clear H1
                          have H' := Aside0.mk H
                          clear H
                          obtain ⟨Ao34, co34, eo34⟩ := Kd.R_slice HO386.out
                          subst eo34
                          obtain ⟨Ao35, co35, eo35⟩ := Kd.R_slice HO390.out
                          subst eo35
                          go_wp2_with (first | ((with_reducible refine gate_callee (f := 24) rfl ?_); refine goesL_ (some 78) rfl rfl Tryd.func24 (by kernel_rfl) rfl #[.slice Ao34 t383.length co34, .slice Ao35 t387.length co35] rfl (by (try simp only [List.map_toArray, List.map_cons, List.map_nil]); first | done | rfl | (simp only [List.length_drop, List.length_take]; rfl)) ?_; (with_reducible refine (mummerref04_Same.calls kj12 _ _ t383 _ _ t387 true _ ?side1 ?side2 ?side3 ?side4 A29.out).mono ?_); (case side1 => repeat (first | exact (Kd.R_reads' HO386.out).2.2 | (with_reducible refine Kd.C_alloc ?_ _) | (with_reducible refine Kd.C_drewN ?_ _) | (with_reducible refine Kd.C_drew ?_))); (case side2 => exact (Kd.R_reads' HO386.out).2.1); (case side3 => repeat (first | exact (Kd.R_reads' HO390.out).2.2 | (with_reducible refine Kd.C_alloc ?_ _) | (with_reducible refine Kd.C_drewN ?_ _) | (with_reducible refine Kd.C_drew ?_))); (case side4 => exact (Kd.R_reads' HO390.out).2.1); rintro e w' ⟨rfl, ⟨nd, rfl⟩⟩; refine ⟨_, rfl, ?_⟩; obtain ⟨Ao36, co36, eo36⟩ := Kd.V_slice HO393.out; subst eo36; obtain ⟨Ao37, co37, eo37⟩ := Kd.V_slice HO397.out; subst eo37) | (go_at_call 24; (with_reducible refine (mummerref04_Same.calls kj12 _ _ t391 _ _ t395 true _ ?side1 ?side2 ?side3 ?side4 A32.out).mono ?_); (case side1 => repeat (first | exact (Kd.V_reads' HO393.out).2.2 | (with_reducible refine Kd.C_alloc ?_ _) | (with_reducible refine Kd.C_drewN ?_ _) | (with_reducible refine Kd.C_drew ?_))); (case side2 => exact (Kd.V_reads' HO393.out).2.1); (case side3 => repeat (first | exact (Kd.V_reads' HO397.out).2.2 | (with_reducible refine Kd.C_alloc ?_ _) | (with_reducible refine Kd.C_drewN ?_ _) | (with_reducible refine Kd.C_drew ?_))); (case side4 => exact (Kd.V_reads' HO397.out).2.1); rintro e w' ⟨rfl, ⟨nd, rfl⟩⟩))
                          go_meet
                          case rel => exact ⟨_, ((t394 != t398)), (by first | rfl | (simp; done) | (simp [*]; done)), H', ⟨by have := HK1.out; have := HJ3.out; have := HJ12.out; first | omega | exact Nat.le_refl _⟩, ⟨by repeat (first | (with_reducible first | exact HB.out | apply below_alloc | apply pw_below_drewN | apply below_drew1) | exact HB.out)⟩⟩
                        · replace c33 := Bool.eq_false_iff.mpr c33
                          subst c33
                          have H1 : (mummerlaw04_DataParts.j3 kj12 l0 a1 l2 true) = some r := by rw [if_neg (show ¬ (false = true) by decide)] at H; exact H
                          clear H
                          have H := H1
                          clear H1
                          have H' := Aside0.mk H
                          clear H
                          obtain ⟨Ao38, co38, eo38⟩ := Kd.R_slice HO386.out
                          subst eo38
                          obtain ⟨Ao39, co39, eo39⟩ := Kd.R_slice HO390.out
                          subst eo39
                          go_wp2_with (first | ((with_reducible refine gate_callee (f := 24) rfl ?_); refine goesL_ (some 78) rfl rfl Tryd.func24 (by kernel_rfl) rfl #[.slice Ao38 t383.length co38, .slice Ao39 t387.length co39] rfl (by (try simp only [List.map_toArray, List.map_cons, List.map_nil]); first | done | rfl | (simp only [List.length_drop, List.length_take]; rfl)) ?_; (with_reducible refine (mummerref04_Same.calls kj12 _ _ t383 _ _ t387 true _ ?side1 ?side2 ?side3 ?side4 A29.out).mono ?_); (case side1 => repeat (first | exact (Kd.R_reads' HO386.out).2.2 | (with_reducible refine Kd.C_alloc ?_ _) | (with_reducible refine Kd.C_drewN ?_ _) | (with_reducible refine Kd.C_drew ?_))); (case side2 => exact (Kd.R_reads' HO386.out).2.1); (case side3 => repeat (first | exact (Kd.R_reads' HO390.out).2.2 | (with_reducible refine Kd.C_alloc ?_ _) | (with_reducible refine Kd.C_drewN ?_ _) | (with_reducible refine Kd.C_drew ?_))); (case side4 => exact (Kd.R_reads' HO390.out).2.1); rintro e w' ⟨rfl, ⟨nd, rfl⟩⟩; refine ⟨_, rfl, ?_⟩; obtain ⟨Ao40, co40, eo40⟩ := Kd.V_slice HO393.out; subst eo40; obtain ⟨Ao41, co41, eo41⟩ := Kd.V_slice HO397.out; subst eo41) | (go_at_call 24; (with_reducible refine (mummerref04_Same.calls kj12 _ _ t391 _ _ t395 false _ ?side1 ?side2 ?side3 ?side4 A32.out).mono ?_); (case side1 => repeat (first | exact (Kd.V_reads' HO393.out).2.2 | (with_reducible refine Kd.C_alloc ?_ _) | (with_reducible refine Kd.C_drewN ?_ _) | (with_reducible refine Kd.C_drew ?_))); (case side2 => exact (Kd.V_reads' HO393.out).2.1); (case side3 => repeat (first | exact (Kd.V_reads' HO397.out).2.2 | (with_reducible refine Kd.C_alloc ?_ _) | (with_reducible refine Kd.C_drewN ?_ _) | (with_reducible refine Kd.C_drew ?_))); (case side4 => exact (Kd.V_reads' HO397.out).2.1); rintro e w' ⟨rfl, ⟨nd, rfl⟩⟩))
                          go_meet
                          case rel => exact ⟨_, (true), (by first | rfl | (simp; done) | (simp [*]; done)), H', ⟨by have := HK1.out; have := HJ3.out; have := HJ12.out; first | omega | exact Nat.le_refl _⟩, ⟨by repeat (first | (with_reducible first | exact HB.out | apply below_alloc | apply pw_below_drewN | apply below_drew1) | exact HB.out)⟩⟩
                      · rw [if_neg c31] at H
                        have c31b0 : (t384 == t388) = false := beq_eq_false_iff_ne.mpr c31
                        have c31b1 : (t384 != t388) = true := bne_iff_ne.mpr c31
                        (first | rw [c31b0] | (simp only [i64_w, i32_w]; rw [c31b0]) | skip)
                        have H' := Aside0.mk H
                        clear H
                        obtain ⟨Ao42, co42, eo42⟩ := Kd.R_slice HO386.out
                        subst eo42
                        obtain ⟨Ao43, co43, eo43⟩ := Kd.R_slice HO390.out
                        subst eo43
                        go_wp2_with (first | ((with_reducible refine gate_callee (f := 24) rfl ?_); refine goesL_ (some 78) rfl rfl Tryd.func24 (by kernel_rfl) rfl #[.slice Ao42 t383.length co42, .slice Ao43 t387.length co43] rfl (by (try simp only [List.map_toArray, List.map_cons, List.map_nil]); first | done | rfl | (simp only [List.length_drop, List.length_take]; rfl)) ?_; (with_reducible refine (mummerref04_Same.calls kj12 _ _ t383 _ _ t387 true _ ?side1 ?side2 ?side3 ?side4 A29.out).mono ?_); (case side1 => repeat (first | exact (Kd.R_reads' HO386.out).2.2 | (with_reducible refine Kd.C_alloc ?_ _) | (with_reducible refine Kd.C_drewN ?_ _) | (with_reducible refine Kd.C_drew ?_))); (case side2 => exact (Kd.R_reads' HO386.out).2.1); (case side3 => repeat (first | exact (Kd.R_reads' HO390.out).2.2 | (with_reducible refine Kd.C_alloc ?_ _) | (with_reducible refine Kd.C_drewN ?_ _) | (with_reducible refine Kd.C_drew ?_))); (case side4 => exact (Kd.R_reads' HO390.out).2.1); rintro e w' ⟨rfl, ⟨nd, rfl⟩⟩; refine ⟨_, rfl, ?_⟩))
                        go_meet
                        case rel => exact ⟨_, (true), (by first | rfl | (simp; done) | (simp [*]; done)), H', ⟨by have := HK1.out; have := HJ3.out; have := HJ12.out; first | omega | exact Nat.le_refl _⟩, ⟨by repeat (first | (with_reducible first | exact HB.out | apply below_alloc | apply pw_below_drewN | apply below_drew1) | exact HB.out)⟩⟩
                    · replace c30 := Bool.eq_false_iff.mpr c30
                      subst c30
                      have H1 : (mummerlaw04_DataParts.j3 kj12 l0 a1 l2 true) = some r := by rw [if_neg (show ¬ (false = true) by decide)] at H; exact H
                      clear H
                      have H := H1
                      clear H1
                      have H' := Aside0.mk H
                      clear H
                      obtain ⟨Ao44, co44, eo44⟩ := Kd.R_slice HO386.out
                      subst eo44
                      obtain ⟨Ao45, co45, eo45⟩ := Kd.R_slice HO390.out
                      subst eo45
                      go_wp2_with (first | ((with_reducible refine gate_callee (f := 24) rfl ?_); refine goesL_ (some 78) rfl rfl Tryd.func24 (by kernel_rfl) rfl #[.slice Ao44 t383.length co44, .slice Ao45 t387.length co45] rfl (by (try simp only [List.map_toArray, List.map_cons, List.map_nil]); first | done | rfl | (simp only [List.length_drop, List.length_take]; rfl)) ?_; (with_reducible refine (mummerref04_Same.calls kj12 _ _ t383 _ _ t387 false _ ?side1 ?side2 ?side3 ?side4 A29.out).mono ?_); (case side1 => repeat (first | exact (Kd.R_reads' HO386.out).2.2 | (with_reducible refine Kd.C_alloc ?_ _) | (with_reducible refine Kd.C_drewN ?_ _) | (with_reducible refine Kd.C_drew ?_))); (case side2 => exact (Kd.R_reads' HO386.out).2.1); (case side3 => repeat (first | exact (Kd.R_reads' HO390.out).2.2 | (with_reducible refine Kd.C_alloc ?_ _) | (with_reducible refine Kd.C_drewN ?_ _) | (with_reducible refine Kd.C_drew ?_))); (case side4 => exact (Kd.R_reads' HO390.out).2.1); rintro e w' ⟨rfl, ⟨nd, rfl⟩⟩; refine ⟨_, rfl, ?_⟩))
                      go_meet
                      case rel => exact ⟨_, (true), (by first | rfl | (simp; done) | (simp [*]; done)), H', ⟨by have := HK1.out; have := HJ3.out; have := HJ12.out; first | omega | exact Nat.le_refl _⟩, ⟨by repeat (first | (with_reducible first | exact HB.out | apply below_alloc | apply pw_below_drewN | apply below_drew1) | exact HB.out)⟩⟩
                  case rest =>
                    clear HC24
                    try clear c1
                    try clear c2
                    try clear p2
                    try clear c3
                    try clear p3
                    try clear q3
                    try clear hx3
                    try clear c5
                    try clear c5b0
                    try clear c6
                    try clear p6
                    try clear c7
                    try clear c7b0
                    try clear c8
                    try clear c8b0
                    try clear c10
                    try clear c12
                    try clear c13
                    try clear c15
                    try clear c16
                    try clear c16b0
                    try clear c16b1
                    try clear c17
                    try clear c22
                    try clear c24
                    try clear c25
                    try clear c26
                    try clear c27
                    try clear c30
                    try clear c31
                    try clear c31b0
                    try clear c31b1
                    try clear c33
                    try clear c37
                    try clear p37
                    try clear q37
                    try clear hx37
                    try clear hx377_0
                    try clear hx378_0
                    try clear p2
                    try clear p3
                    try clear p377
                    try clear p378
                    try clear p6
                    try clear q3
                    try clear q377
                    try clear q378
                    obtain ⟨kq, x95_23, rfl, HA, HJ23, HB⟩ := hcut
                    cases kq with
                    | zero => exact absurd HA.out (by simp [mummerlaw04_DataParts.j3])
                    | succ kj23 =>
                      have H := HA.out
                      clear HA
                      simp only [mummerlaw04_DataParts.j3] at H
                      by_cases c46 : x95_23 = true
                      · subst c46
                        have H1 : (none) = some r := by rw [if_pos rfl] at H; exact H
                        clear H
                        have H := H1
                        clear H1
                        exact absurd H (by simp)
                      · replace c46 := Bool.eq_false_iff.mpr c46
                        subst c46
                        have H1 : (if (l2.length : Int) > 0 then (if 0 < (l2.length : Int) then ((some (([] : List (S51)) : List (S51))).bind fun y402 => (if y402.length + l0.length < 3518437208883 then ((data_Put.f l0 a1 (rd_L3 l2 0)).bind fun bt408 => ((mummerref04_Put.f kj23 l0 a1 (rd_L3 l2 0)).bind fun bt412 => ((mummerref04_Same.f kj23 bt408.1 bt412.1).bind fun t416 => (if t416 = true then (if bt408.2 = bt412.2 then ((mummerref04_Same.f kj23 l0 (y402 ++ l0)).bind fun t417 => (if t417 = true then ((mummerlaw04_shown.f kj23).bind fun t418 => (some t418)) else (none))) else (none)) else (none))))) else (none))) else (none)) else ((some (([] : List (S51)) : List (S51))).bind fun y419 => (if y419.length + l0.length < 3518437208883 then ((data_Put.f l0 a1 ([] : List (S51))).bind fun bt425 => ((mummerref04_Put.f kj23 l0 a1 ([] : List (S51))).bind fun bt429 => ((mummerref04_Same.f kj23 bt425.1 bt429.1).bind fun t433 => (if t433 = true then (if bt425.2 = bt429.2 then ((mummerref04_Same.f kj23 l0 (y419 ++ l0)).bind fun t434 => (if t434 = true then ((mummerlaw04_shown.f kj23).bind fun t435 => (some t435)) else (none))) else (none)) else (none))))) else (none)))) = some r := by rw [if_neg (show ¬ (false = true) by decide)] at H; exact H
                        clear H
                        have H := H1
                        clear H1
                        by_cases c47 : (l2.length : Int) > 0
                        · rw [if_pos c47] at H
                          have c47b0 : decide (0 < (l2.length : Int)) = true := decide_eq_true c47
                          have c47b1 : decide (0 < l2.length) = true := decide_eq_true (by omega)
                          clear c47
                          by_cases c48 : 0 < (l2.length : Int)
                          · rw [if_pos c48] at H
                            have c48b0 : decide (0 < (l2.length : Int)) = true := decide_eq_true c48
                            have c48b1 : decide (0 < l2.length) = true := decide_eq_true (by omega)
                            clear c48
                            obtain ⟨y402, hy402⟩ : ∃ y_ : List (S51), y_ = (([] : List (S51))) := ⟨_, rfl⟩
                            replace H : (if y402.length + l0.length < 3518437208883 then ((data_Put.f l0 a1 (rd_L3 l2 0)).bind fun bt408 => ((mummerref04_Put.f kj23 l0 a1 (rd_L3 l2 0)).bind fun bt412 => ((mummerref04_Same.f kj23 bt408.1 bt412.1).bind fun t416 => (if t416 = true then (if bt408.2 = bt412.2 then ((mummerref04_Same.f kj23 l0 (y402 ++ l0)).bind fun t417 => (if t417 = true then ((mummerlaw04_shown.f kj23).bind fun t418 => (some t418)) else (none))) else (none)) else (none))))) else (none)) = some r := by first | (rw [hy402]; with_reducible exact H) | (have H2_ := (Option.bind_some _ _).symm.trans H; rw [hy402]; with_reducible exact H2_) | (have H2_ := (Option.bind_some _ _).symm.trans H; with_reducible exact H2_) | with_reducible exact H | (rw [hy402]; exact H) | exact H
                            have Ny402 := Aside0.mk hy402
                            clear hy402
                            by_cases c49 : y402.length + l0.length < 3518437208883
                            · rw [if_pos c49] at H
                              have LMc49 := Aside0.mk c49
                              clear c49
                              obtain ⟨y405, hy405⟩ : ∃ y_ : List (S51), y_ = (y402 ++ l0) := ⟨_, rfl⟩
                              replace H : ((data_Put.f l0 a1 (rd_L3 l2 0)).bind fun bt408 => ((mummerref04_Put.f kj23 l0 a1 (rd_L3 l2 0)).bind fun bt412 => ((mummerref04_Same.f kj23 bt408.1 bt412.1).bind fun t416 => (if t416 = true then (if bt408.2 = bt412.2 then ((mummerref04_Same.f kj23 l0 y405).bind fun t417 => (if t417 = true then ((mummerlaw04_shown.f kj23).bind fun t418 => (some t418)) else (none))) else (none)) else (none))))) = some r := by first | (rw [hy405]; with_reducible exact H) | (have H2_ := (Option.bind_some _ _).symm.trans H; rw [hy405]; with_reducible exact H2_) | (have H2_ := (Option.bind_some _ _).symm.trans H; with_reducible exact H2_) | with_reducible exact H | (rw [hy405]; exact H) | exact H
                              have Ny405 := Aside0.mk hy405
                              clear hy405
                              replace H := Option.bind_eq_some_iff.mp H
                              obtain ⟨⟨t408, t409⟩, A500, H⟩ := H
                              replace H : ((mummerref04_Put.f kj23 l0 a1 (rd_L3 l2 0)).bind fun bt412 => ((mummerref04_Same.f kj23 t408 bt412.1).bind fun t416 => (if t416 = true then (if t409 = bt412.2 then ((mummerref04_Same.f kj23 l0 y405).bind fun t417 => (if t417 = true then ((mummerlaw04_shown.f kj23).bind fun t418 => (some t418)) else (none))) else (none)) else (none)))) = some r := H
                              have A50 := Aside0.mk A500
                              clear A500
                              replace H := Option.bind_eq_some_iff.mp H
                              obtain ⟨⟨t412, t415⟩, A510, H⟩ := H
                              replace H : ((mummerref04_Same.f kj23 t408 t412).bind fun t416 => (if t416 = true then (if t409 = t415 then ((mummerref04_Same.f kj23 l0 y405).bind fun t417 => (if t417 = true then ((mummerlaw04_shown.f kj23).bind fun t418 => (some t418)) else (none))) else (none)) else (none))) = some r := H
                              have A51 := Aside0.mk A510
                              clear A510
                              replace H := Option.bind_eq_some_iff.mp H
                              obtain ⟨t416, A520, H⟩ := H
                              replace H : (if t416 = true then (if t409 = t415 then ((mummerref04_Same.f kj23 l0 y405).bind fun t417 => (if t417 = true then ((mummerlaw04_shown.f kj23).bind fun t418 => (some t418)) else (none))) else (none)) else (none)) = some r := H
                              have A52 := Aside0.mk A520
                              clear A520
                              by_cases c53 : t416 = true
                              · subst c53
                                have H1 : (if t409 = t415 then ((mummerref04_Same.f kj23 l0 y405).bind fun t417 => (if t417 = true then ((mummerlaw04_shown.f kj23).bind fun t418 => (some t418)) else (none))) else (none)) = some r := by rw [if_pos rfl] at H; exact H
                                clear H
                                have H := H1
                                clear H1
                                by_cases c54 : t409 = t415
                                · rw [if_pos c54] at H
                                  have c54b0 : (t409 == t415) = true := beq_iff_eq.mpr c54
                                  have c54b1 : (t409 != t415) = false := bne_eq_false_iff_eq.mpr c54
                                  clear c54
                                  replace H := Option.bind_eq_some_iff.mp H
                                  obtain ⟨t417, A550, H⟩ := H
                                  replace H : (if t417 = true then ((mummerlaw04_shown.f kj23).bind fun t418 => (some t418)) else (none)) = some r := H
                                  have A55 := Aside0.mk A550
                                  clear A550
                                  by_cases c56 : t417 = true
                                  · subst c56
                                    have H1 : ((mummerlaw04_shown.f kj23).bind fun t418 => (some t418)) = some r := by rw [if_pos rfl] at H; exact H
                                    clear H
                                    have H := H1
                                    clear H1
                                    replace H := Option.bind_eq_some_iff.mp H
                                    obtain ⟨t418, A570, H⟩ := H
                                    replace H : (some t418) = some r := H
                                    have A57 := Aside0.mk A570
                                    clear A570
                                    obtain rfl := Option.some.inj H
                                    have p401 : 0 ≤ (0 : Int) := (by omega)
                                    have q401 : 0 < (l2.length : Int) := of_decide_eq_true (by first | (with_reducible assumption) | assumption)
                                    obtain ⟨ad401, A401_0, c401_0, e401, hx401_0, hl401_0, hi401_0⟩ := at_L3 HR2.out 0 p401 q401
                                    cases e401
                                    have qi401 : (0 < l2.length) = True := eq_true (by omega)
                                    (try rw [show ((0 : Int)).toNat = 0 from rfl] at hx401_0)
                                    (try rw [Addr.add_zero'] at hx401_0)
                                    replace hx401_0 := (HB.out.cell (World.block_lt_of_cell? w _ hx401_0)).trans hx401_0
                                    have HR401_0 := Aside0.mk hi401_0
                                    have HC401_0 := Aside0.mk hl401_0
                                    clear hi401_0 hl401_0
                                    replace p401 := eq_true p401
                                    replace q401 := eq_true q401
                                    go_wp2_with (first | ((with_reducible refine gate_dst (N := 102) rfl ?_); (try (refine gate_guard (by rfl) ?_; dsimp only)); refine Kd.R_lit k51 _ 51 ?hg (N := 102) ?hd (xs := ([] : List (S51))) (inner := []) (ok := fun _ => True) (okp := fun _ => True) ?hr ?hp (fun _ hk => hk) trivial (Below.refl _ _) (Nat.le_refl _) (by simp) ?_; (case hd => rfl); (case hg => rfl); (case hr => first | (go_simp; done) | (go_simp; rfl)); (case hp => exact (Reps.none _ _)); intro v403 w58 ho59 hb hg_ hnew_; clear hg_ hnew_; (first | rw [← Ny402.out] at ho59 | (simp only [Int.reduceToNat] at ho59; rw [← Ny402.out] at ho59)); have n0_ := Aside0.mk (Kd.R_lower ho59 (below_size (by repeat (first | (with_reducible first | exact HB.out | apply below_alloc | apply pw_below_drewN | apply below_drew1) | exact HB.out)))); have n1_ := Aside0.mk (below_step (by repeat (first | (with_reducible first | exact HB.out | apply below_alloc | apply pw_below_drewN | apply below_drew1) | exact HB.out)) hb); clear HB; have HO404 := n0_; have HB := n1_; clear n0_ n1_; clear hb ho59) | ((with_reducible refine gate_builtin (b := .append) (xs := #[.tmp 102, .tmp 103]) rfl ?_); (try (refine gate_guard (by rfl) ?_; dsimp only)); at_builtin; refine Kd.R_append_rows k51 (w0 := w) w.heap.size rfl (.tmp 102) (.tmp 103) 22 51 (.agg #[(.int .i64 0), (.int .i64 0), (.int .i64 0), (.string ⟨#[]⟩)]) 40 rfl Tryd.underlying22 info51 rfl (by decide) (by omega) v403 y402 l0 _ _ _ (fun _ => True) (fun _ => False) rfl rfl ?aO ?aR (fun _ _ h => h) (fun _ h => h.elim) ?aF ?aB ?aS ?aL ?_; (case aR => repeat (first | exact (Kd.C_below HR0.out HB.out) | (with_reducible refine Kd.C_alloc ?_ _) | (with_reducible refine Kd.C_drewN ?_ _) | (with_reducible refine Kd.C_drew ?_))); (case aB => exact (by repeat (first | (with_reducible first | exact HB.out | apply below_alloc | apply pw_below_drewN | apply below_drew1) | exact HB.out))); (case aF => exact (fun _ _ => trivial)); (case aO => exact (by (with_reducible repeat (first | apply Kd.R_alloc | apply Kd.R_drewN | apply Kd.R_drew)); exact HO404.out)); (case aS => exact (below_size (by repeat (first | (with_reducible first | exact HB.out | apply below_alloc | apply pw_below_drewN | apply below_drew1) | exact HB.out)))); (case aL => have := LMc49.out; omega); intro v406 w60 ho hb hg hat; rw [← Ny405.out] at ho; have n0_ := Aside0.mk (hb); have n1_ := Aside0.mk (ho); clear HB; clear HO404; have HB := n0_; have HO407 := n1_; clear n0_ n1_; clear ho hb hg hat) | ((with_reducible refine gate_callee (f := 21) rfl ?_); refine goesL_ (some 109) rfl rfl Tryd.func21 (by kernel_rfl) rfl #[.slice A0 l0.length c0, .int .i64 a1, .slice A401_0 (rd_L3 l2 0).length c401_0] rfl (by (try simp only [List.map_toArray, List.map_cons, List.map_nil]); first | done | rfl | (simp only [List.length_drop, List.length_take]; rfl)) ?_; (with_reducible refine (data_Put.calls _ _ l0 a1 _ _ (rd_L3 l2 0) t408 t409 _ ?side1 ?side2 ?side3 ?side4 ?side5 A50.out).mono ?_); (case side1 => repeat (first | exact (Kd.C_below HR0.out HB.out) | (with_reducible refine Kd.C_alloc ?_ _) | (with_reducible refine Kd.C_drewN ?_ _) | (with_reducible refine Kd.C_drew ?_))); (case side2 => exact HC0.out); (case side3 => repeat (first | exact (Kd.C_below HR401_0.out HB.out) | (with_reducible refine Kd.C_alloc ?_ _) | (with_reducible refine Kd.C_drewN ?_ _) | (with_reducible refine Kd.C_drew ?_))); (case side4 => exact HC401_0.out); (case side5 => exact G0_keep HGl.out (by repeat (first | (with_reducible first | exact HB.out | apply below_alloc | apply pw_below_drewN | apply below_drew1) | exact HB.out))); rintro e w61 ⟨v410, rfl, ho0, hb⟩; refine ⟨_, rfl, ?_⟩; have n0_ := Aside0.mk (Kd.R_elder' (by (with_reducible repeat (first | apply Kd.R_alloc | apply Kd.R_drewN | apply Kd.R_drew)); exact HO407.out) (Kd.R_base ho0) hb); have n1_ := Aside0.mk (Kd.R_lower (Kd.R_new' ho0 (Kd.R_lt (by (with_reducible repeat (first | apply Kd.R_alloc | apply Kd.R_drewN | apply Kd.R_drew)); exact HO407.out))) (below_size (by repeat (first | (with_reducible first | exact HB.out | apply below_alloc | apply pw_below_drewN | apply below_drew1) | exact HB.out)))); have n2_ := Aside0.mk (below_step (by repeat (first | (with_reducible first | exact HB.out | apply below_alloc | apply pw_below_drewN | apply below_drew1) | exact HB.out)) hb); clear HO407; clear HB; have HO407 := n0_; have HO411 := n1_; have HB := n2_; clear n0_ n1_ n2_; (try clear hb); (try clear hb2); (try clear hk); (try clear hi); (try clear ho0)) | ((with_reducible refine gate_callee (f := 28) rfl ?_); refine goesL_ (some 116) rfl rfl Tryd.func28 (by kernel_rfl) rfl #[.slice A0 l0.length c0, .int .i64 a1, .slice A401_0 (rd_L3 l2 0).length c401_0] rfl (by (try simp only [List.map_toArray, List.map_cons, List.map_nil]); first | done | rfl | (simp only [List.length_drop, List.length_take]; rfl)) ?_; (with_reducible refine (mummerref04_Put.calls kj23 _ _ l0 a1 _ _ (rd_L3 l2 0) t412 t415 _ ?side1 ?side2 ?side3 ?side4 A51.out).mono ?_); (case side1 => repeat (first | exact (Kd.C_below HR0.out HB.out) | (with_reducible refine Kd.C_alloc ?_ _) | (with_reducible refine Kd.C_drewN ?_ _) | (with_reducible refine Kd.C_drew ?_))); (case side2 => exact HC0.out); (case side3 => repeat (first | exact (Kd.C_below HR401_0.out HB.out) | (with_reducible refine Kd.C_alloc ?_ _) | (with_reducible refine Kd.C_drewN ?_ _) | (with_reducible refine Kd.C_drew ?_))); (case side4 => exact HC401_0.out); rintro e w62 ⟨v413, rfl, ho0, hb⟩; refine ⟨_, rfl, ?_⟩; have n0_ := Aside0.mk (Kd.R_below (by (with_reducible repeat (first | apply Kd.R_alloc | apply Kd.R_drewN | apply Kd.R_drew)); exact HO407.out) hb); have n1_ := Aside0.mk (Kd.R_below (by (with_reducible repeat (first | apply Kd.R_alloc | apply Kd.R_drewN | apply Kd.R_drew)); exact HO411.out) hb); have n2_ := Aside0.mk (Kd.V_lower (Kd.V_mono (ok' := fun k_ => some k_ ≠ (v406 : Value).ownBlock ∧ some k_ ≠ (v410 : Value).ownBlock) ho0 (fun k_ hk_ => ⟨(Kd.fresh' (Kd.R_lt (by (with_reducible repeat (first | apply Kd.R_alloc | apply Kd.R_drewN | apply Kd.R_drew)); exact HO407.out)) k_ hk_), (Kd.fresh' (Kd.R_lt (by (with_reducible repeat (first | apply Kd.R_alloc | apply Kd.R_drewN | apply Kd.R_drew)); exact HO411.out)) k_ hk_)⟩)) (below_size (by repeat (first | (with_reducible first | exact HB.out | apply below_alloc | apply pw_below_drewN | apply below_drew1) | exact HB.out)))); have n3_ := Aside0.mk (below_step (by repeat (first | (with_reducible first | exact HB.out | apply below_alloc | apply pw_below_drewN | apply below_drew1) | exact HB.out)) hb); clear HO407; clear HO411; clear HB; have HO407 := n0_; have HO411 := n1_; have HO414 := n2_; have HB := n3_; clear n0_ n1_ n2_ n3_; (try clear hb); (try clear hb2); (try clear hk); (try clear hi); (try clear ho0); obtain ⟨Ao63, co63, eo63⟩ := Kd.R_slice HO411.out; subst eo63; obtain ⟨Ao64, co64, eo64⟩ := Kd.V_slice HO414.out; subst eo64) | ((with_reducible refine gate_callee (f := 24) rfl ?_); refine goesL_ (some 121) rfl rfl Tryd.func24 (by kernel_rfl) rfl #[.slice Ao63 t408.length co63, .slice Ao64 t412.length co64] rfl (by (try simp only [List.map_toArray, List.map_cons, List.map_nil]); first | done | rfl | (simp only [List.length_drop, List.length_take]; rfl)) ?_; (with_reducible refine (mummerref04_Same.calls kj23 _ _ t408 _ _ t412 true _ ?side1 ?side2 ?side3 ?side4 A52.out).mono ?_); (case side1 => repeat (first | exact (Kd.R_reads' HO411.out).2.2 | (with_reducible refine Kd.C_alloc ?_ _) | (with_reducible refine Kd.C_drewN ?_ _) | (with_reducible refine Kd.C_drew ?_))); (case side2 => exact (Kd.R_reads' HO411.out).2.1); (case side3 => repeat (first | exact (Kd.V_reads' HO414.out).2.2 | (with_reducible refine Kd.C_alloc ?_ _) | (with_reducible refine Kd.C_drewN ?_ _) | (with_reducible refine Kd.C_drew ?_))); (case side4 => exact (Kd.V_reads' HO414.out).2.1); rintro e w' ⟨rfl, ⟨nd, rfl⟩⟩; refine ⟨_, rfl, ?_⟩; obtain ⟨Ao65, co65, eo65⟩ := Kd.R_slice HO407.out; subst eo65) | (go_at_call 24; (with_reducible refine (mummerref04_Same.calls kj23 _ _ l0 _ _ y405 true _ ?side1 ?side2 ?side3 ?side4 A55.out).mono ?_); (case side1 => repeat (first | exact (Kd.C_below HR0.out (by repeat (first | (with_reducible first | exact HB.out | apply below_alloc | apply pw_below_drewN | apply below_drew1) | exact HB.out))) | (with_reducible refine Kd.C_alloc ?_ _) | (with_reducible refine Kd.C_drewN ?_ _) | (with_reducible refine Kd.C_drew ?_))); (case side2 => exact HC0.out); (case side3 => repeat (first | exact (Kd.R_reads' HO407.out).2.2 | (with_reducible refine Kd.C_alloc ?_ _) | (with_reducible refine Kd.C_drewN ?_ _) | (with_reducible refine Kd.C_drew ?_))); (case side4 => exact (Kd.R_reads' HO407.out).2.1); rintro e w' ⟨rfl, ⟨nd, rfl⟩⟩) | (go_at_call 13; (with_reducible refine (mummerlaw04_shown.calls kj23  t418 _ ?side1 A57.out).mono ?_); (case side1 => exact G0_keep HGl.out (by repeat (first | (with_reducible first | exact HB.out | apply below_alloc | apply pw_below_drewN | apply below_drew1) | exact HB.out))); rintro e w66 ⟨rfl, hb⟩; have n0_ := Aside0.mk (Kd.R_below (by (with_reducible repeat (first | apply Kd.R_alloc | apply Kd.R_drewN | apply Kd.R_drew)); exact HO407.out) hb); have n1_ := Aside0.mk (Kd.R_below (by (with_reducible repeat (first | apply Kd.R_alloc | apply Kd.R_drewN | apply Kd.R_drew)); exact HO411.out) hb); have n2_ := Aside0.mk (Kd.V_below (by (with_reducible repeat (first | apply Kd.V_alloc | apply Kd.V_drewN | apply Kd.V_drew)); exact HO414.out) hb); have n3_ := Aside0.mk (below_step (by repeat (first | (with_reducible first | exact HB.out | apply below_alloc | apply pw_below_drewN | apply below_drew1) | exact HB.out)) hb); clear HO407; clear HO411; clear HO414; clear HB; have HO407 := n0_; have HO411 := n1_; have HO414 := n2_; have HB := n3_; clear n0_ n1_ n2_ n3_; (try clear hb); (try clear hb2); (try clear hk); (try clear hi)))
                                    go_ret
                                    exact ⟨by first | rfl | (simp [errW_none, errW_some] <;> rfl) | (simp [*, errW_none, errW_some] <;> rfl), by repeat (first | (with_reducible first | exact HB.out | apply below_alloc | apply pw_below_drewN | apply below_drew1) | exact HB.out)⟩
                                  · replace c56 := Bool.eq_false_iff.mpr c56
                                    subst c56
                                    have H1 : (none) = some r := by rw [if_neg (show ¬ (false = true) by decide)] at H; exact H
                                    clear H
                                    have H := H1
                                    clear H1
                                    exact absurd H (by simp)
                                · rw [if_neg c54] at H
                                  exact absurd H (by simp)
                              · replace c53 := Bool.eq_false_iff.mpr c53
                                subst c53
                                have H1 : (none) = some r := by rw [if_neg (show ¬ (false = true) by decide)] at H; exact H
                                clear H
                                have H := H1
                                clear H1
                                exact absurd H (by simp)
                            · rw [if_neg c49] at H
                              exact absurd H (by simp)
                          · rw [if_neg c48] at H
                            exact absurd H (by simp)
                        · rw [if_neg c47] at H
                          have c47b0 : decide (0 < (l2.length : Int)) = false := decide_eq_false c47
                          have c47b1 : decide (0 < l2.length) = false := decide_eq_false (by omega)
                          clear c47
                          obtain ⟨y419, hy419⟩ : ∃ y_ : List (S51), y_ = (([] : List (S51))) := ⟨_, rfl⟩
                          replace H : (if y419.length + l0.length < 3518437208883 then ((data_Put.f l0 a1 ([] : List (S51))).bind fun bt425 => ((mummerref04_Put.f kj23 l0 a1 ([] : List (S51))).bind fun bt429 => ((mummerref04_Same.f kj23 bt425.1 bt429.1).bind fun t433 => (if t433 = true then (if bt425.2 = bt429.2 then ((mummerref04_Same.f kj23 l0 (y419 ++ l0)).bind fun t434 => (if t434 = true then ((mummerlaw04_shown.f kj23).bind fun t435 => (some t435)) else (none))) else (none)) else (none))))) else (none)) = some r := by first | (rw [hy419]; with_reducible exact H) | (have H2_ := (Option.bind_some _ _).symm.trans H; rw [hy419]; with_reducible exact H2_) | (have H2_ := (Option.bind_some _ _).symm.trans H; with_reducible exact H2_) | with_reducible exact H | (rw [hy419]; exact H) | exact H
                          have Ny419 := Aside0.mk hy419
                          clear hy419
                          by_cases c67 : y419.length + l0.length < 3518437208883
                          · rw [if_pos c67] at H
                            have LMc67 := Aside0.mk c67
                            clear c67
                            obtain ⟨y422, hy422⟩ : ∃ y_ : List (S51), y_ = (y419 ++ l0) := ⟨_, rfl⟩
                            replace H : ((data_Put.f l0 a1 ([] : List (S51))).bind fun bt425 => ((mummerref04_Put.f kj23 l0 a1 ([] : List (S51))).bind fun bt429 => ((mummerref04_Same.f kj23 bt425.1 bt429.1).bind fun t433 => (if t433 = true then (if bt425.2 = bt429.2 then ((mummerref04_Same.f kj23 l0 y422).bind fun t434 => (if t434 = true then ((mummerlaw04_shown.f kj23).bind fun t435 => (some t435)) else (none))) else (none)) else (none))))) = some r := by first | (rw [hy422]; with_reducible exact H) | (have H2_ := (Option.bind_some _ _).symm.trans H; rw [hy422]; with_reducible exact H2_) | (have H2_ := (Option.bind_some _ _).symm.trans H; with_reducible exact H2_) | with_reducible exact H | (rw [hy422]; exact H) | exact H
                            have Ny422 := Aside0.mk hy422
                            clear hy422
                            replace H := Option.bind_eq_some_iff.mp H
                            obtain ⟨⟨t425, t426⟩, A680, H⟩ := H
                            replace H : ((mummerref04_Put.f kj23 l0 a1 ([] : List (S51))).bind fun bt429 => ((mummerref04_Same.f kj23 t425 bt429.1).bind fun t433 => (if t433 = true then (if t426 = bt429.2 then ((mummerref04_Same.f kj23 l0 y422).bind fun t434 => (if t434 = true then ((mummerlaw04_shown.f kj23).bind fun t435 => (some t435)) else (none))) else (none)) else (none)))) = some r := H
                            have A68 := Aside0.mk A680
                            clear A680
                            replace H := Option.bind_eq_some_iff.mp H
                            obtain ⟨⟨t429, t432⟩, A690, H⟩ := H
                            replace H : ((mummerref04_Same.f kj23 t425 t429).bind fun t433 => (if t433 = true then (if t426 = t432 then ((mummerref04_Same.f kj23 l0 y422).bind fun t434 => (if t434 = true then ((mummerlaw04_shown.f kj23).bind fun t435 => (some t435)) else (none))) else (none)) else (none))) = some r := H
                            have A69 := Aside0.mk A690
                            clear A690
                            replace H := Option.bind_eq_some_iff.mp H
                            obtain ⟨t433, A700, H⟩ := H
                            replace H : (if t433 = true then (if t426 = t432 then ((mummerref04_Same.f kj23 l0 y422).bind fun t434 => (if t434 = true then ((mummerlaw04_shown.f kj23).bind fun t435 => (some t435)) else (none))) else (none)) else (none)) = some r := H
                            have A70 := Aside0.mk A700
                            clear A700
                            by_cases c71 : t433 = true
                            · subst c71
                              have H1 : (if t426 = t432 then ((mummerref04_Same.f kj23 l0 y422).bind fun t434 => (if t434 = true then ((mummerlaw04_shown.f kj23).bind fun t435 => (some t435)) else (none))) else (none)) = some r := by rw [if_pos rfl] at H; exact H
                              clear H
                              have H := H1
                              clear H1
                              by_cases c72 : t426 = t432
                              · rw [if_pos c72] at H
                                have c72b0 : (t426 == t432) = true := beq_iff_eq.mpr c72
                                have c72b1 : (t426 != t432) = false := bne_eq_false_iff_eq.mpr c72
                                clear c72
                                replace H := Option.bind_eq_some_iff.mp H
                                obtain ⟨t434, A730, H⟩ := H
                                replace H : (if t434 = true then ((mummerlaw04_shown.f kj23).bind fun t435 => (some t435)) else (none)) = some r := H
                                have A73 := Aside0.mk A730
                                clear A730
                                by_cases c74 : t434 = true
                                · subst c74
                                  have H1 : ((mummerlaw04_shown.f kj23).bind fun t435 => (some t435)) = some r := by rw [if_pos rfl] at H; exact H
                                  clear H
                                  have H := H1
                                  clear H1
                                  replace H := Option.bind_eq_some_iff.mp H
                                  obtain ⟨t435, A750, H⟩ := H
                                  replace H : (some t435) = some r := H
                                  have A75 := Aside0.mk A750
                                  clear A750
                                  obtain rfl := Option.some.inj H
                                  go_wp2_with (first | ((with_reducible refine gate_dst (N := 102) rfl ?_); (try (refine gate_guard (by rfl) ?_; dsimp only)); refine Kd.R_lit k51 _ 51 ?hg (N := 102) ?hd (xs := ([] : List (S51))) (inner := []) (ok := fun _ => True) (okp := fun _ => True) ?hr ?hp (fun _ hk => hk) trivial (Below.refl _ _) (Nat.le_refl _) (by simp) ?_; (case hd => rfl); (case hg => rfl); (case hr => first | (go_simp; done) | (go_simp; rfl)); (case hp => exact (Reps.none _ _)); intro v420 w76 ho77 hb hg_ hnew_; clear hg_ hnew_; (first | rw [← Ny419.out] at ho77 | (simp only [Int.reduceToNat] at ho77; rw [← Ny419.out] at ho77)); have n0_ := Aside0.mk (Kd.R_lower ho77 (below_size (by repeat (first | (with_reducible first | exact HB.out | apply below_alloc | apply pw_below_drewN | apply below_drew1) | exact HB.out)))); have n1_ := Aside0.mk (below_step (by repeat (first | (with_reducible first | exact HB.out | apply below_alloc | apply pw_below_drewN | apply below_drew1) | exact HB.out)) hb); clear HB; have HO421 := n0_; have HB := n1_; clear n0_ n1_; clear hb ho77) | ((with_reducible refine gate_builtin (b := .append) (xs := #[.tmp 102, .tmp 103]) rfl ?_); (try (refine gate_guard (by rfl) ?_; dsimp only)); at_builtin; refine Kd.R_append_rows k51 (w0 := w) w.heap.size rfl (.tmp 102) (.tmp 103) 22 51 (.agg #[(.int .i64 0), (.int .i64 0), (.int .i64 0), (.string ⟨#[]⟩)]) 40 rfl Tryd.underlying22 info51 rfl (by decide) (by omega) v420 y419 l0 _ _ _ (fun _ => True) (fun _ => False) rfl rfl ?aO ?aR (fun _ _ h => h) (fun _ h => h.elim) ?aF ?aB ?aS ?aL ?_; (case aR => repeat (first | exact (Kd.C_below HR0.out HB.out) | (with_reducible refine Kd.C_alloc ?_ _) | (with_reducible refine Kd.C_drewN ?_ _) | (with_reducible refine Kd.C_drew ?_))); (case aB => exact (by repeat (first | (with_reducible first | exact HB.out | apply below_alloc | apply pw_below_drewN | apply below_drew1) | exact HB.out))); (case aF => exact (fun _ _ => trivial)); (case aO => exact (by (with_reducible repeat (first | apply Kd.R_alloc | apply Kd.R_drewN | apply Kd.R_drew)); exact HO421.out)); (case aS => exact (below_size (by repeat (first | (with_reducible first | exact HB.out | apply below_alloc | apply pw_below_drewN | apply below_drew1) | exact HB.out)))); (case aL => have := LMc67.out; omega); intro v423 w78 ho hb hg hat; rw [← Ny422.out] at ho; have n0_ := Aside0.mk (hb); have n1_ := Aside0.mk (ho); clear HB; clear HO421; have HB := n0_; have HO424 := n1_; clear n0_ n1_; clear ho hb hg hat) | ((with_reducible refine gate_callee (f := 21) rfl ?_); refine goesL_ (some 109) rfl rfl Tryd.func21 (by kernel_rfl) rfl #[.slice A0 l0.length c0, .int .i64 a1, .slice none 0 0] rfl (by (try simp only [List.map_toArray, List.map_cons, List.map_nil]); first | done | rfl | (simp only [List.length_drop, List.length_take]; rfl)) ?_; (refine (data_Put.calls _ _ l0 a1 _ _ ([] : List (S51)) t425 t426 _ ?side1 ?side2 ?side3 ?side4 ?side5 A68.out).mono ?_); (case side1 => repeat (first | exact (Kd.C_below HR0.out HB.out) | (with_reducible refine Kd.C_alloc ?_ _) | (with_reducible refine Kd.C_drewN ?_ _) | (with_reducible refine Kd.C_drew ?_))); (case side2 => exact HC0.out); (case side3 => exact Kd.C_nil _ _); (case side4 => exact Nat.le_refl _); (case side5 => exact G0_keep HGl.out (by repeat (first | (with_reducible first | exact HB.out | apply below_alloc | apply pw_below_drewN | apply below_drew1) | exact HB.out))); rintro e w79 ⟨v427, rfl, ho0, hb⟩; refine ⟨_, rfl, ?_⟩; have n0_ := Aside0.mk (Kd.R_elder' (by (with_reducible repeat (first | apply Kd.R_alloc | apply Kd.R_drewN | apply Kd.R_drew)); exact HO424.out) (Kd.R_base ho0) hb); have n1_ := Aside0.mk (Kd.R_lower (Kd.R_new' ho0 (Kd.R_lt (by (with_reducible repeat (first | apply Kd.R_alloc | apply Kd.R_drewN | apply Kd.R_drew)); exact HO424.out))) (below_size (by repeat (first | (with_reducible first | exact HB.out | apply below_alloc | apply pw_below_drewN | apply below_drew1) | exact HB.out)))); have n2_ := Aside0.mk (below_step (by repeat (first | (with_reducible first | exact HB.out | apply below_alloc | apply pw_below_drewN | apply below_drew1) | exact HB.out)) hb); clear HO424; clear HB; have HO424 := n0_; have HO428 := n1_; have HB := n2_; clear n0_ n1_ n2_; (try clear hb); (try clear hb2); (try clear hk); (try clear hi); (try clear ho0)) | ((with_reducible refine gate_callee (f := 28) rfl ?_); refine goesL_ (some 116) rfl rfl Tryd.func28 (by kernel_rfl) rfl #[.slice A0 l0.length c0, .int .i64 a1, .slice none 0 0] rfl (by (try simp only [List.map_toArray, List.map_cons, List.map_nil]); first | done | rfl | (simp only [List.length_drop, List.length_take]; rfl)) ?_; (refine (mummerref04_Put.calls kj23 _ _ l0 a1 _ _ ([] : List (S51)) t429 t432 _ ?side1 ?side2 ?side3 ?side4 A69.out).mono ?_); (case side1 => repeat (first | exact (Kd.C_below HR0.out HB.out) | (with_reducible refine Kd.C_alloc ?_ _) | (with_reducible refine Kd.C_drewN ?_ _) | (with_reducible refine Kd.C_drew ?_))); (case side2 => exact HC0.out); (case side3 => exact Kd.C_nil _ _); (case side4 => exact Nat.le_refl _); rintro e w80 ⟨v430, rfl, ho0, hb⟩; refine ⟨_, rfl, ?_⟩; have n0_ := Aside0.mk (Kd.R_below (by (with_reducible repeat (first | apply Kd.R_alloc | apply Kd.R_drewN | apply Kd.R_drew)); exact HO424.out) hb); have n1_ := Aside0.mk (Kd.R_below (by (with_reducible repeat (first | apply Kd.R_alloc | apply Kd.R_drewN | apply Kd.R_drew)); exact HO428.out) hb); have n2_ := Aside0.mk (Kd.V_lower (Kd.V_mono (ok' := fun k_ => some k_ ≠ (v423 : Value).ownBlock ∧ some k_ ≠ (v427 : Value).ownBlock) ho0 (fun k_ hk_ => ⟨(Kd.fresh' (Kd.R_lt (by (with_reducible repeat (first | apply Kd.R_alloc | apply Kd.R_drewN | apply Kd.R_drew)); exact HO424.out)) k_ hk_), (Kd.fresh' (Kd.R_lt (by (with_reducible repeat (first | apply Kd.R_alloc | apply Kd.R_drewN | apply Kd.R_drew)); exact HO428.out)) k_ hk_)⟩)) (below_size (by repeat (first | (with_reducible first | exact HB.out | apply below_alloc | apply pw_below_drewN | apply below_drew1) | exact HB.out)))); have n3_ := Aside0.mk (below_step (by repeat (first | (with_reducible first | exact HB.out | apply below_alloc | apply pw_below_drewN | apply below_drew1) | exact HB.out)) hb); clear HO424; clear HO428; clear HB; have HO424 := n0_; have HO428 := n1_; have HO431 := n2_; have HB := n3_; clear n0_ n1_ n2_ n3_; (try clear hb); (try clear hb2); (try clear hk); (try clear hi); (try clear ho0); obtain ⟨Ao81, co81, eo81⟩ := Kd.R_slice HO428.out; subst eo81; obtain ⟨Ao82, co82, eo82⟩ := Kd.V_slice HO431.out; subst eo82) | ((with_reducible refine gate_callee (f := 24) rfl ?_); refine goesL_ (some 121) rfl rfl Tryd.func24 (by kernel_rfl) rfl #[.slice Ao81 t425.length co81, .slice Ao82 t429.length co82] rfl (by (try simp only [List.map_toArray, List.map_cons, List.map_nil]); first | done | rfl | (simp only [List.length_drop, List.length_take]; rfl)) ?_; (with_reducible refine (mummerref04_Same.calls kj23 _ _ t425 _ _ t429 true _ ?side1 ?side2 ?side3 ?side4 A70.out).mono ?_); (case side1 => repeat (first | exact (Kd.R_reads' HO428.out).2.2 | (with_reducible refine Kd.C_alloc ?_ _) | (with_reducible refine Kd.C_drewN ?_ _) | (with_reducible refine Kd.C_drew ?_))); (case side2 => exact (Kd.R_reads' HO428.out).2.1); (case side3 => repeat (first | exact (Kd.V_reads' HO431.out).2.2 | (with_reducible refine Kd.C_alloc ?_ _) | (with_reducible refine Kd.C_drewN ?_ _) | (with_reducible refine Kd.C_drew ?_))); (case side4 => exact (Kd.V_reads' HO431.out).2.1); rintro e w' ⟨rfl, ⟨nd, rfl⟩⟩; refine ⟨_, rfl, ?_⟩; obtain ⟨Ao83, co83, eo83⟩ := Kd.R_slice HO424.out; subst eo83) | (go_at_call 24; (with_reducible refine (mummerref04_Same.calls kj23 _ _ l0 _ _ y422 true _ ?side1 ?side2 ?side3 ?side4 A73.out).mono ?_); (case side1 => repeat (first | exact (Kd.C_below HR0.out (by repeat (first | (with_reducible first | exact HB.out | apply below_alloc | apply pw_below_drewN | apply below_drew1) | exact HB.out))) | (with_reducible refine Kd.C_alloc ?_ _) | (with_reducible refine Kd.C_drewN ?_ _) | (with_reducible refine Kd.C_drew ?_))); (case side2 => exact HC0.out); (case side3 => repeat (first | exact (Kd.R_reads' HO424.out).2.2 | (with_reducible refine Kd.C_alloc ?_ _) | (with_reducible refine Kd.C_drewN ?_ _) | (with_reducible refine Kd.C_drew ?_))); (case side4 => exact (Kd.R_reads' HO424.out).2.1); rintro e w' ⟨rfl, ⟨nd, rfl⟩⟩) | (go_at_call 13; (with_reducible refine (mummerlaw04_shown.calls kj23  t435 _ ?side1 A75.out).mono ?_); (case side1 => exact G0_keep HGl.out (by repeat (first | (with_reducible first | exact HB.out | apply below_alloc | apply pw_below_drewN | apply below_drew1) | exact HB.out))); rintro e w84 ⟨rfl, hb⟩; have n0_ := Aside0.mk (Kd.R_below (by (with_reducible repeat (first | apply Kd.R_alloc | apply Kd.R_drewN | apply Kd.R_drew)); exact HO424.out) hb); have n1_ := Aside0.mk (Kd.R_below (by (with_reducible repeat (first | apply Kd.R_alloc | apply Kd.R_drewN | apply Kd.R_drew)); exact HO428.out) hb); have n2_ := Aside0.mk (Kd.V_below (by (with_reducible repeat (first | apply Kd.V_alloc | apply Kd.V_drewN | apply Kd.V_drew)); exact HO431.out) hb); have n3_ := Aside0.mk (below_step (by repeat (first | (with_reducible first | exact HB.out | apply below_alloc | apply pw_below_drewN | apply below_drew1) | exact HB.out)) hb); clear HO424; clear HO428; clear HO431; clear HB; have HO424 := n0_; have HO428 := n1_; have HO431 := n2_; have HB := n3_; clear n0_ n1_ n2_ n3_; (try clear hb); (try clear hb2); (try clear hk); (try clear hi)))
                                  go_ret
                                  exact ⟨by first | rfl | (simp [errW_none, errW_some] <;> rfl) | (simp [*, errW_none, errW_some] <;> rfl), by repeat (first | (with_reducible first | exact HB.out | apply below_alloc | apply pw_below_drewN | apply below_drew1) | exact HB.out)⟩
                                · replace c74 := Bool.eq_false_iff.mpr c74
                                  subst c74
                                  have H1 : (none) = some r := by rw [if_neg (show ¬ (false = true) by decide)] at H; exact H
                                  clear H
                                  have H := H1
                                  clear H1
                                  exact absurd H (by simp)
                              · rw [if_neg c72] at H
                                exact absurd H (by simp)
                            · replace c71 := Bool.eq_false_iff.mpr c71
                              subst c71
                              have H1 : (none) = some r := by rw [if_neg (show ¬ (false = true) by decide)] at H; exact H
                              clear H
                              have H := H1
                              clear H1
                              exact absurd H (by simp)
                          · rw [if_neg c67] at H
                            exact absurd H (by simp)
end Go.Proofs.YtgmiekggdgmhkaaDoor.Q
end
