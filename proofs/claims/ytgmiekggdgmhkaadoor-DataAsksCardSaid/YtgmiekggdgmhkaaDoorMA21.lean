import Derived.Test.YtgmiekggdgmhkaaDoorMA13
import Derived.Test.YtgmiekggdgmhkaaDoorMA14
import Derived.Test.YtgmiekggdgmhkaaDoorMA15
import Derived.Test.YtgmiekggdgmhkaaDoorMA18
import Derived.Test.YtgmiekggdgmhkaaDoorMA20
import Derived.Test.YtgmiekggdgmhkaaDoorMA5
import Derived.Test.YtgmiekggdgmhkaaDoorMA6
section
-- a print of this session's own (hook.py)
namespace Go.Proofs.YtgmiekggdgmhkaaDoor.Q
open Go.RowKit Go.Proofs.YtgmiekggdgmhkaaDoorW.PrintWords Go.Proofs.YtgmiekggdgmhkaaDoorW.PrintLast Go.Proofs.YtgmiekggdgmhkaaDoorW.PrintMore
attribute [local go_sem] max2_int min2_int max_two min_two max_three min_three max_four min_four   -- for this text's walks alone
set_option linter.unusedVariables false
set_option linter.unusedSimpArgs false
/-! ### mummerlaw04_shown: function 13 -/
def mummerlaw04_shown.f (k : Nat)  : Option (Bool) := (mummerlaw04_Example.f).bind fun t155 => ((data_Check.f k t155).bind fun bt158 => ((mummerlaw04_Example.f).bind fun t160 => ((data_Size.f k t160 2).bind fun bt163 => ((mummerlaw04_Example.f).bind fun t165 => ((data_Path.f t165 4).bind fun bt168 => ((mummerlaw04_Example.f).bind fun t172 => ((data_Put.f t172 2 (([(⟨3, 0, 0, (⟨#[98]⟩ : ByteArray)⟩ : S51)] : List (S51)))).bind fun bt178 => ((data_Shape.f (([2, 0, 1, 0] : List Int))).bind fun bt185 => (if bt158.1 = 0 then (if bt158.2 = 0 then (if bt163.1 = 3 then (if bt163.2 = 0 then ((mummerref04_Ints.f k bt168.1 (([1, 1] : List Int))).bind fun t192 => (if t192 = true then (if bt168.2 = 0 then ((mummerref04_Same.f k bt178.1 (([(⟨4, 3, 0, (⟨#[]⟩ : ByteArray)⟩ : S51), (⟨3, 0, 0, (⟨#[97]⟩ : ByteArray)⟩ : S51), (⟨3, 0, 0, (⟨#[98]⟩ : ByteArray)⟩ : S51), (⟨3, 0, 0, (⟨#[97]⟩ : ByteArray)⟩ : S51)] : List (S51)))).bind fun t196 => (if t196 = true then (if bt178.2 = 0 then ((mummerref04_Ints.f k bt185.1 (([4, 2, 4, 4] : List Int))).bind fun t200 => (if t200 = true then (if bt185.2 = 0 then ((data_Symbol.f (⟨#[97, 45, 49]⟩ : ByteArray)).bind fun t201 => (if t201 = true then ((data_Symbol.f (⟨#[45, 49]⟩ : ByteArray)).bind fun t202 => (some (!t202))) else (none))) else (none)) else (none))) else (none)) else (none))) else (none)) else (none))) else (none)) else (none)) else (none)) else (none))))))))))
theorem mummerlaw04_shown.mono : ∀ k, LeO (mummerlaw04_shown.f k ) (mummerlaw04_shown.f (k + 1) ) := by
  intro  k
  unfold mummerlaw04_shown.f
  repeat' first
      | (with_reducible exact data_Check.mono _ _)
      | (with_reducible exact data_Size.mono _ _ _)
      | (with_reducible exact mummerref04_Ints.mono _ _ _)
      | (with_reducible exact mummerref04_Same.mono _ _ _)
      | (with_reducible exact LeO.refl _)
      | (with_reducible exact LeO.none _)
      | (with_reducible refine LeO.ite ?_ ?_)
      | (with_reducible refine LeO.bind ?_ (fun _ => ?_))
      | exact data_Check.mono _ _
      | exact data_Size.mono _ _ _
      | exact mummerref04_Ints.mono _ _ _
      | exact mummerref04_Same.mono _ _ _
      | exact LeO.none _
      | refine LeO.ite ?_ ?_
      | refine LeO.bind ?_ (fun _ => ?_)
set_option maxHeartbeats 8000000 in
set_option maxRecDepth 100000 in
theorem mummerlaw04_shown.calls (k : Nat)  (r : Bool) (w : World) (hG : G0 w) (h : mummerlaw04_shown.f k  = some r) :
    Calls Tryd.prog 13 #[] w fun e w' => e = .returned (.bool r) ∧ Below w.heap.size w w' := by
  have hu51 := Tryd.underlying51
  have HGl := Aside0.mk hG
  clear hG
  have HB := Aside0.mk (Below.refl w.heap.size w)
  have H : ((mummerlaw04_Example.f).bind fun t155 => ((data_Check.f k t155).bind fun bt158 => ((mummerlaw04_Example.f).bind fun t160 => ((data_Size.f k t160 2).bind fun bt163 => ((mummerlaw04_Example.f).bind fun t165 => ((data_Path.f t165 4).bind fun bt168 => ((mummerlaw04_Example.f).bind fun t172 => ((data_Put.f t172 2 (([(⟨3, 0, 0, (⟨#[98]⟩ : ByteArray)⟩ : S51)] : List (S51)))).bind fun bt178 => ((data_Shape.f (([2, 0, 1, 0] : List Int))).bind fun bt185 => (if bt158.1 = 0 then (if bt158.2 = 0 then (if bt163.1 = 3 then (if bt163.2 = 0 then ((mummerref04_Ints.f k bt168.1 (([1, 1] : List Int))).bind fun t192 => (if t192 = true then (if bt168.2 = 0 then ((mummerref04_Same.f k bt178.1 (([(⟨4, 3, 0, (⟨#[]⟩ : ByteArray)⟩ : S51), (⟨3, 0, 0, (⟨#[97]⟩ : ByteArray)⟩ : S51), (⟨3, 0, 0, (⟨#[98]⟩ : ByteArray)⟩ : S51), (⟨3, 0, 0, (⟨#[97]⟩ : ByteArray)⟩ : S51)] : List (S51)))).bind fun t196 => (if t196 = true then (if bt178.2 = 0 then ((mummerref04_Ints.f k bt185.1 (([4, 2, 4, 4] : List Int))).bind fun t200 => (if t200 = true then (if bt185.2 = 0 then ((data_Symbol.f (⟨#[97, 45, 49]⟩ : ByteArray)).bind fun t201 => (if t201 = true then ((data_Symbol.f (⟨#[45, 49]⟩ : ByteArray)).bind fun t202 => (some (!t202))) else (none))) else (none)) else (none))) else (none)) else (none))) else (none)) else (none))) else (none)) else (none)) else (none)) else (none))))))))))) = some r := h
  clear h
  replace H := Option.bind_eq_some_iff.mp H
  obtain ⟨t155, A10, H⟩ := H
  replace H : ((data_Check.f k t155).bind fun bt158 => ((mummerlaw04_Example.f).bind fun t160 => ((data_Size.f k t160 2).bind fun bt163 => ((mummerlaw04_Example.f).bind fun t165 => ((data_Path.f t165 4).bind fun bt168 => ((mummerlaw04_Example.f).bind fun t172 => ((data_Put.f t172 2 (([(⟨3, 0, 0, (⟨#[98]⟩ : ByteArray)⟩ : S51)] : List (S51)))).bind fun bt178 => ((data_Shape.f (([2, 0, 1, 0] : List Int))).bind fun bt185 => (if bt158.1 = 0 then (if bt158.2 = 0 then (if bt163.1 = 3 then (if bt163.2 = 0 then ((mummerref04_Ints.f k bt168.1 (([1, 1] : List Int))).bind fun t192 => (if t192 = true then (if bt168.2 = 0 then ((mummerref04_Same.f k bt178.1 (([(⟨4, 3, 0, (⟨#[]⟩ : ByteArray)⟩ : S51), (⟨3, 0, 0, (⟨#[97]⟩ : ByteArray)⟩ : S51), (⟨3, 0, 0, (⟨#[98]⟩ : ByteArray)⟩ : S51), (⟨3, 0, 0, (⟨#[97]⟩ : ByteArray)⟩ : S51)] : List (S51)))).bind fun t196 => (if t196 = true then (if bt178.2 = 0 then ((mummerref04_Ints.f k bt185.1 (([4, 2, 4, 4] : List Int))).bind fun t200 => (if t200 = true then (if bt185.2 = 0 then ((data_Symbol.f (⟨#[97, 45, 49]⟩ : ByteArray)).bind fun t201 => (if t201 = true then ((data_Symbol.f (⟨#[45, 49]⟩ : ByteArray)).bind fun t202 => (some (!t202))) else (none))) else (none)) else (none))) else (none)) else (none))) else (none)) else (none))) else (none)) else (none)) else (none)) else (none)))))))))) = some r := H
  have A1 := Aside0.mk A10
  clear A10
  replace H := Option.bind_eq_some_iff.mp H
  obtain ⟨⟨t158, t159⟩, A20, H⟩ := H
  replace H : ((mummerlaw04_Example.f).bind fun t160 => ((data_Size.f k t160 2).bind fun bt163 => ((mummerlaw04_Example.f).bind fun t165 => ((data_Path.f t165 4).bind fun bt168 => ((mummerlaw04_Example.f).bind fun t172 => ((data_Put.f t172 2 (([(⟨3, 0, 0, (⟨#[98]⟩ : ByteArray)⟩ : S51)] : List (S51)))).bind fun bt178 => ((data_Shape.f (([2, 0, 1, 0] : List Int))).bind fun bt185 => (if t158 = 0 then (if t159 = 0 then (if bt163.1 = 3 then (if bt163.2 = 0 then ((mummerref04_Ints.f k bt168.1 (([1, 1] : List Int))).bind fun t192 => (if t192 = true then (if bt168.2 = 0 then ((mummerref04_Same.f k bt178.1 (([(⟨4, 3, 0, (⟨#[]⟩ : ByteArray)⟩ : S51), (⟨3, 0, 0, (⟨#[97]⟩ : ByteArray)⟩ : S51), (⟨3, 0, 0, (⟨#[98]⟩ : ByteArray)⟩ : S51), (⟨3, 0, 0, (⟨#[97]⟩ : ByteArray)⟩ : S51)] : List (S51)))).bind fun t196 => (if t196 = true then (if bt178.2 = 0 then ((mummerref04_Ints.f k bt185.1 (([4, 2, 4, 4] : List Int))).bind fun t200 => (if t200 = true then (if bt185.2 = 0 then ((data_Symbol.f (⟨#[97, 45, 49]⟩ : ByteArray)).bind fun t201 => (if t201 = true then ((data_Symbol.f (⟨#[45, 49]⟩ : ByteArray)).bind fun t202 => (some (!t202))) else (none))) else (none)) else (none))) else (none)) else (none))) else (none)) else (none))) else (none)) else (none)) else (none)) else (none))))))))) = some r := H
  have A2 := Aside0.mk A20
  clear A20
  replace H := Option.bind_eq_some_iff.mp H
  obtain ⟨t160, A30, H⟩ := H
  replace H : ((data_Size.f k t160 2).bind fun bt163 => ((mummerlaw04_Example.f).bind fun t165 => ((data_Path.f t165 4).bind fun bt168 => ((mummerlaw04_Example.f).bind fun t172 => ((data_Put.f t172 2 (([(⟨3, 0, 0, (⟨#[98]⟩ : ByteArray)⟩ : S51)] : List (S51)))).bind fun bt178 => ((data_Shape.f (([2, 0, 1, 0] : List Int))).bind fun bt185 => (if t158 = 0 then (if t159 = 0 then (if bt163.1 = 3 then (if bt163.2 = 0 then ((mummerref04_Ints.f k bt168.1 (([1, 1] : List Int))).bind fun t192 => (if t192 = true then (if bt168.2 = 0 then ((mummerref04_Same.f k bt178.1 (([(⟨4, 3, 0, (⟨#[]⟩ : ByteArray)⟩ : S51), (⟨3, 0, 0, (⟨#[97]⟩ : ByteArray)⟩ : S51), (⟨3, 0, 0, (⟨#[98]⟩ : ByteArray)⟩ : S51), (⟨3, 0, 0, (⟨#[97]⟩ : ByteArray)⟩ : S51)] : List (S51)))).bind fun t196 => (if t196 = true then (if bt178.2 = 0 then ((mummerref04_Ints.f k bt185.1 (([4, 2, 4, 4] : List Int))).bind fun t200 => (if t200 = true then (if bt185.2 = 0 then ((data_Symbol.f (⟨#[97, 45, 49]⟩ : ByteArray)).bind fun t201 => (if t201 = true then ((data_Symbol.f (⟨#[45, 49]⟩ : ByteArray)).bind fun t202 => (some (!t202))) else (none))) else (none)) else (none))) else (none)) else (none))) else (none)) else (none))) else (none)) else (none)) else (none)) else (none)))))))) = some r := H
  have A3 := Aside0.mk A30
  clear A30
  replace H := Option.bind_eq_some_iff.mp H
  obtain ⟨⟨t163, t164⟩, A40, H⟩ := H
  replace H : ((mummerlaw04_Example.f).bind fun t165 => ((data_Path.f t165 4).bind fun bt168 => ((mummerlaw04_Example.f).bind fun t172 => ((data_Put.f t172 2 (([(⟨3, 0, 0, (⟨#[98]⟩ : ByteArray)⟩ : S51)] : List (S51)))).bind fun bt178 => ((data_Shape.f (([2, 0, 1, 0] : List Int))).bind fun bt185 => (if t158 = 0 then (if t159 = 0 then (if t163 = 3 then (if t164 = 0 then ((mummerref04_Ints.f k bt168.1 (([1, 1] : List Int))).bind fun t192 => (if t192 = true then (if bt168.2 = 0 then ((mummerref04_Same.f k bt178.1 (([(⟨4, 3, 0, (⟨#[]⟩ : ByteArray)⟩ : S51), (⟨3, 0, 0, (⟨#[97]⟩ : ByteArray)⟩ : S51), (⟨3, 0, 0, (⟨#[98]⟩ : ByteArray)⟩ : S51), (⟨3, 0, 0, (⟨#[97]⟩ : ByteArray)⟩ : S51)] : List (S51)))).bind fun t196 => (if t196 = true then (if bt178.2 = 0 then ((mummerref04_Ints.f k bt185.1 (([4, 2, 4, 4] : List Int))).bind fun t200 => (if t200 = true then (if bt185.2 = 0 then ((data_Symbol.f (⟨#[97, 45, 49]⟩ : ByteArray)).bind fun t201 => (if t201 = true then ((data_Symbol.f (⟨#[45, 49]⟩ : ByteArray)).bind fun t202 => (some (!t202))) else (none))) else (none)) else (none))) else (none)) else (none))) else (none)) else (none))) else (none)) else (none)) else (none)) else (none))))))) = some r := H
  have A4 := Aside0.mk A40
  clear A40
  replace H := Option.bind_eq_some_iff.mp H
  obtain ⟨t165, A50, H⟩ := H
  replace H : ((data_Path.f t165 4).bind fun bt168 => ((mummerlaw04_Example.f).bind fun t172 => ((data_Put.f t172 2 (([(⟨3, 0, 0, (⟨#[98]⟩ : ByteArray)⟩ : S51)] : List (S51)))).bind fun bt178 => ((data_Shape.f (([2, 0, 1, 0] : List Int))).bind fun bt185 => (if t158 = 0 then (if t159 = 0 then (if t163 = 3 then (if t164 = 0 then ((mummerref04_Ints.f k bt168.1 (([1, 1] : List Int))).bind fun t192 => (if t192 = true then (if bt168.2 = 0 then ((mummerref04_Same.f k bt178.1 (([(⟨4, 3, 0, (⟨#[]⟩ : ByteArray)⟩ : S51), (⟨3, 0, 0, (⟨#[97]⟩ : ByteArray)⟩ : S51), (⟨3, 0, 0, (⟨#[98]⟩ : ByteArray)⟩ : S51), (⟨3, 0, 0, (⟨#[97]⟩ : ByteArray)⟩ : S51)] : List (S51)))).bind fun t196 => (if t196 = true then (if bt178.2 = 0 then ((mummerref04_Ints.f k bt185.1 (([4, 2, 4, 4] : List Int))).bind fun t200 => (if t200 = true then (if bt185.2 = 0 then ((data_Symbol.f (⟨#[97, 45, 49]⟩ : ByteArray)).bind fun t201 => (if t201 = true then ((data_Symbol.f (⟨#[45, 49]⟩ : ByteArray)).bind fun t202 => (some (!t202))) else (none))) else (none)) else (none))) else (none)) else (none))) else (none)) else (none))) else (none)) else (none)) else (none)) else (none)))))) = some r := H
  have A5 := Aside0.mk A50
  clear A50
  replace H := Option.bind_eq_some_iff.mp H
  obtain ⟨⟨t168, t169⟩, A60, H⟩ := H
  replace H : ((mummerlaw04_Example.f).bind fun t172 => ((data_Put.f t172 2 (([(⟨3, 0, 0, (⟨#[98]⟩ : ByteArray)⟩ : S51)] : List (S51)))).bind fun bt178 => ((data_Shape.f (([2, 0, 1, 0] : List Int))).bind fun bt185 => (if t158 = 0 then (if t159 = 0 then (if t163 = 3 then (if t164 = 0 then ((mummerref04_Ints.f k t168 (([1, 1] : List Int))).bind fun t192 => (if t192 = true then (if t169 = 0 then ((mummerref04_Same.f k bt178.1 (([(⟨4, 3, 0, (⟨#[]⟩ : ByteArray)⟩ : S51), (⟨3, 0, 0, (⟨#[97]⟩ : ByteArray)⟩ : S51), (⟨3, 0, 0, (⟨#[98]⟩ : ByteArray)⟩ : S51), (⟨3, 0, 0, (⟨#[97]⟩ : ByteArray)⟩ : S51)] : List (S51)))).bind fun t196 => (if t196 = true then (if bt178.2 = 0 then ((mummerref04_Ints.f k bt185.1 (([4, 2, 4, 4] : List Int))).bind fun t200 => (if t200 = true then (if bt185.2 = 0 then ((data_Symbol.f (⟨#[97, 45, 49]⟩ : ByteArray)).bind fun t201 => (if t201 = true then ((data_Symbol.f (⟨#[45, 49]⟩ : ByteArray)).bind fun t202 => (some (!t202))) else (none))) else (none)) else (none))) else (none)) else (none))) else (none)) else (none))) else (none)) else (none)) else (none)) else (none))))) = some r := H
  have A6 := Aside0.mk A60
  clear A60
  replace H := Option.bind_eq_some_iff.mp H
  obtain ⟨t172, A70, H⟩ := H
  replace H : ((data_Put.f t172 2 (([(⟨3, 0, 0, (⟨#[98]⟩ : ByteArray)⟩ : S51)] : List (S51)))).bind fun bt178 => ((data_Shape.f (([2, 0, 1, 0] : List Int))).bind fun bt185 => (if t158 = 0 then (if t159 = 0 then (if t163 = 3 then (if t164 = 0 then ((mummerref04_Ints.f k t168 (([1, 1] : List Int))).bind fun t192 => (if t192 = true then (if t169 = 0 then ((mummerref04_Same.f k bt178.1 (([(⟨4, 3, 0, (⟨#[]⟩ : ByteArray)⟩ : S51), (⟨3, 0, 0, (⟨#[97]⟩ : ByteArray)⟩ : S51), (⟨3, 0, 0, (⟨#[98]⟩ : ByteArray)⟩ : S51), (⟨3, 0, 0, (⟨#[97]⟩ : ByteArray)⟩ : S51)] : List (S51)))).bind fun t196 => (if t196 = true then (if bt178.2 = 0 then ((mummerref04_Ints.f k bt185.1 (([4, 2, 4, 4] : List Int))).bind fun t200 => (if t200 = true then (if bt185.2 = 0 then ((data_Symbol.f (⟨#[97, 45, 49]⟩ : ByteArray)).bind fun t201 => (if t201 = true then ((data_Symbol.f (⟨#[45, 49]⟩ : ByteArray)).bind fun t202 => (some (!t202))) else (none))) else (none)) else (none))) else (none)) else (none))) else (none)) else (none))) else (none)) else (none)) else (none)) else (none)))) = some r := H
  have A7 := Aside0.mk A70
  clear A70
  obtain ⟨y175, hy175⟩ : ∃ y_ : List (S51), y_ = (([(⟨3, 0, 0, (⟨#[98]⟩ : ByteArray)⟩ : S51)] : List (S51))) := ⟨_, rfl⟩
  replace H : ((data_Put.f t172 2 y175).bind fun bt178 => ((data_Shape.f (([2, 0, 1, 0] : List Int))).bind fun bt185 => (if t158 = 0 then (if t159 = 0 then (if t163 = 3 then (if t164 = 0 then ((mummerref04_Ints.f k t168 (([1, 1] : List Int))).bind fun t192 => (if t192 = true then (if t169 = 0 then ((mummerref04_Same.f k bt178.1 (([(⟨4, 3, 0, (⟨#[]⟩ : ByteArray)⟩ : S51), (⟨3, 0, 0, (⟨#[97]⟩ : ByteArray)⟩ : S51), (⟨3, 0, 0, (⟨#[98]⟩ : ByteArray)⟩ : S51), (⟨3, 0, 0, (⟨#[97]⟩ : ByteArray)⟩ : S51)] : List (S51)))).bind fun t196 => (if t196 = true then (if bt178.2 = 0 then ((mummerref04_Ints.f k bt185.1 (([4, 2, 4, 4] : List Int))).bind fun t200 => (if t200 = true then (if bt185.2 = 0 then ((data_Symbol.f (⟨#[97, 45, 49]⟩ : ByteArray)).bind fun t201 => (if t201 = true then ((data_Symbol.f (⟨#[45, 49]⟩ : ByteArray)).bind fun t202 => (some (!t202))) else (none))) else (none)) else (none))) else (none)) else (none))) else (none)) else (none))) else (none)) else (none)) else (none)) else (none)))) = some r := by first | (rw [hy175]; with_reducible exact H) | (have H2_ := (Option.bind_some _ _).symm.trans H; rw [hy175]; with_reducible exact H2_) | (have H2_ := (Option.bind_some _ _).symm.trans H; with_reducible exact H2_) | with_reducible exact H | (rw [hy175]; exact H) | exact H
  have Ny175 := Aside0.mk hy175
  clear hy175
  replace H := Option.bind_eq_some_iff.mp H
  obtain ⟨⟨t178, t179⟩, A80, H⟩ := H
  replace H : ((data_Shape.f (([2, 0, 1, 0] : List Int))).bind fun bt185 => (if t158 = 0 then (if t159 = 0 then (if t163 = 3 then (if t164 = 0 then ((mummerref04_Ints.f k t168 (([1, 1] : List Int))).bind fun t192 => (if t192 = true then (if t169 = 0 then ((mummerref04_Same.f k t178 (([(⟨4, 3, 0, (⟨#[]⟩ : ByteArray)⟩ : S51), (⟨3, 0, 0, (⟨#[97]⟩ : ByteArray)⟩ : S51), (⟨3, 0, 0, (⟨#[98]⟩ : ByteArray)⟩ : S51), (⟨3, 0, 0, (⟨#[97]⟩ : ByteArray)⟩ : S51)] : List (S51)))).bind fun t196 => (if t196 = true then (if t179 = 0 then ((mummerref04_Ints.f k bt185.1 (([4, 2, 4, 4] : List Int))).bind fun t200 => (if t200 = true then (if bt185.2 = 0 then ((data_Symbol.f (⟨#[97, 45, 49]⟩ : ByteArray)).bind fun t201 => (if t201 = true then ((data_Symbol.f (⟨#[45, 49]⟩ : ByteArray)).bind fun t202 => (some (!t202))) else (none))) else (none)) else (none))) else (none)) else (none))) else (none)) else (none))) else (none)) else (none)) else (none)) else (none))) = some r := H
  have A8 := Aside0.mk A80
  clear A80
  obtain ⟨y182, hy182⟩ : ∃ y_ : List Int, y_ = (([2, 0, 1, 0] : List Int)) := ⟨_, rfl⟩
  replace H : ((data_Shape.f y182).bind fun bt185 => (if t158 = 0 then (if t159 = 0 then (if t163 = 3 then (if t164 = 0 then ((mummerref04_Ints.f k t168 (([1, 1] : List Int))).bind fun t192 => (if t192 = true then (if t169 = 0 then ((mummerref04_Same.f k t178 (([(⟨4, 3, 0, (⟨#[]⟩ : ByteArray)⟩ : S51), (⟨3, 0, 0, (⟨#[97]⟩ : ByteArray)⟩ : S51), (⟨3, 0, 0, (⟨#[98]⟩ : ByteArray)⟩ : S51), (⟨3, 0, 0, (⟨#[97]⟩ : ByteArray)⟩ : S51)] : List (S51)))).bind fun t196 => (if t196 = true then (if t179 = 0 then ((mummerref04_Ints.f k bt185.1 (([4, 2, 4, 4] : List Int))).bind fun t200 => (if t200 = true then (if bt185.2 = 0 then ((data_Symbol.f (⟨#[97, 45, 49]⟩ : ByteArray)).bind fun t201 => (if t201 = true then ((data_Symbol.f (⟨#[45, 49]⟩ : ByteArray)).bind fun t202 => (some (!t202))) else (none))) else (none)) else (none))) else (none)) else (none))) else (none)) else (none))) else (none)) else (none)) else (none)) else (none))) = some r := by first | (rw [hy182]; with_reducible exact H) | (have H2_ := (Option.bind_some _ _).symm.trans H; rw [hy182]; with_reducible exact H2_) | (have H2_ := (Option.bind_some _ _).symm.trans H; with_reducible exact H2_) | with_reducible exact H | (rw [hy182]; exact H) | exact H
  have Ny182 := Aside0.mk hy182
  clear hy182
  replace H := Option.bind_eq_some_iff.mp H
  obtain ⟨⟨t185, t186⟩, A90, H⟩ := H
  replace H : (if t158 = 0 then (if t159 = 0 then (if t163 = 3 then (if t164 = 0 then ((mummerref04_Ints.f k t168 (([1, 1] : List Int))).bind fun t192 => (if t192 = true then (if t169 = 0 then ((mummerref04_Same.f k t178 (([(⟨4, 3, 0, (⟨#[]⟩ : ByteArray)⟩ : S51), (⟨3, 0, 0, (⟨#[97]⟩ : ByteArray)⟩ : S51), (⟨3, 0, 0, (⟨#[98]⟩ : ByteArray)⟩ : S51), (⟨3, 0, 0, (⟨#[97]⟩ : ByteArray)⟩ : S51)] : List (S51)))).bind fun t196 => (if t196 = true then (if t179 = 0 then ((mummerref04_Ints.f k t185 (([4, 2, 4, 4] : List Int))).bind fun t200 => (if t200 = true then (if t186 = 0 then ((data_Symbol.f (⟨#[97, 45, 49]⟩ : ByteArray)).bind fun t201 => (if t201 = true then ((data_Symbol.f (⟨#[45, 49]⟩ : ByteArray)).bind fun t202 => (some (!t202))) else (none))) else (none)) else (none))) else (none)) else (none))) else (none)) else (none))) else (none)) else (none)) else (none)) else (none)) = some r := H
  have A9 := Aside0.mk A90
  clear A90
  by_cases c10 : t158 = 0
  · rw [if_pos c10] at H
    have c10b0 : (t158 == 0) = true := beq_iff_eq.mpr c10
    have c10b1 : (t158 != 0) = false := bne_eq_false_iff_eq.mpr c10
    clear c10
    by_cases c11 : t159 = 0
    · rw [if_pos c11] at H
      have c11b0 : (t159 == 0) = true := beq_iff_eq.mpr c11
      have c11b1 : (t159 != 0) = false := bne_eq_false_iff_eq.mpr c11
      clear c11
      by_cases c12 : t163 = 3
      · rw [if_pos c12] at H
        have c12b0 : (t163 == 3) = true := beq_iff_eq.mpr c12
        have c12b1 : (t163 != 3) = false := bne_eq_false_iff_eq.mpr c12
        clear c12
        by_cases c13 : t164 = 0
        · rw [if_pos c13] at H
          have c13b0 : (t164 == 0) = true := beq_iff_eq.mpr c13
          have c13b1 : (t164 != 0) = false := bne_eq_false_iff_eq.mpr c13
          clear c13
          obtain ⟨y189, hy189⟩ : ∃ y_ : List Int, y_ = (([1, 1] : List Int)) := ⟨_, rfl⟩
          replace H : ((mummerref04_Ints.f k t168 y189).bind fun t192 => (if t192 = true then (if t169 = 0 then ((mummerref04_Same.f k t178 (([(⟨4, 3, 0, (⟨#[]⟩ : ByteArray)⟩ : S51), (⟨3, 0, 0, (⟨#[97]⟩ : ByteArray)⟩ : S51), (⟨3, 0, 0, (⟨#[98]⟩ : ByteArray)⟩ : S51), (⟨3, 0, 0, (⟨#[97]⟩ : ByteArray)⟩ : S51)] : List (S51)))).bind fun t196 => (if t196 = true then (if t179 = 0 then ((mummerref04_Ints.f k t185 (([4, 2, 4, 4] : List Int))).bind fun t200 => (if t200 = true then (if t186 = 0 then ((data_Symbol.f (⟨#[97, 45, 49]⟩ : ByteArray)).bind fun t201 => (if t201 = true then ((data_Symbol.f (⟨#[45, 49]⟩ : ByteArray)).bind fun t202 => (some (!t202))) else (none))) else (none)) else (none))) else (none)) else (none))) else (none)) else (none))) = some r := by first | (rw [hy189]; with_reducible exact H) | (have H2_ := (Option.bind_some _ _).symm.trans H; rw [hy189]; with_reducible exact H2_) | (have H2_ := (Option.bind_some _ _).symm.trans H; with_reducible exact H2_) | with_reducible exact H | (rw [hy189]; exact H) | exact H
          have Ny189 := Aside0.mk hy189
          clear hy189
          replace H := Option.bind_eq_some_iff.mp H
          obtain ⟨t192, A140, H⟩ := H
          replace H : (if t192 = true then (if t169 = 0 then ((mummerref04_Same.f k t178 (([(⟨4, 3, 0, (⟨#[]⟩ : ByteArray)⟩ : S51), (⟨3, 0, 0, (⟨#[97]⟩ : ByteArray)⟩ : S51), (⟨3, 0, 0, (⟨#[98]⟩ : ByteArray)⟩ : S51), (⟨3, 0, 0, (⟨#[97]⟩ : ByteArray)⟩ : S51)] : List (S51)))).bind fun t196 => (if t196 = true then (if t179 = 0 then ((mummerref04_Ints.f k t185 (([4, 2, 4, 4] : List Int))).bind fun t200 => (if t200 = true then (if t186 = 0 then ((data_Symbol.f (⟨#[97, 45, 49]⟩ : ByteArray)).bind fun t201 => (if t201 = true then ((data_Symbol.f (⟨#[45, 49]⟩ : ByteArray)).bind fun t202 => (some (!t202))) else (none))) else (none)) else (none))) else (none)) else (none))) else (none)) else (none)) = some r := H
          have A14 := Aside0.mk A140
          clear A140
          by_cases c15 : t192 = true
          · subst c15
            have H1 : (if t169 = 0 then ((mummerref04_Same.f k t178 (([(⟨4, 3, 0, (⟨#[]⟩ : ByteArray)⟩ : S51), (⟨3, 0, 0, (⟨#[97]⟩ : ByteArray)⟩ : S51), (⟨3, 0, 0, (⟨#[98]⟩ : ByteArray)⟩ : S51), (⟨3, 0, 0, (⟨#[97]⟩ : ByteArray)⟩ : S51)] : List (S51)))).bind fun t196 => (if t196 = true then (if t179 = 0 then ((mummerref04_Ints.f k t185 (([4, 2, 4, 4] : List Int))).bind fun t200 => (if t200 = true then (if t186 = 0 then ((data_Symbol.f (⟨#[97, 45, 49]⟩ : ByteArray)).bind fun t201 => (if t201 = true then ((data_Symbol.f (⟨#[45, 49]⟩ : ByteArray)).bind fun t202 => (some (!t202))) else (none))) else (none)) else (none))) else (none)) else (none))) else (none)) = some r := by rw [if_pos rfl] at H; exact H
            clear H
            have H := H1
            clear H1
            by_cases c16 : t169 = 0
            · rw [if_pos c16] at H
              have c16b0 : (t169 == 0) = true := beq_iff_eq.mpr c16
              have c16b1 : (t169 != 0) = false := bne_eq_false_iff_eq.mpr c16
              clear c16
              obtain ⟨y193, hy193⟩ : ∃ y_ : List (S51), y_ = (([(⟨4, 3, 0, (⟨#[]⟩ : ByteArray)⟩ : S51), (⟨3, 0, 0, (⟨#[97]⟩ : ByteArray)⟩ : S51), (⟨3, 0, 0, (⟨#[98]⟩ : ByteArray)⟩ : S51), (⟨3, 0, 0, (⟨#[97]⟩ : ByteArray)⟩ : S51)] : List (S51))) := ⟨_, rfl⟩
              replace H : ((mummerref04_Same.f k t178 y193).bind fun t196 => (if t196 = true then (if t179 = 0 then ((mummerref04_Ints.f k t185 (([4, 2, 4, 4] : List Int))).bind fun t200 => (if t200 = true then (if t186 = 0 then ((data_Symbol.f (⟨#[97, 45, 49]⟩ : ByteArray)).bind fun t201 => (if t201 = true then ((data_Symbol.f (⟨#[45, 49]⟩ : ByteArray)).bind fun t202 => (some (!t202))) else (none))) else (none)) else (none))) else (none)) else (none))) = some r := by first | (rw [hy193]; with_reducible exact H) | (have H2_ := (Option.bind_some _ _).symm.trans H; rw [hy193]; with_reducible exact H2_) | (have H2_ := (Option.bind_some _ _).symm.trans H; with_reducible exact H2_) | with_reducible exact H | (rw [hy193]; exact H) | exact H
              have Ny193 := Aside0.mk hy193
              clear hy193
              replace H := Option.bind_eq_some_iff.mp H
              obtain ⟨t196, A170, H⟩ := H
              replace H : (if t196 = true then (if t179 = 0 then ((mummerref04_Ints.f k t185 (([4, 2, 4, 4] : List Int))).bind fun t200 => (if t200 = true then (if t186 = 0 then ((data_Symbol.f (⟨#[97, 45, 49]⟩ : ByteArray)).bind fun t201 => (if t201 = true then ((data_Symbol.f (⟨#[45, 49]⟩ : ByteArray)).bind fun t202 => (some (!t202))) else (none))) else (none)) else (none))) else (none)) else (none)) = some r := H
              have A17 := Aside0.mk A170
              clear A170
              by_cases c18 : t196 = true
              · subst c18
                have H1 : (if t179 = 0 then ((mummerref04_Ints.f k t185 (([4, 2, 4, 4] : List Int))).bind fun t200 => (if t200 = true then (if t186 = 0 then ((data_Symbol.f (⟨#[97, 45, 49]⟩ : ByteArray)).bind fun t201 => (if t201 = true then ((data_Symbol.f (⟨#[45, 49]⟩ : ByteArray)).bind fun t202 => (some (!t202))) else (none))) else (none)) else (none))) else (none)) = some r := by rw [if_pos rfl] at H; exact H
                clear H
                have H := H1
                clear H1
                by_cases c19 : t179 = 0
                · rw [if_pos c19] at H
                  have c19b0 : (t179 == 0) = true := beq_iff_eq.mpr c19
                  have c19b1 : (t179 != 0) = false := bne_eq_false_iff_eq.mpr c19
                  clear c19
                  obtain ⟨y197, hy197⟩ : ∃ y_ : List Int, y_ = (([4, 2, 4, 4] : List Int)) := ⟨_, rfl⟩
                  replace H : ((mummerref04_Ints.f k t185 y197).bind fun t200 => (if t200 = true then (if t186 = 0 then ((data_Symbol.f (⟨#[97, 45, 49]⟩ : ByteArray)).bind fun t201 => (if t201 = true then ((data_Symbol.f (⟨#[45, 49]⟩ : ByteArray)).bind fun t202 => (some (!t202))) else (none))) else (none)) else (none))) = some r := by first | (rw [hy197]; with_reducible exact H) | (have H2_ := (Option.bind_some _ _).symm.trans H; rw [hy197]; with_reducible exact H2_) | (have H2_ := (Option.bind_some _ _).symm.trans H; with_reducible exact H2_) | with_reducible exact H | (rw [hy197]; exact H) | exact H
                  have Ny197 := Aside0.mk hy197
                  clear hy197
                  replace H := Option.bind_eq_some_iff.mp H
                  obtain ⟨t200, A200, H⟩ := H
                  replace H : (if t200 = true then (if t186 = 0 then ((data_Symbol.f (⟨#[97, 45, 49]⟩ : ByteArray)).bind fun t201 => (if t201 = true then ((data_Symbol.f (⟨#[45, 49]⟩ : ByteArray)).bind fun t202 => (some (!t202))) else (none))) else (none)) else (none)) = some r := H
                  have A20 := Aside0.mk A200
                  clear A200
                  by_cases c21 : t200 = true
                  · subst c21
                    have H1 : (if t186 = 0 then ((data_Symbol.f (⟨#[97, 45, 49]⟩ : ByteArray)).bind fun t201 => (if t201 = true then ((data_Symbol.f (⟨#[45, 49]⟩ : ByteArray)).bind fun t202 => (some (!t202))) else (none))) else (none)) = some r := by rw [if_pos rfl] at H; exact H
                    clear H
                    have H := H1
                    clear H1
                    by_cases c22 : t186 = 0
                    · rw [if_pos c22] at H
                      have c22b0 : (t186 == 0) = true := beq_iff_eq.mpr c22
                      have c22b1 : (t186 != 0) = false := bne_eq_false_iff_eq.mpr c22
                      clear c22
                      replace H := Option.bind_eq_some_iff.mp H
                      obtain ⟨t201, A230, H⟩ := H
                      replace H : (if t201 = true then ((data_Symbol.f (⟨#[45, 49]⟩ : ByteArray)).bind fun t202 => (some (!t202))) else (none)) = some r := H
                      have A23 := Aside0.mk A230
                      clear A230
                      by_cases c24 : t201 = true
                      · subst c24
                        have H1 : ((data_Symbol.f (⟨#[45, 49]⟩ : ByteArray)).bind fun t202 => (some (!t202))) = some r := by rw [if_pos rfl] at H; exact H
                        clear H
                        have H := H1
                        clear H1
                        replace H := Option.bind_eq_some_iff.mp H
                        obtain ⟨t202, A250, H⟩ := H
                        replace H : (some (!t202)) = some r := H
                        have A25 := Aside0.mk A250
                        clear A250
                        obtain rfl := Option.some.inj H
                        go_enter Tryd.func13, Tryd.ntmps13
                        go_wp2_with (first | ((with_reducible refine gate_callee (f := 44) rfl ?_); refine goesL_ (some 12) rfl rfl Tryd.func44 (by kernel_rfl) rfl #[] rfl (by (try simp only [List.map_toArray, List.map_cons, List.map_nil]); first | done | rfl | (simp only [List.length_drop, List.length_take]; rfl)) ?_; (with_reducible refine (mummerlaw04_Example.calls  t155 _ A1.out).mono ?_); rintro e w26 ⟨v156, rfl, ho0, hb⟩; refine ⟨_, rfl, ?_⟩; have n0_ := Aside0.mk (Kd.R_lower ho0 (below_size (by repeat (first | (with_reducible first | exact HB.out | apply below_alloc | apply pw_below_drewN | apply below_drew1) | exact HB.out)))); have n1_ := Aside0.mk (below_step (by repeat (first | (with_reducible first | exact HB.out | apply below_alloc | apply pw_below_drewN | apply below_drew1) | exact HB.out)) hb); clear HB; have HO157 := n0_; have HB := n1_; clear n0_ n1_; (try clear hb); (try clear hb2); (try clear hk); (try clear hi); (try clear ho0); obtain ⟨Ao27, co27, eo27⟩ := Kd.R_slice HO157.out; subst eo27) | ((with_reducible refine gate_callee (f := 14) rfl ?_); refine goesL_ (some 13) rfl rfl Tryd.func14 (by kernel_rfl) rfl #[.slice Ao27 t155.length co27] rfl (by (try simp only [List.map_toArray, List.map_cons, List.map_nil]); first | done | rfl | (simp only [List.length_drop, List.length_take]; rfl)) ?_; (with_reducible refine (data_Check.calls k _ _ t155 t158 t159 _ ?side1 ?side2 ?side3 A2.out).mono ?_); (case side1 => repeat (first | exact (Kd.R_reads' HO157.out).2.2 | (with_reducible refine Kd.C_alloc ?_ _) | (with_reducible refine Kd.C_drewN ?_ _) | (with_reducible refine Kd.C_drew ?_))); (case side2 => exact (Kd.R_reads' HO157.out).2.1); (case side3 => exact G0_keep HGl.out (by repeat (first | (with_reducible first | exact HB.out | apply below_alloc | apply pw_below_drewN | apply below_drew1) | exact HB.out))); rintro e w28 ⟨rfl, hb⟩; refine ⟨_, rfl, ?_⟩; have n0_ := Aside0.mk (Kd.R_below (by (with_reducible repeat (first | apply Kd.R_alloc | apply Kd.R_drewN | apply Kd.R_drew)); exact HO157.out) hb); have n1_ := Aside0.mk (below_step (by repeat (first | (with_reducible first | exact HB.out | apply below_alloc | apply pw_below_drewN | apply below_drew1) | exact HB.out)) hb); clear HO157; clear HB; have HO157 := n0_; have HB := n1_; clear n0_ n1_; (try clear hb); (try clear hb2); (try clear hk); (try clear hi)) | ((with_reducible refine gate_callee (f := 44) rfl ?_); refine goesL_ (some 17) rfl rfl Tryd.func44 (by kernel_rfl) rfl #[] rfl (by (try simp only [List.map_toArray, List.map_cons, List.map_nil]); first | done | rfl | (simp only [List.length_drop, List.length_take]; rfl)) ?_; (with_reducible refine (mummerlaw04_Example.calls  t160 _ A3.out).mono ?_); rintro e w29 ⟨v161, rfl, ho0, hb⟩; refine ⟨_, rfl, ?_⟩; have n0_ := Aside0.mk (Kd.R_elder' (by (with_reducible repeat (first | apply Kd.R_alloc | apply Kd.R_drewN | apply Kd.R_drew)); exact HO157.out) (Kd.R_base ho0) hb); have n1_ := Aside0.mk (Kd.R_lower (Kd.R_new' ho0 (Kd.R_lt (by (with_reducible repeat (first | apply Kd.R_alloc | apply Kd.R_drewN | apply Kd.R_drew)); exact HO157.out))) (below_size (by repeat (first | (with_reducible first | exact HB.out | apply below_alloc | apply pw_below_drewN | apply below_drew1) | exact HB.out)))); have n2_ := Aside0.mk (below_step (by repeat (first | (with_reducible first | exact HB.out | apply below_alloc | apply pw_below_drewN | apply below_drew1) | exact HB.out)) hb); clear HO157; clear HB; have HO157 := n0_; have HO162 := n1_; have HB := n2_; clear n0_ n1_ n2_; (try clear hb); (try clear hb2); (try clear hk); (try clear hi); (try clear ho0); obtain ⟨Ao30, co30, eo30⟩ := Kd.R_slice HO162.out; subst eo30) | ((with_reducible refine gate_callee (f := 23) rfl ?_); refine goesL_ (some 18) rfl rfl Tryd.func23 (by kernel_rfl) rfl #[.slice Ao30 t160.length co30, .int .i64 2] rfl (by (try simp only [List.map_toArray, List.map_cons, List.map_nil]); first | done | rfl | (simp only [List.length_drop, List.length_take]; rfl)) ?_; (with_reducible refine (data_Size.calls k _ _ t160 2 t163 t164 _ ?side1 ?side2 ?side3 A4.out).mono ?_); (case side1 => repeat (first | exact (Kd.R_reads' HO162.out).2.2 | (with_reducible refine Kd.C_alloc ?_ _) | (with_reducible refine Kd.C_drewN ?_ _) | (with_reducible refine Kd.C_drew ?_))); (case side2 => exact (Kd.R_reads' HO162.out).2.1); (case side3 => exact G0_keep HGl.out (by repeat (first | (with_reducible first | exact HB.out | apply below_alloc | apply pw_below_drewN | apply below_drew1) | exact HB.out))); rintro e w31 ⟨rfl, hb⟩; refine ⟨_, rfl, ?_⟩; have n0_ := Aside0.mk (Kd.R_below (by (with_reducible repeat (first | apply Kd.R_alloc | apply Kd.R_drewN | apply Kd.R_drew)); exact HO157.out) hb); have n1_ := Aside0.mk (Kd.R_below (by (with_reducible repeat (first | apply Kd.R_alloc | apply Kd.R_drewN | apply Kd.R_drew)); exact HO162.out) hb); have n2_ := Aside0.mk (below_step (by repeat (first | (with_reducible first | exact HB.out | apply below_alloc | apply pw_below_drewN | apply below_drew1) | exact HB.out)) hb); clear HO157; clear HO162; clear HB; have HO157 := n0_; have HO162 := n1_; have HB := n2_; clear n0_ n1_ n2_; (try clear hb); (try clear hb2); (try clear hk); (try clear hi)) | ((with_reducible refine gate_callee (f := 44) rfl ?_); refine goesL_ (some 22) rfl rfl Tryd.func44 (by kernel_rfl) rfl #[] rfl (by (try simp only [List.map_toArray, List.map_cons, List.map_nil]); first | done | rfl | (simp only [List.length_drop, List.length_take]; rfl)) ?_; (with_reducible refine (mummerlaw04_Example.calls  t165 _ A5.out).mono ?_); rintro e w32 ⟨v166, rfl, ho0, hb⟩; refine ⟨_, rfl, ?_⟩; have n0_ := Aside0.mk (Kd.R_elder' (by (with_reducible repeat (first | apply Kd.R_alloc | apply Kd.R_drewN | apply Kd.R_drew)); exact HO157.out) (Kd.R_base ho0) hb); have n1_ := Aside0.mk (Kd.R_elder' (by (with_reducible repeat (first | apply Kd.R_alloc | apply Kd.R_drewN | apply Kd.R_drew)); exact HO162.out) (Kd.R_base ho0) hb); have n2_ := Aside0.mk (Kd.R_lower (Kd.R_new' (Kd.R_new' ho0 (Kd.R_lt (by (with_reducible repeat (first | apply Kd.R_alloc | apply Kd.R_drewN | apply Kd.R_drew)); exact HO157.out))) (Kd.R_lt (by (with_reducible repeat (first | apply Kd.R_alloc | apply Kd.R_drewN | apply Kd.R_drew)); exact HO162.out))) (below_size (by repeat (first | (with_reducible first | exact HB.out | apply below_alloc | apply pw_below_drewN | apply below_drew1) | exact HB.out)))); have n3_ := Aside0.mk (below_step (by repeat (first | (with_reducible first | exact HB.out | apply below_alloc | apply pw_below_drewN | apply below_drew1) | exact HB.out)) hb); clear HO157; clear HO162; clear HB; have HO157 := n0_; have HO162 := n1_; have HO167 := n2_; have HB := n3_; clear n0_ n1_ n2_ n3_; (try clear hb); (try clear hb2); (try clear hk); (try clear hi); (try clear ho0); obtain ⟨Ao33, co33, eo33⟩ := Kd.R_slice HO167.out; subst eo33) | ((with_reducible refine gate_callee (f := 37) rfl ?_); refine goesL_ (some 23) rfl rfl Tryd.func37 (by kernel_rfl) rfl #[.slice Ao33 t165.length co33, .int .i64 4] rfl (by (try simp only [List.map_toArray, List.map_cons, List.map_nil]); first | done | rfl | (simp only [List.length_drop, List.length_take]; rfl)) ?_; (with_reducible refine (data_Path.calls _ _ t165 4 t168 t169 _ ?side1 ?side2 ?side3 A6.out).mono ?_); (case side1 => repeat (first | exact (Kd.R_reads' HO167.out).2.2 | (with_reducible refine Kd.C_alloc ?_ _) | (with_reducible refine Kd.C_drewN ?_ _) | (with_reducible refine Kd.C_drew ?_))); (case side2 => exact (Kd.R_reads' HO167.out).2.1); (case side3 => exact G0_keep HGl.out (by repeat (first | (with_reducible first | exact HB.out | apply below_alloc | apply pw_below_drewN | apply below_drew1) | exact HB.out))); rintro e w34 ⟨v170, rfl, ho0, hb⟩; refine ⟨_, rfl, ?_⟩; have n0_ := Aside0.mk (Kd.R_below (by (with_reducible repeat (first | apply Kd.R_alloc | apply Kd.R_drewN | apply Kd.R_drew)); exact HO157.out) hb); have n1_ := Aside0.mk (Kd.R_below (by (with_reducible repeat (first | apply Kd.R_alloc | apply Kd.R_drewN | apply Kd.R_drew)); exact HO162.out) hb); have n2_ := Aside0.mk (Kd.R_below (by (with_reducible repeat (first | apply Kd.R_alloc | apply Kd.R_drewN | apply Kd.R_drew)); exact HO167.out) hb); have n3_ := Aside0.mk (Kd.R_lower ho0 (below_size (by repeat (first | (with_reducible first | exact HB.out | apply below_alloc | apply pw_below_drewN | apply below_drew1) | exact HB.out)))); have n4_ := Aside0.mk (below_step (by repeat (first | (with_reducible first | exact HB.out | apply below_alloc | apply pw_below_drewN | apply below_drew1) | exact HB.out)) hb); clear HO157; clear HO162; clear HO167; clear HB; have HO157 := n0_; have HO162 := n1_; have HO167 := n2_; have HO171 := n3_; have HB := n4_; clear n0_ n1_ n2_ n3_ n4_; (try clear hb); (try clear hb2); (try clear hk); (try clear hi); (try clear ho0)) | ((with_reducible refine gate_callee (f := 44) rfl ?_); refine goesL_ (some 27) rfl rfl Tryd.func44 (by kernel_rfl) rfl #[] rfl (by (try simp only [List.map_toArray, List.map_cons, List.map_nil]); first | done | rfl | (simp only [List.length_drop, List.length_take]; rfl)) ?_; (with_reducible refine (mummerlaw04_Example.calls  t172 _ A7.out).mono ?_); rintro e w35 ⟨v173, rfl, ho0, hb⟩; refine ⟨_, rfl, ?_⟩; have n0_ := Aside0.mk (Kd.R_elder' (by (with_reducible repeat (first | apply Kd.R_alloc | apply Kd.R_drewN | apply Kd.R_drew)); exact HO157.out) (Kd.R_base ho0) hb); have n1_ := Aside0.mk (Kd.R_elder' (by (with_reducible repeat (first | apply Kd.R_alloc | apply Kd.R_drewN | apply Kd.R_drew)); exact HO162.out) (Kd.R_base ho0) hb); have n2_ := Aside0.mk (Kd.R_elder' (by (with_reducible repeat (first | apply Kd.R_alloc | apply Kd.R_drewN | apply Kd.R_drew)); exact HO167.out) (Kd.R_base ho0) hb); have n3_ := Aside0.mk (Kd.R_below (by (with_reducible repeat (first | apply Kd.R_alloc | apply Kd.R_drewN | apply Kd.R_drew)); exact HO171.out) hb); have n4_ := Aside0.mk (Kd.R_lower (Kd.R_new' (Kd.R_new' (Kd.R_new' ho0 (Kd.R_lt (by (with_reducible repeat (first | apply Kd.R_alloc | apply Kd.R_drewN | apply Kd.R_drew)); exact HO157.out))) (Kd.R_lt (by (with_reducible repeat (first | apply Kd.R_alloc | apply Kd.R_drewN | apply Kd.R_drew)); exact HO162.out))) (Kd.R_lt (by (with_reducible repeat (first | apply Kd.R_alloc | apply Kd.R_drewN | apply Kd.R_drew)); exact HO167.out))) (below_size (by repeat (first | (with_reducible first | exact HB.out | apply below_alloc | apply pw_below_drewN | apply below_drew1) | exact HB.out)))); have n5_ := Aside0.mk (below_step (by repeat (first | (with_reducible first | exact HB.out | apply below_alloc | apply pw_below_drewN | apply below_drew1) | exact HB.out)) hb); clear HO157; clear HO162; clear HO167; clear HO171; clear HB; have HO157 := n0_; have HO162 := n1_; have HO167 := n2_; have HO171 := n3_; have HO174 := n4_; have HB := n5_; clear n0_ n1_ n2_ n3_ n4_ n5_; (try clear hb); (try clear hb2); (try clear hk); (try clear hi); (try clear ho0)) | ((with_reducible refine gate_dst (N := 29) rfl ?_); (try (refine gate_guard (by rfl) ?_; dsimp only)); refine Kd.R_lit k51 _ 51 ?hg (N := 29) ?hd (xs := ([(⟨3, 0, 0, (⟨#[98]⟩ : ByteArray)⟩ : S51)] : List (S51))) (inner := [.int .i64 3, .int .i64 0, .int .i64 0, .string (⟨#[98]⟩ : ByteArray)]) (ok := fun _ => True) (okp := fun _ => True) ?hr ?hp (fun _ hk => hk) trivial (Below.refl _ _) (Nat.le_refl _) (by simp) ?_; (case hd => rfl); (case hg => rfl); (case hr => first | (go_simp; done) | (go_simp; rfl)); (case hp => exact (Reps.c4 (show Kd.M k51 _ _ _ (⟨3, 0, 0, (⟨#[98]⟩ : ByteArray)⟩ : S51) [.int .i64 3, .int .i64 0, .int .i64 0, .string (⟨#[98]⟩ : ByteArray)] from (k51_mkM _ _ _ (⟨3, 0, 0, (⟨#[98]⟩ : ByteArray)⟩ : S51) )) (Reps.none _ _))); intro v176 w36 ho37 hb hg_ hnew_; clear hg_ hnew_; (first | rw [← Ny175.out] at ho37 | (simp only [Int.reduceToNat] at ho37; rw [← Ny175.out] at ho37)); have n0_ := Aside0.mk (Kd.R_elder' (by (with_reducible repeat (first | apply Kd.R_alloc | apply Kd.R_drewN | apply Kd.R_drew)); exact HO157.out) (Kd.R_base ho37) hb); have n1_ := Aside0.mk (Kd.R_elder' (by (with_reducible repeat (first | apply Kd.R_alloc | apply Kd.R_drewN | apply Kd.R_drew)); exact HO162.out) (Kd.R_base ho37) hb); have n2_ := Aside0.mk (Kd.R_elder' (by (with_reducible repeat (first | apply Kd.R_alloc | apply Kd.R_drewN | apply Kd.R_drew)); exact HO167.out) (Kd.R_base ho37) hb); have n3_ := Aside0.mk (Kd.R_below (by (with_reducible repeat (first | apply Kd.R_alloc | apply Kd.R_drewN | apply Kd.R_drew)); exact HO171.out) hb); have n4_ := Aside0.mk (Kd.R_elder' (by (with_reducible repeat (first | apply Kd.R_alloc | apply Kd.R_drewN | apply Kd.R_drew)); exact HO174.out) (Kd.R_base ho37) hb); have n5_ := Aside0.mk (Kd.R_lower (Kd.R_new' (Kd.R_new' (Kd.R_new' (Kd.R_new' ho37 (Kd.R_lt (by (with_reducible repeat (first | apply Kd.R_alloc | apply Kd.R_drewN | apply Kd.R_drew)); exact HO157.out))) (Kd.R_lt (by (with_reducible repeat (first | apply Kd.R_alloc | apply Kd.R_drewN | apply Kd.R_drew)); exact HO162.out))) (Kd.R_lt (by (with_reducible repeat (first | apply Kd.R_alloc | apply Kd.R_drewN | apply Kd.R_drew)); exact HO167.out))) (Kd.R_lt (by (with_reducible repeat (first | apply Kd.R_alloc | apply Kd.R_drewN | apply Kd.R_drew)); exact HO174.out))) (below_size (by repeat (first | (with_reducible first | exact HB.out | apply below_alloc | apply pw_below_drewN | apply below_drew1) | exact HB.out)))); have n6_ := Aside0.mk (below_step (by repeat (first | (with_reducible first | exact HB.out | apply below_alloc | apply pw_below_drewN | apply below_drew1) | exact HB.out)) hb); clear HO157; clear HO162; clear HO167; clear HO171; clear HO174; clear HB; have HO157 := n0_; have HO162 := n1_; have HO167 := n2_; have HO171 := n3_; have HO174 := n4_; have HO177 := n5_; have HB := n6_; clear n0_ n1_ n2_ n3_ n4_ n5_ n6_; clear hb ho37; obtain ⟨Ao38, co38, eo38⟩ := Kd.R_slice HO174.out; subst eo38; obtain ⟨Ao39, co39, eo39⟩ := Kd.R_slice HO177.out; subst eo39) | ((with_reducible refine gate_callee (f := 21) rfl ?_); refine goesL_ (some 30) rfl rfl Tryd.func21 (by kernel_rfl) rfl #[.slice Ao38 t172.length co38, .int .i64 2, .slice Ao39 y175.length co39] rfl (by (try simp only [List.map_toArray, List.map_cons, List.map_nil]); first | done | rfl | (simp only [List.length_drop, List.length_take]; rfl)) ?_; (with_reducible refine (data_Put.calls _ _ t172 2 _ _ y175 t178 t179 _ ?side1 ?side2 ?side3 ?side4 ?side5 A8.out).mono ?_); (case side1 => repeat (first | exact (Kd.R_reads' HO174.out).2.2 | (with_reducible refine Kd.C_alloc ?_ _) | (with_reducible refine Kd.C_drewN ?_ _) | (with_reducible refine Kd.C_drew ?_))); (case side2 => exact (Kd.R_reads' HO174.out).2.1); (case side3 => repeat (first | exact (Kd.R_reads' HO177.out).2.2 | (with_reducible refine Kd.C_alloc ?_ _) | (with_reducible refine Kd.C_drewN ?_ _) | (with_reducible refine Kd.C_drew ?_))); (case side4 => exact (Kd.R_reads' HO177.out).2.1); (case side5 => exact G0_keep HGl.out (by repeat (first | (with_reducible first | exact HB.out | apply below_alloc | apply pw_below_drewN | apply below_drew1) | exact HB.out))); rintro e w40 ⟨v180, rfl, ho0, hb⟩; refine ⟨_, rfl, ?_⟩; have n0_ := Aside0.mk (Kd.R_elder' (by (with_reducible repeat (first | apply Kd.R_alloc | apply Kd.R_drewN | apply Kd.R_drew)); exact HO157.out) (Kd.R_base ho0) hb); have n1_ := Aside0.mk (Kd.R_elder' (by (with_reducible repeat (first | apply Kd.R_alloc | apply Kd.R_drewN | apply Kd.R_drew)); exact HO162.out) (Kd.R_base ho0) hb); have n2_ := Aside0.mk (Kd.R_elder' (by (with_reducible repeat (first | apply Kd.R_alloc | apply Kd.R_drewN | apply Kd.R_drew)); exact HO167.out) (Kd.R_base ho0) hb); have n3_ := Aside0.mk (Kd.R_below (by (with_reducible repeat (first | apply Kd.R_alloc | apply Kd.R_drewN | apply Kd.R_drew)); exact HO171.out) hb); have n4_ := Aside0.mk (Kd.R_elder' (by (with_reducible repeat (first | apply Kd.R_alloc | apply Kd.R_drewN | apply Kd.R_drew)); exact HO174.out) (Kd.R_base ho0) hb); have n5_ := Aside0.mk (Kd.R_elder' (by (with_reducible repeat (first | apply Kd.R_alloc | apply Kd.R_drewN | apply Kd.R_drew)); exact HO177.out) (Kd.R_base ho0) hb); have n6_ := Aside0.mk (Kd.R_lower (Kd.R_new' (Kd.R_new' (Kd.R_new' (Kd.R_new' (Kd.R_new' ho0 (Kd.R_lt (by (with_reducible repeat (first | apply Kd.R_alloc | apply Kd.R_drewN | apply Kd.R_drew)); exact HO157.out))) (Kd.R_lt (by (with_reducible repeat (first | apply Kd.R_alloc | apply Kd.R_drewN | apply Kd.R_drew)); exact HO162.out))) (Kd.R_lt (by (with_reducible repeat (first | apply Kd.R_alloc | apply Kd.R_drewN | apply Kd.R_drew)); exact HO167.out))) (Kd.R_lt (by (with_reducible repeat (first | apply Kd.R_alloc | apply Kd.R_drewN | apply Kd.R_drew)); exact HO174.out))) (Kd.R_lt (by (with_reducible repeat (first | apply Kd.R_alloc | apply Kd.R_drewN | apply Kd.R_drew)); exact HO177.out))) (below_size (by repeat (first | (with_reducible first | exact HB.out | apply below_alloc | apply pw_below_drewN | apply below_drew1) | exact HB.out)))); have n7_ := Aside0.mk (below_step (by repeat (first | (with_reducible first | exact HB.out | apply below_alloc | apply pw_below_drewN | apply below_drew1) | exact HB.out)) hb); clear HO157; clear HO162; clear HO167; clear HO171; clear HO174; clear HO177; clear HB; have HO157 := n0_; have HO162 := n1_; have HO167 := n2_; have HO171 := n3_; have HO174 := n4_; have HO177 := n5_; have HO181 := n6_; have HB := n7_; clear n0_ n1_ n2_ n3_ n4_ n5_ n6_ n7_; (try clear hb); (try clear hb2); (try clear hk); (try clear hi); (try clear ho0)) | ((with_reducible refine gate_dst (N := 34) rfl ?_); (try (refine gate_guard (by rfl) ?_; dsimp only)); refine Kd.R_lit (Kd.int .i64) _ 3 ?hg (N := 34) ?hd (xs := ([2, 0, 1, 0] : List Int)) (inner := [.int .i64 2, .int .i64 0, .int .i64 1, .int .i64 0]) (ok := fun _ => True) (okp := fun _ => True) ?hr ?hp (fun _ hk => hk) trivial (Below.refl _ _) (Nat.le_refl _) (by simp) ?_; (case hd => rfl); (case hg => rfl); (case hr => first | (go_simp; done) | (go_simp; rfl)); (case hp => exact (Reps.one (show Kd.M (Kd.int .i64) _ _ _ 2 [.int .i64 2] from rfl) (Reps.one (show Kd.M (Kd.int .i64) _ _ _ 0 [.int .i64 0] from rfl) (Reps.one (show Kd.M (Kd.int .i64) _ _ _ 1 [.int .i64 1] from rfl) (Reps.one (show Kd.M (Kd.int .i64) _ _ _ 0 [.int .i64 0] from rfl) (Reps.none _ _)))))); intro v183 w41 ho42 hb hg_ hnew_; clear hg_ hnew_; (first | rw [← Ny182.out] at ho42 | (simp only [Int.reduceToNat] at ho42; rw [← Ny182.out] at ho42)); have n0_ := Aside0.mk (Kd.R_below (by (with_reducible repeat (first | apply Kd.R_alloc | apply Kd.R_drewN | apply Kd.R_drew)); exact HO157.out) hb); have n1_ := Aside0.mk (Kd.R_below (by (with_reducible repeat (first | apply Kd.R_alloc | apply Kd.R_drewN | apply Kd.R_drew)); exact HO162.out) hb); have n2_ := Aside0.mk (Kd.R_below (by (with_reducible repeat (first | apply Kd.R_alloc | apply Kd.R_drewN | apply Kd.R_drew)); exact HO167.out) hb); have n3_ := Aside0.mk (Kd.R_elder' (by (with_reducible repeat (first | apply Kd.R_alloc | apply Kd.R_drewN | apply Kd.R_drew)); exact HO171.out) (Kd.R_base ho42) hb); have n4_ := Aside0.mk (Kd.R_below (by (with_reducible repeat (first | apply Kd.R_alloc | apply Kd.R_drewN | apply Kd.R_drew)); exact HO174.out) hb); have n5_ := Aside0.mk (Kd.R_below (by (with_reducible repeat (first | apply Kd.R_alloc | apply Kd.R_drewN | apply Kd.R_drew)); exact HO177.out) hb); have n6_ := Aside0.mk (Kd.R_below (by (with_reducible repeat (first | apply Kd.R_alloc | apply Kd.R_drewN | apply Kd.R_drew)); exact HO181.out) hb); have n7_ := Aside0.mk (Kd.R_lower (Kd.R_new' ho42 (Kd.R_lt (by (with_reducible repeat (first | apply Kd.R_alloc | apply Kd.R_drewN | apply Kd.R_drew)); exact HO171.out))) (below_size (by repeat (first | (with_reducible first | exact HB.out | apply below_alloc | apply pw_below_drewN | apply below_drew1) | exact HB.out)))); have n8_ := Aside0.mk (below_step (by repeat (first | (with_reducible first | exact HB.out | apply below_alloc | apply pw_below_drewN | apply below_drew1) | exact HB.out)) hb); clear HO157; clear HO162; clear HO167; clear HO171; clear HO174; clear HO177; clear HO181; clear HB; have HO157 := n0_; have HO162 := n1_; have HO167 := n2_; have HO171 := n3_; have HO174 := n4_; have HO177 := n5_; have HO181 := n6_; have HO184 := n7_; have HB := n8_; clear n0_ n1_ n2_ n3_ n4_ n5_ n6_ n7_ n8_; clear hb ho42; obtain ⟨Ao43, co43, eo43⟩ := Kd.R_slice HO184.out; subst eo43) | ((with_reducible refine gate_callee (f := 18) rfl ?_); refine goesL_ (some 35) rfl rfl Tryd.func18 (by kernel_rfl) rfl #[.slice Ao43 y182.length co43] rfl (by (try simp only [List.map_toArray, List.map_cons, List.map_nil]); first | done | rfl | (simp only [List.length_drop, List.length_take]; rfl)) ?_; (with_reducible refine (data_Shape.calls _ _ y182 t185 t186 _ ?side1 ?side2 A9.out).mono ?_); (case side1 => repeat (first | exact (Kd.R_reads' HO184.out).2.2 | (with_reducible refine Kd.C_alloc ?_ _) | (with_reducible refine Kd.C_drewN ?_ _) | (with_reducible refine Kd.C_drew ?_))); (case side2 => exact (Kd.R_reads' HO184.out).2.1); rintro e w44 ⟨v187, rfl, ho0, hb⟩; refine ⟨_, rfl, ?_⟩; have n0_ := Aside0.mk (Kd.R_below (by (with_reducible repeat (first | apply Kd.R_alloc | apply Kd.R_drewN | apply Kd.R_drew)); exact HO157.out) hb); have n1_ := Aside0.mk (Kd.R_below (by (with_reducible repeat (first | apply Kd.R_alloc | apply Kd.R_drewN | apply Kd.R_drew)); exact HO162.out) hb); have n2_ := Aside0.mk (Kd.R_below (by (with_reducible repeat (first | apply Kd.R_alloc | apply Kd.R_drewN | apply Kd.R_drew)); exact HO167.out) hb); have n3_ := Aside0.mk (Kd.R_elder' (by (with_reducible repeat (first | apply Kd.R_alloc | apply Kd.R_drewN | apply Kd.R_drew)); exact HO171.out) (Kd.R_base ho0) hb); have n4_ := Aside0.mk (Kd.R_below (by (with_reducible repeat (first | apply Kd.R_alloc | apply Kd.R_drewN | apply Kd.R_drew)); exact HO174.out) hb); have n5_ := Aside0.mk (Kd.R_below (by (with_reducible repeat (first | apply Kd.R_alloc | apply Kd.R_drewN | apply Kd.R_drew)); exact HO177.out) hb); have n6_ := Aside0.mk (Kd.R_below (by (with_reducible repeat (first | apply Kd.R_alloc | apply Kd.R_drewN | apply Kd.R_drew)); exact HO181.out) hb); have n7_ := Aside0.mk (Kd.R_elder' (by (with_reducible repeat (first | apply Kd.R_alloc | apply Kd.R_drewN | apply Kd.R_drew)); exact HO184.out) (Kd.R_base ho0) hb); have n8_ := Aside0.mk (Kd.R_lower (Kd.R_new' (Kd.R_new' ho0 (Kd.R_lt (by (with_reducible repeat (first | apply Kd.R_alloc | apply Kd.R_drewN | apply Kd.R_drew)); exact HO171.out))) (Kd.R_lt (by (with_reducible repeat (first | apply Kd.R_alloc | apply Kd.R_drewN | apply Kd.R_drew)); exact HO184.out))) (below_size (by repeat (first | (with_reducible first | exact HB.out | apply below_alloc | apply pw_below_drewN | apply below_drew1) | exact HB.out)))); have n9_ := Aside0.mk (below_step (by repeat (first | (with_reducible first | exact HB.out | apply below_alloc | apply pw_below_drewN | apply below_drew1) | exact HB.out)) hb); clear HO157; clear HO162; clear HO167; clear HO171; clear HO174; clear HO177; clear HO181; clear HO184; clear HB; have HO157 := n0_; have HO162 := n1_; have HO167 := n2_; have HO171 := n3_; have HO174 := n4_; have HO177 := n5_; have HO181 := n6_; have HO184 := n7_; have HO188 := n8_; have HB := n9_; clear n0_ n1_ n2_ n3_ n4_ n5_ n6_ n7_ n8_ n9_; (try clear hb); (try clear hb2); (try clear hk); (try clear hi); (try clear ho0)) | ((with_reducible refine gate_dst (N := 54) rfl ?_); (try (refine gate_guard (by rfl) ?_; dsimp only)); refine Kd.R_lit (Kd.int .i64) _ 3 ?hg (N := 54) ?hd (xs := ([1, 1] : List Int)) (inner := [.int .i64 1, .int .i64 1]) (ok := fun _ => True) (okp := fun _ => True) ?hr ?hp (fun _ hk => hk) trivial (Below.refl _ _) (Nat.le_refl _) (by simp) ?_; (case hd => rfl); (case hg => rfl); (case hr => first | (go_simp; done) | (go_simp; rfl)); (case hp => exact (Reps.one (show Kd.M (Kd.int .i64) _ _ _ 1 [.int .i64 1] from rfl) (Reps.one (show Kd.M (Kd.int .i64) _ _ _ 1 [.int .i64 1] from rfl) (Reps.none _ _)))); intro v190 w45 ho46 hb hg_ hnew_; clear hg_ hnew_; (first | rw [← Ny189.out] at ho46 | (simp only [Int.reduceToNat] at ho46; rw [← Ny189.out] at ho46)); have n0_ := Aside0.mk (Kd.R_below (by (with_reducible repeat (first | apply Kd.R_alloc | apply Kd.R_drewN | apply Kd.R_drew)); exact HO157.out) hb); have n1_ := Aside0.mk (Kd.R_below (by (with_reducible repeat (first | apply Kd.R_alloc | apply Kd.R_drewN | apply Kd.R_drew)); exact HO162.out) hb); have n2_ := Aside0.mk (Kd.R_below (by (with_reducible repeat (first | apply Kd.R_alloc | apply Kd.R_drewN | apply Kd.R_drew)); exact HO167.out) hb); have n3_ := Aside0.mk (Kd.R_elder' (by (with_reducible repeat (first | apply Kd.R_alloc | apply Kd.R_drewN | apply Kd.R_drew)); exact HO171.out) (Kd.R_base ho46) hb); have n4_ := Aside0.mk (Kd.R_below (by (with_reducible repeat (first | apply Kd.R_alloc | apply Kd.R_drewN | apply Kd.R_drew)); exact HO174.out) hb); have n5_ := Aside0.mk (Kd.R_below (by (with_reducible repeat (first | apply Kd.R_alloc | apply Kd.R_drewN | apply Kd.R_drew)); exact HO177.out) hb); have n6_ := Aside0.mk (Kd.R_below (by (with_reducible repeat (first | apply Kd.R_alloc | apply Kd.R_drewN | apply Kd.R_drew)); exact HO181.out) hb); have n7_ := Aside0.mk (Kd.R_elder' (by (with_reducible repeat (first | apply Kd.R_alloc | apply Kd.R_drewN | apply Kd.R_drew)); exact HO184.out) (Kd.R_base ho46) hb); have n8_ := Aside0.mk (Kd.R_elder' (by (with_reducible repeat (first | apply Kd.R_alloc | apply Kd.R_drewN | apply Kd.R_drew)); exact HO188.out) (Kd.R_base ho46) hb); have n9_ := Aside0.mk (Kd.R_lower (Kd.R_new' (Kd.R_new' (Kd.R_new' ho46 (Kd.R_lt (by (with_reducible repeat (first | apply Kd.R_alloc | apply Kd.R_drewN | apply Kd.R_drew)); exact HO171.out))) (Kd.R_lt (by (with_reducible repeat (first | apply Kd.R_alloc | apply Kd.R_drewN | apply Kd.R_drew)); exact HO184.out))) (Kd.R_lt (by (with_reducible repeat (first | apply Kd.R_alloc | apply Kd.R_drewN | apply Kd.R_drew)); exact HO188.out))) (below_size (by repeat (first | (with_reducible first | exact HB.out | apply below_alloc | apply pw_below_drewN | apply below_drew1) | exact HB.out)))); have n10_ := Aside0.mk (below_step (by repeat (first | (with_reducible first | exact HB.out | apply below_alloc | apply pw_below_drewN | apply below_drew1) | exact HB.out)) hb); clear HO157; clear HO162; clear HO167; clear HO171; clear HO174; clear HO177; clear HO181; clear HO184; clear HO188; clear HB; have HO157 := n0_; have HO162 := n1_; have HO167 := n2_; have HO171 := n3_; have HO174 := n4_; have HO177 := n5_; have HO181 := n6_; have HO184 := n7_; have HO188 := n8_; have HO191 := n9_; have HB := n10_; clear n0_ n1_ n2_ n3_ n4_ n5_ n6_ n7_ n8_ n9_ n10_; clear hb ho46; obtain ⟨Ao47, co47, eo47⟩ := Kd.R_slice HO171.out; subst eo47; obtain ⟨Ao48, co48, eo48⟩ := Kd.R_slice HO191.out; subst eo48) | (go_at_call 20; (with_reducible refine (mummerref04_Ints.calls k _ _ t168 _ _ y189 true _ ?side1 ?side2 ?side3 ?side4 A14.out).mono ?_); (case side1 => repeat (first | exact (Kd.R_reads' HO171.out).2.2 | (with_reducible refine Kd.C_alloc ?_ _) | (with_reducible refine Kd.C_drewN ?_ _) | (with_reducible refine Kd.C_drew ?_))); (case side2 => exact (Kd.R_reads' HO171.out).2.1); (case side3 => repeat (first | exact (Kd.R_reads' HO191.out).2.2 | (with_reducible refine Kd.C_alloc ?_ _) | (with_reducible refine Kd.C_drewN ?_ _) | (with_reducible refine Kd.C_drew ?_))); (case side4 => exact (Kd.R_reads' HO191.out).2.1); rintro e w' ⟨rfl, ⟨nd, rfl⟩⟩) | ((with_reducible refine gate_dst (N := 67) rfl ?_); (try (refine gate_guard (by rfl) ?_; dsimp only)); refine Kd.R_lit k51 _ 51 ?hg (N := 67) ?hd (xs := ([(⟨4, 3, 0, (⟨#[]⟩ : ByteArray)⟩ : S51), (⟨3, 0, 0, (⟨#[97]⟩ : ByteArray)⟩ : S51), (⟨3, 0, 0, (⟨#[98]⟩ : ByteArray)⟩ : S51), (⟨3, 0, 0, (⟨#[97]⟩ : ByteArray)⟩ : S51)] : List (S51))) (inner := [.int .i64 4, .int .i64 3, .int .i64 0, .string (⟨#[]⟩ : ByteArray), .int .i64 3, .int .i64 0, .int .i64 0, .string (⟨#[97]⟩ : ByteArray), .int .i64 3, .int .i64 0, .int .i64 0, .string (⟨#[98]⟩ : ByteArray), .int .i64 3, .int .i64 0, .int .i64 0, .string (⟨#[97]⟩ : ByteArray)]) (ok := fun _ => True) (okp := fun _ => True) ?hr ?hp (fun _ hk => hk) trivial (Below.refl _ _) (Nat.le_refl _) (by simp) ?_; (case hd => rfl); (case hg => rfl); (case hr => first | (go_simp; done) | (go_simp; rfl)); (case hp => exact (Reps.c4 (show Kd.M k51 _ _ _ (⟨4, 3, 0, (⟨#[]⟩ : ByteArray)⟩ : S51) [.int .i64 4, .int .i64 3, .int .i64 0, .string (⟨#[]⟩ : ByteArray)] from (k51_mkM _ _ _ (⟨4, 3, 0, (⟨#[]⟩ : ByteArray)⟩ : S51) )) (Reps.c4 (show Kd.M k51 _ _ _ (⟨3, 0, 0, (⟨#[97]⟩ : ByteArray)⟩ : S51) [.int .i64 3, .int .i64 0, .int .i64 0, .string (⟨#[97]⟩ : ByteArray)] from (k51_mkM _ _ _ (⟨3, 0, 0, (⟨#[97]⟩ : ByteArray)⟩ : S51) )) (Reps.c4 (show Kd.M k51 _ _ _ (⟨3, 0, 0, (⟨#[98]⟩ : ByteArray)⟩ : S51) [.int .i64 3, .int .i64 0, .int .i64 0, .string (⟨#[98]⟩ : ByteArray)] from (k51_mkM _ _ _ (⟨3, 0, 0, (⟨#[98]⟩ : ByteArray)⟩ : S51) )) (Reps.c4 (show Kd.M k51 _ _ _ (⟨3, 0, 0, (⟨#[97]⟩ : ByteArray)⟩ : S51) [.int .i64 3, .int .i64 0, .int .i64 0, .string (⟨#[97]⟩ : ByteArray)] from (k51_mkM _ _ _ (⟨3, 0, 0, (⟨#[97]⟩ : ByteArray)⟩ : S51) )) (Reps.none _ _)))))); intro v194 w49 ho50 hb hg_ hnew_; clear hg_ hnew_; (first | rw [← Ny193.out] at ho50 | (simp only [Int.reduceToNat] at ho50; rw [← Ny193.out] at ho50)); have n0_ := Aside0.mk (Kd.R_elder' (by (with_reducible repeat (first | apply Kd.R_alloc | apply Kd.R_drewN | apply Kd.R_drew)); exact HO157.out) (Kd.R_base ho50) hb); have n1_ := Aside0.mk (Kd.R_elder' (by (with_reducible repeat (first | apply Kd.R_alloc | apply Kd.R_drewN | apply Kd.R_drew)); exact HO162.out) (Kd.R_base ho50) hb); have n2_ := Aside0.mk (Kd.R_elder' (by (with_reducible repeat (first | apply Kd.R_alloc | apply Kd.R_drewN | apply Kd.R_drew)); exact HO167.out) (Kd.R_base ho50) hb); have n3_ := Aside0.mk (Kd.R_below (by (with_reducible repeat (first | apply Kd.R_alloc | apply Kd.R_drewN | apply Kd.R_drew)); exact HO171.out) hb); have n4_ := Aside0.mk (Kd.R_elder' (by (with_reducible repeat (first | apply Kd.R_alloc | apply Kd.R_drewN | apply Kd.R_drew)); exact HO174.out) (Kd.R_base ho50) hb); have n5_ := Aside0.mk (Kd.R_elder' (by (with_reducible repeat (first | apply Kd.R_alloc | apply Kd.R_drewN | apply Kd.R_drew)); exact HO177.out) (Kd.R_base ho50) hb); have n6_ := Aside0.mk (Kd.R_elder' (by (with_reducible repeat (first | apply Kd.R_alloc | apply Kd.R_drewN | apply Kd.R_drew)); exact HO181.out) (Kd.R_base ho50) hb); have n7_ := Aside0.mk (Kd.R_below (by (with_reducible repeat (first | apply Kd.R_alloc | apply Kd.R_drewN | apply Kd.R_drew)); exact HO184.out) hb); have n8_ := Aside0.mk (Kd.R_below (by (with_reducible repeat (first | apply Kd.R_alloc | apply Kd.R_drewN | apply Kd.R_drew)); exact HO188.out) hb); have n9_ := Aside0.mk (Kd.R_below (by (with_reducible repeat (first | apply Kd.R_alloc | apply Kd.R_drewN | apply Kd.R_drew)); exact HO191.out) hb); have n10_ := Aside0.mk (Kd.R_lower (Kd.R_new' (Kd.R_new' (Kd.R_new' (Kd.R_new' (Kd.R_new' (Kd.R_new' ho50 (Kd.R_lt (by (with_reducible repeat (first | apply Kd.R_alloc | apply Kd.R_drewN | apply Kd.R_drew)); exact HO157.out))) (Kd.R_lt (by (with_reducible repeat (first | apply Kd.R_alloc | apply Kd.R_drewN | apply Kd.R_drew)); exact HO162.out))) (Kd.R_lt (by (with_reducible repeat (first | apply Kd.R_alloc | apply Kd.R_drewN | apply Kd.R_drew)); exact HO167.out))) (Kd.R_lt (by (with_reducible repeat (first | apply Kd.R_alloc | apply Kd.R_drewN | apply Kd.R_drew)); exact HO174.out))) (Kd.R_lt (by (with_reducible repeat (first | apply Kd.R_alloc | apply Kd.R_drewN | apply Kd.R_drew)); exact HO177.out))) (Kd.R_lt (by (with_reducible repeat (first | apply Kd.R_alloc | apply Kd.R_drewN | apply Kd.R_drew)); exact HO181.out))) (below_size (by repeat (first | (with_reducible first | exact HB.out | apply below_alloc | apply pw_below_drewN | apply below_drew1) | exact HB.out)))); have n11_ := Aside0.mk (below_step (by repeat (first | (with_reducible first | exact HB.out | apply below_alloc | apply pw_below_drewN | apply below_drew1) | exact HB.out)) hb); clear HO157; clear HO162; clear HO167; clear HO171; clear HO174; clear HO177; clear HO181; clear HO184; clear HO188; clear HO191; clear HB; have HO157 := n0_; have HO162 := n1_; have HO167 := n2_; have HO171 := n3_; have HO174 := n4_; have HO177 := n5_; have HO181 := n6_; have HO184 := n7_; have HO188 := n8_; have HO191 := n9_; have HO195 := n10_; have HB := n11_; clear n0_ n1_ n2_ n3_ n4_ n5_ n6_ n7_ n8_ n9_ n10_ n11_; clear hb ho50; obtain ⟨Ao51, co51, eo51⟩ := Kd.R_slice HO181.out; subst eo51; obtain ⟨Ao52, co52, eo52⟩ := Kd.R_slice HO195.out; subst eo52) | (go_at_call 24; (with_reducible refine (mummerref04_Same.calls k _ _ t178 _ _ y193 true _ ?side1 ?side2 ?side3 ?side4 A17.out).mono ?_); (case side1 => repeat (first | exact (Kd.R_reads' HO181.out).2.2 | (with_reducible refine Kd.C_alloc ?_ _) | (with_reducible refine Kd.C_drewN ?_ _) | (with_reducible refine Kd.C_drew ?_))); (case side2 => exact (Kd.R_reads' HO181.out).2.1); (case side3 => repeat (first | exact (Kd.R_reads' HO195.out).2.2 | (with_reducible refine Kd.C_alloc ?_ _) | (with_reducible refine Kd.C_drewN ?_ _) | (with_reducible refine Kd.C_drew ?_))); (case side4 => exact (Kd.R_reads' HO195.out).2.1); rintro e w' ⟨rfl, ⟨nd, rfl⟩⟩) | ((with_reducible refine gate_dst (N := 76) rfl ?_); (try (refine gate_guard (by rfl) ?_; dsimp only)); refine Kd.R_lit (Kd.int .i64) _ 3 ?hg (N := 76) ?hd (xs := ([4, 2, 4, 4] : List Int)) (inner := [.int .i64 4, .int .i64 2, .int .i64 4, .int .i64 4]) (ok := fun _ => True) (okp := fun _ => True) ?hr ?hp (fun _ hk => hk) trivial (Below.refl _ _) (Nat.le_refl _) (by simp) ?_; (case hd => rfl); (case hg => rfl); (case hr => first | (go_simp; done) | (go_simp; rfl)); (case hp => exact (Reps.one (show Kd.M (Kd.int .i64) _ _ _ 4 [.int .i64 4] from rfl) (Reps.one (show Kd.M (Kd.int .i64) _ _ _ 2 [.int .i64 2] from rfl) (Reps.one (show Kd.M (Kd.int .i64) _ _ _ 4 [.int .i64 4] from rfl) (Reps.one (show Kd.M (Kd.int .i64) _ _ _ 4 [.int .i64 4] from rfl) (Reps.none _ _)))))); intro v198 w53 ho54 hb hg_ hnew_; clear hg_ hnew_; (first | rw [← Ny197.out] at ho54 | (simp only [Int.reduceToNat] at ho54; rw [← Ny197.out] at ho54)); have n0_ := Aside0.mk (Kd.R_below (by (with_reducible repeat (first | apply Kd.R_alloc | apply Kd.R_drewN | apply Kd.R_drew)); exact HO157.out) hb); have n1_ := Aside0.mk (Kd.R_below (by (with_reducible repeat (first | apply Kd.R_alloc | apply Kd.R_drewN | apply Kd.R_drew)); exact HO162.out) hb); have n2_ := Aside0.mk (Kd.R_below (by (with_reducible repeat (first | apply Kd.R_alloc | apply Kd.R_drewN | apply Kd.R_drew)); exact HO167.out) hb); have n3_ := Aside0.mk (Kd.R_elder' (by (with_reducible repeat (first | apply Kd.R_alloc | apply Kd.R_drewN | apply Kd.R_drew)); exact HO171.out) (Kd.R_base ho54) hb); have n4_ := Aside0.mk (Kd.R_below (by (with_reducible repeat (first | apply Kd.R_alloc | apply Kd.R_drewN | apply Kd.R_drew)); exact HO174.out) hb); have n5_ := Aside0.mk (Kd.R_below (by (with_reducible repeat (first | apply Kd.R_alloc | apply Kd.R_drewN | apply Kd.R_drew)); exact HO177.out) hb); have n6_ := Aside0.mk (Kd.R_below (by (with_reducible repeat (first | apply Kd.R_alloc | apply Kd.R_drewN | apply Kd.R_drew)); exact HO181.out) hb); have n7_ := Aside0.mk (Kd.R_elder' (by (with_reducible repeat (first | apply Kd.R_alloc | apply Kd.R_drewN | apply Kd.R_drew)); exact HO184.out) (Kd.R_base ho54) hb); have n8_ := Aside0.mk (Kd.R_elder' (by (with_reducible repeat (first | apply Kd.R_alloc | apply Kd.R_drewN | apply Kd.R_drew)); exact HO188.out) (Kd.R_base ho54) hb); have n9_ := Aside0.mk (Kd.R_elder' (by (with_reducible repeat (first | apply Kd.R_alloc | apply Kd.R_drewN | apply Kd.R_drew)); exact HO191.out) (Kd.R_base ho54) hb); have n10_ := Aside0.mk (Kd.R_below (by (with_reducible repeat (first | apply Kd.R_alloc | apply Kd.R_drewN | apply Kd.R_drew)); exact HO195.out) hb); have n11_ := Aside0.mk (Kd.R_lower (Kd.R_new' (Kd.R_new' (Kd.R_new' (Kd.R_new' ho54 (Kd.R_lt (by (with_reducible repeat (first | apply Kd.R_alloc | apply Kd.R_drewN | apply Kd.R_drew)); exact HO171.out))) (Kd.R_lt (by (with_reducible repeat (first | apply Kd.R_alloc | apply Kd.R_drewN | apply Kd.R_drew)); exact HO184.out))) (Kd.R_lt (by (with_reducible repeat (first | apply Kd.R_alloc | apply Kd.R_drewN | apply Kd.R_drew)); exact HO188.out))) (Kd.R_lt (by (with_reducible repeat (first | apply Kd.R_alloc | apply Kd.R_drewN | apply Kd.R_drew)); exact HO191.out))) (below_size (by repeat (first | (with_reducible first | exact HB.out | apply below_alloc | apply pw_below_drewN | apply below_drew1) | exact HB.out)))); have n12_ := Aside0.mk (below_step (by repeat (first | (with_reducible first | exact HB.out | apply below_alloc | apply pw_below_drewN | apply below_drew1) | exact HB.out)) hb); clear HO157; clear HO162; clear HO167; clear HO171; clear HO174; clear HO177; clear HO181; clear HO184; clear HO188; clear HO191; clear HO195; clear HB; have HO157 := n0_; have HO162 := n1_; have HO167 := n2_; have HO171 := n3_; have HO174 := n4_; have HO177 := n5_; have HO181 := n6_; have HO184 := n7_; have HO188 := n8_; have HO191 := n9_; have HO195 := n10_; have HO199 := n11_; have HB := n12_; clear n0_ n1_ n2_ n3_ n4_ n5_ n6_ n7_ n8_ n9_ n10_ n11_ n12_; clear hb ho54; obtain ⟨Ao55, co55, eo55⟩ := Kd.R_slice HO188.out; subst eo55; obtain ⟨Ao56, co56, eo56⟩ := Kd.R_slice HO199.out; subst eo56) | (go_at_call 20; (with_reducible refine (mummerref04_Ints.calls k _ _ t185 _ _ y197 true _ ?side1 ?side2 ?side3 ?side4 A20.out).mono ?_); (case side1 => repeat (first | exact (Kd.R_reads' HO188.out).2.2 | (with_reducible refine Kd.C_alloc ?_ _) | (with_reducible refine Kd.C_drewN ?_ _) | (with_reducible refine Kd.C_drew ?_))); (case side2 => exact (Kd.R_reads' HO188.out).2.1); (case side3 => repeat (first | exact (Kd.R_reads' HO199.out).2.2 | (with_reducible refine Kd.C_alloc ?_ _) | (with_reducible refine Kd.C_drewN ?_ _) | (with_reducible refine Kd.C_drew ?_))); (case side4 => exact (Kd.R_reads' HO199.out).2.1); rintro e w' ⟨rfl, ⟨nd, rfl⟩⟩) | (go_at_call 16; (with_reducible refine (data_Symbol.calls (⟨#[97, 45, 49]⟩ : ByteArray) true _ ?side1 A23.out).mono ?_); (case side1 => exact G0_keep HGl.out (by repeat (first | (with_reducible first | exact HB.out | apply below_alloc | apply pw_below_drewN | apply below_drew1) | exact HB.out))); rintro e w57 ⟨rfl, hb⟩; have n0_ := Aside0.mk (Kd.R_below (by (with_reducible repeat (first | apply Kd.R_alloc | apply Kd.R_drewN | apply Kd.R_drew)); exact HO157.out) hb); have n1_ := Aside0.mk (Kd.R_below (by (with_reducible repeat (first | apply Kd.R_alloc | apply Kd.R_drewN | apply Kd.R_drew)); exact HO162.out) hb); have n2_ := Aside0.mk (Kd.R_below (by (with_reducible repeat (first | apply Kd.R_alloc | apply Kd.R_drewN | apply Kd.R_drew)); exact HO167.out) hb); have n3_ := Aside0.mk (Kd.R_below (by (with_reducible repeat (first | apply Kd.R_alloc | apply Kd.R_drewN | apply Kd.R_drew)); exact HO171.out) hb); have n4_ := Aside0.mk (Kd.R_below (by (with_reducible repeat (first | apply Kd.R_alloc | apply Kd.R_drewN | apply Kd.R_drew)); exact HO174.out) hb); have n5_ := Aside0.mk (Kd.R_below (by (with_reducible repeat (first | apply Kd.R_alloc | apply Kd.R_drewN | apply Kd.R_drew)); exact HO177.out) hb); have n6_ := Aside0.mk (Kd.R_below (by (with_reducible repeat (first | apply Kd.R_alloc | apply Kd.R_drewN | apply Kd.R_drew)); exact HO181.out) hb); have n7_ := Aside0.mk (Kd.R_below (by (with_reducible repeat (first | apply Kd.R_alloc | apply Kd.R_drewN | apply Kd.R_drew)); exact HO184.out) hb); have n8_ := Aside0.mk (Kd.R_below (by (with_reducible repeat (first | apply Kd.R_alloc | apply Kd.R_drewN | apply Kd.R_drew)); exact HO188.out) hb); have n9_ := Aside0.mk (Kd.R_below (by (with_reducible repeat (first | apply Kd.R_alloc | apply Kd.R_drewN | apply Kd.R_drew)); exact HO191.out) hb); have n10_ := Aside0.mk (Kd.R_below (by (with_reducible repeat (first | apply Kd.R_alloc | apply Kd.R_drewN | apply Kd.R_drew)); exact HO195.out) hb); have n11_ := Aside0.mk (Kd.R_below (by (with_reducible repeat (first | apply Kd.R_alloc | apply Kd.R_drewN | apply Kd.R_drew)); exact HO199.out) hb); have n12_ := Aside0.mk (below_step (by repeat (first | (with_reducible first | exact HB.out | apply below_alloc | apply pw_below_drewN | apply below_drew1) | exact HB.out)) hb); clear HO157; clear HO162; clear HO167; clear HO171; clear HO174; clear HO177; clear HO181; clear HO184; clear HO188; clear HO191; clear HO195; clear HO199; clear HB; have HO157 := n0_; have HO162 := n1_; have HO167 := n2_; have HO171 := n3_; have HO174 := n4_; have HO177 := n5_; have HO181 := n6_; have HO184 := n7_; have HO188 := n8_; have HO191 := n9_; have HO195 := n10_; have HO199 := n11_; have HB := n12_; clear n0_ n1_ n2_ n3_ n4_ n5_ n6_ n7_ n8_ n9_ n10_ n11_ n12_; (try clear hb); (try clear hb2); (try clear hk); (try clear hi)) | (go_at_call 16; (with_reducible refine (data_Symbol.calls (⟨#[45, 49]⟩ : ByteArray) t202 _ ?side1 A25.out).mono ?_); (case side1 => exact G0_keep HGl.out (by repeat (first | (with_reducible first | exact HB.out | apply below_alloc | apply pw_below_drewN | apply below_drew1) | exact HB.out))); rintro e w58 ⟨rfl, hb⟩; have n0_ := Aside0.mk (Kd.R_below (by (with_reducible repeat (first | apply Kd.R_alloc | apply Kd.R_drewN | apply Kd.R_drew)); exact HO157.out) hb); have n1_ := Aside0.mk (Kd.R_below (by (with_reducible repeat (first | apply Kd.R_alloc | apply Kd.R_drewN | apply Kd.R_drew)); exact HO162.out) hb); have n2_ := Aside0.mk (Kd.R_below (by (with_reducible repeat (first | apply Kd.R_alloc | apply Kd.R_drewN | apply Kd.R_drew)); exact HO167.out) hb); have n3_ := Aside0.mk (Kd.R_below (by (with_reducible repeat (first | apply Kd.R_alloc | apply Kd.R_drewN | apply Kd.R_drew)); exact HO171.out) hb); have n4_ := Aside0.mk (Kd.R_below (by (with_reducible repeat (first | apply Kd.R_alloc | apply Kd.R_drewN | apply Kd.R_drew)); exact HO174.out) hb); have n5_ := Aside0.mk (Kd.R_below (by (with_reducible repeat (first | apply Kd.R_alloc | apply Kd.R_drewN | apply Kd.R_drew)); exact HO177.out) hb); have n6_ := Aside0.mk (Kd.R_below (by (with_reducible repeat (first | apply Kd.R_alloc | apply Kd.R_drewN | apply Kd.R_drew)); exact HO181.out) hb); have n7_ := Aside0.mk (Kd.R_below (by (with_reducible repeat (first | apply Kd.R_alloc | apply Kd.R_drewN | apply Kd.R_drew)); exact HO184.out) hb); have n8_ := Aside0.mk (Kd.R_below (by (with_reducible repeat (first | apply Kd.R_alloc | apply Kd.R_drewN | apply Kd.R_drew)); exact HO188.out) hb); have n9_ := Aside0.mk (Kd.R_below (by (with_reducible repeat (first | apply Kd.R_alloc | apply Kd.R_drewN | apply Kd.R_drew)); exact HO191.out) hb); have n10_ := Aside0.mk (Kd.R_below (by (with_reducible repeat (first | apply Kd.R_alloc | apply Kd.R_drewN | apply Kd.R_drew)); exact HO195.out) hb); have n11_ := Aside0.mk (Kd.R_below (by (with_reducible repeat (first | apply Kd.R_alloc | apply Kd.R_drewN | apply Kd.R_drew)); exact HO199.out) hb); have n12_ := Aside0.mk (below_step (by repeat (first | (with_reducible first | exact HB.out | apply below_alloc | apply pw_below_drewN | apply below_drew1) | exact HB.out)) hb); clear HO157; clear HO162; clear HO167; clear HO171; clear HO174; clear HO177; clear HO181; clear HO184; clear HO188; clear HO191; clear HO195; clear HO199; clear HB; have HO157 := n0_; have HO162 := n1_; have HO167 := n2_; have HO171 := n3_; have HO174 := n4_; have HO177 := n5_; have HO181 := n6_; have HO184 := n7_; have HO188 := n8_; have HO191 := n9_; have HO195 := n10_; have HO199 := n11_; have HB := n12_; clear n0_ n1_ n2_ n3_ n4_ n5_ n6_ n7_ n8_ n9_ n10_ n11_ n12_; (try clear hb); (try clear hb2); (try clear hk); (try clear hi)))
                        go_ret
                        exact ⟨by first | rfl | (simp [errW_none, errW_some] <;> rfl) | (simp [*, errW_none, errW_some] <;> rfl), by repeat (first | (with_reducible first | exact HB.out | apply below_alloc | apply pw_below_drewN | apply below_drew1) | exact HB.out)⟩
                      · replace c24 := Bool.eq_false_iff.mpr c24
                        subst c24
                        have H1 : (none) = some r := by rw [if_neg (show ¬ (false = true) by decide)] at H; exact H
                        clear H
                        have H := H1
                        clear H1
                        exact absurd H (by simp)
                    · rw [if_neg c22] at H
                      exact absurd H (by simp)
                  · replace c21 := Bool.eq_false_iff.mpr c21
                    subst c21
                    have H1 : (none) = some r := by rw [if_neg (show ¬ (false = true) by decide)] at H; exact H
                    clear H
                    have H := H1
                    clear H1
                    exact absurd H (by simp)
                · rw [if_neg c19] at H
                  exact absurd H (by simp)
              · replace c18 := Bool.eq_false_iff.mpr c18
                subst c18
                have H1 : (none) = some r := by rw [if_neg (show ¬ (false = true) by decide)] at H; exact H
                clear H
                have H := H1
                clear H1
                exact absurd H (by simp)
            · rw [if_neg c16] at H
              exact absurd H (by simp)
          · replace c15 := Bool.eq_false_iff.mpr c15
            subst c15
            have H1 : (none) = some r := by rw [if_neg (show ¬ (false = true) by decide)] at H; exact H
            clear H
            have H := H1
            clear H1
            exact absurd H (by simp)
        · rw [if_neg c13] at H
          exact absurd H (by simp)
      · rw [if_neg c12] at H
        exact absurd H (by simp)
    · rw [if_neg c11] at H
      exact absurd H (by simp)
  · rw [if_neg c10] at H
    exact absurd H (by simp)
end Go.Proofs.YtgmiekggdgmhkaaDoor.Q
end
section
-- a print of this session's own (hook.py)
namespace Go.Proofs.YtgmiekggdgmhkaaDoor.Q
open Go.RowKit Go.Proofs.YtgmiekggdgmhkaaDoorW.PrintWords Go.Proofs.YtgmiekggdgmhkaaDoorW.PrintLast Go.Proofs.YtgmiekggdgmhkaaDoorW.PrintMore
attribute [local go_sem] max2_int min2_int max_two min_two max_three min_three max_four min_four   -- for this text's walks alone
set_option linter.unusedVariables false
set_option linter.unusedSimpArgs false
/-! ### mummerlaw04_DataAsks: function 8 -/
mutual
def mummerlaw04_DataAsks.j0 : Nat → List (S51) → Int → List Int → Bool → Option (Bool)
  | 0, _, _, _, _ => none
  | k + 1, x0, x1, x2, x23 => if x23 = true then ((mummerlaw04_shown.f k).bind fun t524 => (some t524)) else ((data_Size.f k x0 x1).bind fun bt525 => ((mummerref04_Size.f k x0 x1).bind fun bt527 => ((data_Kids.f x0 x1).bind fun bt529 => ((mummerref04_Kids.f k x0 x1).bind fun bt533 => (if bt525.1 = bt527.1 then (if bt525.2 = bt527.2 then ((mummerref04_Ints.f k bt529.1 bt533.1).bind fun t537 => (if t537 = true then (mummerlaw04_DataAsks.j1 k x0 x1 x2 (bt529.2 != bt533.2)) else (mummerlaw04_DataAsks.j1 k x0 x1 x2 true))) else (mummerlaw04_DataAsks.j1 k x0 x1 x2 true)) else (mummerlaw04_DataAsks.j1 k x0 x1 x2 true))))))
def mummerlaw04_DataAsks.j1 : Nat → List (S51) → Int → List Int → Bool → Option (Bool)
  | 0, _, _, _, _ => none
  | k + 1, x0, x1, x2, x67 => if x67 = true then (none) else ((data_Parent.f k x0 x1).bind fun bt538 => ((mummerref04_Parent.f k x0 x1).bind fun bt540 => ((data_Depth.f x0).bind fun bt542 => ((mummerref04_Depth.f k x0).bind fun bt544 => (if bt538.1 = bt540.1 then (if bt538.2 = bt540.2 then (if bt542.1 = bt544.1 then (mummerlaw04_DataAsks.j2 k x0 x1 x2 (bt542.2 != bt544.2)) else (mummerlaw04_DataAsks.j2 k x0 x1 x2 true)) else (mummerlaw04_DataAsks.j2 k x0 x1 x2 true)) else (mummerlaw04_DataAsks.j2 k x0 x1 x2 true))))))
def mummerlaw04_DataAsks.j2 : Nat → List (S51) → Int → List Int → Bool → Option (Bool)
  | 0, _, _, _, _ => none
  | k + 1, x0, x1, x2, x107 => if x107 = true then (none) else ((data_Path.f x0 x1).bind fun bt546 => ((mummerref04_Path.f k x0 x1).bind fun bt550 => ((data_At.f x0 x2).bind fun bt554 => ((mummerref04_At.f k x0 x2).bind fun bt556 => ((mummerref04_Ints.f k bt546.1 bt550.1).bind fun t558 => (if t558 = true then (if bt546.2 = bt550.2 then (if bt554.1 = bt556.1 then (if bt554.2 = bt556.2 then ((mummerlaw04_shown.f k).bind fun t559 => (some t559)) else (none)) else (none)) else (none)) else (none)))))))
end
def mummerlaw04_DataAsks.f (k : Nat) (l0 : List (S51)) (a1 : Int) (l2 : List Int) : Option (Bool) := (mummerlaw04_Far.f k l0).bind fun t523 => (if t523 = true then (mummerlaw04_DataAsks.j0 k l0 a1 l2 true) else (mummerlaw04_DataAsks.j0 k l0 a1 l2 (decide ((l2.length : Int) > 50))))
set_option maxHeartbeats 8000000 in
set_option maxRecDepth 100000 in
theorem mummerlaw04_DataAsks.calls (k : Nat) (A0 : Option Addr) (c0 : Nat) (l0 : List (S51)) (a1 : Int) (A2 : Option Addr) (c2 : Nat) (l2 : List Int) (r : Bool) (w : World) (hr0 : Kd.C k51 w A0 l0.length l0) (hc0 : l0.length ≤ c0) (hr2 : Kd.C (Kd.int .i64) w A2 l2.length l2) (hc2 : l2.length ≤ c2) (hG : G0 w) (h : mummerlaw04_DataAsks.f k l0 a1 l2 = some r) :
    Calls Tryd.prog 8 #[.slice A0 l0.length c0, .int .i64 a1, .slice A2 l2.length c2] w fun e w' => e = .returned (.bool r) ∧ Below w.heap.size w w' := by
  have HGl := Aside0.mk hG
  clear hG
  have HR0 := Aside0.mk hr0
  have HC0 := Aside0.mk hc0
  clear hr0 hc0
  have HR2 := Aside0.mk hr2
  have HC2 := Aside0.mk hc2
  clear hr2 hc2
  have HB := Aside0.mk (Below.refl w.heap.size w)
  have H : ((mummerlaw04_Far.f k l0).bind fun t523 => (if t523 = true then (mummerlaw04_DataAsks.j0 k l0 a1 l2 true) else (mummerlaw04_DataAsks.j0 k l0 a1 l2 (decide ((l2.length : Int) > 50))))) = some r := h
  clear h
  have HC4 := Aside0.mk H
  clear H
  go_enter Tryd.func8, Tryd.ntmps8
  go_upto_region 1 with (fail)
  go_cut [23] (fun v23 wc => ∃ (kq : Nat) (x23_3 : Bool), v23 = .bool x23_3 ∧ Aside0 (mummerlaw04_DataAsks.j0 kq l0 a1 l2 x23_3 = some r) ∧ Aside0 (kq ≤ k) ∧ Aside0 (Below w.heap.size w wc))
  case first =>
    have H := HC4.out
    clear HC4
    replace H := Option.bind_eq_some_iff.mp H
    obtain ⟨t523, A50, H⟩ := H
    replace H : (if t523 = true then (mummerlaw04_DataAsks.j0 k l0 a1 l2 true) else (mummerlaw04_DataAsks.j0 k l0 a1 l2 (decide ((l2.length : Int) > 50)))) = some r := H
    have A5 := Aside0.mk A50
    clear A50
    by_cases c6 : t523 = true
    · subst c6
      have H1 : (mummerlaw04_DataAsks.j0 k l0 a1 l2 true) = some r := by rw [if_pos rfl] at H; exact H
      clear H
      have H := H1
      clear H1
      have H' := Aside0.mk H
      clear H
      go_wp2_with (first | ((with_reducible refine gate_callee (f := 12) rfl ?_); refine goesL_ (some 18) rfl rfl Tryd.func12 (by kernel_rfl) rfl #[.slice A0 l0.length c0] rfl (by (try simp only [List.map_toArray, List.map_cons, List.map_nil]); first | done | rfl | (simp only [List.length_drop, List.length_take]; rfl)) ?_; (with_reducible refine (mummerlaw04_Far.calls k _ _ l0 true _ ?side1 ?side2 A5.out).mono ?_); (case side1 => repeat (first | exact (Kd.C_below HR0.out HB.out) | (with_reducible refine Kd.C_alloc ?_ _) | (with_reducible refine Kd.C_drewN ?_ _) | (with_reducible refine Kd.C_drew ?_))); (case side2 => exact HC0.out); rintro e w' ⟨rfl, ⟨nd, rfl⟩⟩; refine ⟨_, rfl, ?_⟩))
      go_meet
      case rel => exact ⟨_, (true), (by first | rfl | (simp; done) | (simp [*]; done)), H', ⟨by first | omega | exact Nat.le_refl _⟩, ⟨by repeat (first | (with_reducible first | exact HB.out | apply below_alloc | apply pw_below_drewN | apply below_drew1) | exact HB.out)⟩⟩
    · replace c6 := Bool.eq_false_iff.mpr c6
      subst c6
      have H1 : (mummerlaw04_DataAsks.j0 k l0 a1 l2 (decide ((l2.length : Int) > 50))) = some r := by rw [if_neg (show ¬ (false = true) by decide)] at H; exact H
      clear H
      have H := H1
      clear H1
      have H' := Aside0.mk H
      clear H
      go_wp2_with (first | ((with_reducible refine gate_callee (f := 12) rfl ?_); refine goesL_ (some 18) rfl rfl Tryd.func12 (by kernel_rfl) rfl #[.slice A0 l0.length c0] rfl (by (try simp only [List.map_toArray, List.map_cons, List.map_nil]); first | done | rfl | (simp only [List.length_drop, List.length_take]; rfl)) ?_; (with_reducible refine (mummerlaw04_Far.calls k _ _ l0 false _ ?side1 ?side2 A5.out).mono ?_); (case side1 => repeat (first | exact (Kd.C_below HR0.out HB.out) | (with_reducible refine Kd.C_alloc ?_ _) | (with_reducible refine Kd.C_drewN ?_ _) | (with_reducible refine Kd.C_drew ?_))); (case side2 => exact HC0.out); rintro e w' ⟨rfl, ⟨nd, rfl⟩⟩; refine ⟨_, rfl, ?_⟩))
      go_meet
      case rel => exact ⟨_, (decide ((l2.length : Int) > 50)), (by first | rfl | (simp; done) | (simp [*]; done)), H', ⟨by first | omega | exact Nat.le_refl _⟩, ⟨by repeat (first | (with_reducible first | exact HB.out | apply below_alloc | apply pw_below_drewN | apply below_drew1) | exact HB.out)⟩⟩
  case rest =>
    clear HC4
    try clear c1
    try clear c2
    try clear p2
    try clear c6
    obtain ⟨kq, x23_3, rfl, HA, HJ3, HB⟩ := hcut
    cases kq with
    | zero => exact absurd HA.out (by simp [mummerlaw04_DataAsks.j0])
    | succ kj3 =>
      have H := HA.out
      clear HA
      simp only [mummerlaw04_DataAsks.j0] at H
      by_cases c7 : x23_3 = true
      · subst c7
        have H1 : ((mummerlaw04_shown.f kj3).bind fun t524 => (some t524)) = some r := by rw [if_pos rfl] at H; exact H
        clear H
        have H := H1
        clear H1
        replace H := Option.bind_eq_some_iff.mp H
        obtain ⟨t524, A80, H⟩ := H
        replace H : (some t524) = some r := H
        have A8 := Aside0.mk A80
        clear A80
        obtain rfl := Option.some.inj H
        go_wp2_with (first | ((with_reducible refine gate_callee (f := 13) rfl ?_); refine goesL_ (some 24) rfl rfl Tryd.func13 (by kernel_rfl) rfl #[] rfl (by (try simp only [List.map_toArray, List.map_cons, List.map_nil]); first | done | rfl | (simp only [List.length_drop, List.length_take]; rfl)) ?_; (with_reducible refine (mummerlaw04_shown.calls kj3  t524 _ ?side1 A8.out).mono ?_); (case side1 => exact G0_keep HGl.out (by repeat (first | (with_reducible first | exact HB.out | apply below_alloc | apply pw_below_drewN | apply below_drew1) | exact HB.out))); rintro e w9 ⟨rfl, hb⟩; refine ⟨_, rfl, ?_⟩; have n0_ := Aside0.mk (below_step (by repeat (first | (with_reducible first | exact HB.out | apply below_alloc | apply pw_below_drewN | apply below_drew1) | exact HB.out)) hb); clear HB; have HB := n0_; clear n0_; (try clear hb); (try clear hb2); (try clear hk); (try clear hi)))
        go_ret
        exact ⟨by first | rfl | (simp [errW_none, errW_some] <;> rfl) | (simp [*, errW_none, errW_some] <;> rfl), by repeat (first | (with_reducible first | exact HB.out | apply below_alloc | apply pw_below_drewN | apply below_drew1) | exact HB.out)⟩
      · replace c7 := Bool.eq_false_iff.mpr c7
        subst c7
        have H1 : ((data_Size.f kj3 l0 a1).bind fun bt525 => ((mummerref04_Size.f kj3 l0 a1).bind fun bt527 => ((data_Kids.f l0 a1).bind fun bt529 => ((mummerref04_Kids.f kj3 l0 a1).bind fun bt533 => (if bt525.1 = bt527.1 then (if bt525.2 = bt527.2 then ((mummerref04_Ints.f kj3 bt529.1 bt533.1).bind fun t537 => (if t537 = true then (mummerlaw04_DataAsks.j1 kj3 l0 a1 l2 (bt529.2 != bt533.2)) else (mummerlaw04_DataAsks.j1 kj3 l0 a1 l2 true))) else (mummerlaw04_DataAsks.j1 kj3 l0 a1 l2 true)) else (mummerlaw04_DataAsks.j1 kj3 l0 a1 l2 true)))))) = some r := by rw [if_neg (show ¬ (false = true) by decide)] at H; exact H
        clear H
        have H := H1
        clear H1
        replace H := Option.bind_eq_some_iff.mp H
        obtain ⟨⟨t525, t526⟩, A100, H⟩ := H
        replace H : ((mummerref04_Size.f kj3 l0 a1).bind fun bt527 => ((data_Kids.f l0 a1).bind fun bt529 => ((mummerref04_Kids.f kj3 l0 a1).bind fun bt533 => (if t525 = bt527.1 then (if t526 = bt527.2 then ((mummerref04_Ints.f kj3 bt529.1 bt533.1).bind fun t537 => (if t537 = true then (mummerlaw04_DataAsks.j1 kj3 l0 a1 l2 (bt529.2 != bt533.2)) else (mummerlaw04_DataAsks.j1 kj3 l0 a1 l2 true))) else (mummerlaw04_DataAsks.j1 kj3 l0 a1 l2 true)) else (mummerlaw04_DataAsks.j1 kj3 l0 a1 l2 true))))) = some r := H
        have A10 := Aside0.mk A100
        clear A100
        replace H := Option.bind_eq_some_iff.mp H
        obtain ⟨⟨t527, t528⟩, A110, H⟩ := H
        replace H : ((data_Kids.f l0 a1).bind fun bt529 => ((mummerref04_Kids.f kj3 l0 a1).bind fun bt533 => (if t525 = t527 then (if t526 = t528 then ((mummerref04_Ints.f kj3 bt529.1 bt533.1).bind fun t537 => (if t537 = true then (mummerlaw04_DataAsks.j1 kj3 l0 a1 l2 (bt529.2 != bt533.2)) else (mummerlaw04_DataAsks.j1 kj3 l0 a1 l2 true))) else (mummerlaw04_DataAsks.j1 kj3 l0 a1 l2 true)) else (mummerlaw04_DataAsks.j1 kj3 l0 a1 l2 true)))) = some r := H
        have A11 := Aside0.mk A110
        clear A110
        replace H := Option.bind_eq_some_iff.mp H
        obtain ⟨⟨t529, t530⟩, A120, H⟩ := H
        replace H : ((mummerref04_Kids.f kj3 l0 a1).bind fun bt533 => (if t525 = t527 then (if t526 = t528 then ((mummerref04_Ints.f kj3 t529 bt533.1).bind fun t537 => (if t537 = true then (mummerlaw04_DataAsks.j1 kj3 l0 a1 l2 (t530 != bt533.2)) else (mummerlaw04_DataAsks.j1 kj3 l0 a1 l2 true))) else (mummerlaw04_DataAsks.j1 kj3 l0 a1 l2 true)) else (mummerlaw04_DataAsks.j1 kj3 l0 a1 l2 true))) = some r := H
        have A12 := Aside0.mk A120
        clear A120
        replace H := Option.bind_eq_some_iff.mp H
        obtain ⟨⟨t533, t534⟩, A130, H⟩ := H
        replace H : (if t525 = t527 then (if t526 = t528 then ((mummerref04_Ints.f kj3 t529 t533).bind fun t537 => (if t537 = true then (mummerlaw04_DataAsks.j1 kj3 l0 a1 l2 (t530 != t534)) else (mummerlaw04_DataAsks.j1 kj3 l0 a1 l2 true))) else (mummerlaw04_DataAsks.j1 kj3 l0 a1 l2 true)) else (mummerlaw04_DataAsks.j1 kj3 l0 a1 l2 true)) = some r := H
        have A13 := Aside0.mk A130
        clear A130
        have HC14 := Aside0.mk H
        clear H
        go_upto_region 7 with (first | ((with_reducible refine gate_callee (f := 23) rfl ?_); refine goesL_ (some 28) rfl rfl Tryd.func23 (by kernel_rfl) rfl #[.slice A0 l0.length c0, .int .i64 a1] rfl (by (try simp only [List.map_toArray, List.map_cons, List.map_nil]); first | done | rfl | (simp only [List.length_drop, List.length_take]; rfl)) ?_; (with_reducible refine (data_Size.calls kj3 _ _ l0 a1 t525 t526 _ ?side1 ?side2 ?side3 A10.out).mono ?_); (case side1 => repeat (first | exact (Kd.C_below HR0.out HB.out) | (with_reducible refine Kd.C_alloc ?_ _) | (with_reducible refine Kd.C_drewN ?_ _) | (with_reducible refine Kd.C_drew ?_))); (case side2 => exact HC0.out); (case side3 => exact G0_keep HGl.out (by repeat (first | (with_reducible first | exact HB.out | apply below_alloc | apply pw_below_drewN | apply below_drew1) | exact HB.out))); rintro e w15 ⟨rfl, hb⟩; refine ⟨_, rfl, ?_⟩; have n0_ := Aside0.mk (below_step (by repeat (first | (with_reducible first | exact HB.out | apply below_alloc | apply pw_below_drewN | apply below_drew1) | exact HB.out)) hb); clear HB; have HB := n0_; clear n0_; (try clear hb); (try clear hb2); (try clear hk); (try clear hi)) | ((with_reducible refine gate_callee (f := 30) rfl ?_); refine goesL_ (some 34) rfl rfl Tryd.func30 (by kernel_rfl) rfl #[.slice A0 l0.length c0, .int .i64 a1] rfl (by (try simp only [List.map_toArray, List.map_cons, List.map_nil]); first | done | rfl | (simp only [List.length_drop, List.length_take]; rfl)) ?_; (with_reducible refine (mummerref04_Size.calls kj3 _ _ l0 a1 t527 t528 _ ?side1 ?side2 A11.out).mono ?_); (case side1 => repeat (first | exact (Kd.C_below HR0.out HB.out) | (with_reducible refine Kd.C_alloc ?_ _) | (with_reducible refine Kd.C_drewN ?_ _) | (with_reducible refine Kd.C_drew ?_))); (case side2 => exact HC0.out); rintro e w16 ⟨rfl, hb⟩; refine ⟨_, rfl, ?_⟩; have n0_ := Aside0.mk (below_step (by repeat (first | (with_reducible first | exact HB.out | apply below_alloc | apply pw_below_drewN | apply below_drew1) | exact HB.out)) hb); clear HB; have HB := n0_; clear n0_; (try clear hb); (try clear hb2); (try clear hk); (try clear hi)) | ((with_reducible refine gate_callee (f := 31) rfl ?_); refine goesL_ (some 40) rfl rfl Tryd.func31 (by kernel_rfl) rfl #[.slice A0 l0.length c0, .int .i64 a1] rfl (by (try simp only [List.map_toArray, List.map_cons, List.map_nil]); first | done | rfl | (simp only [List.length_drop, List.length_take]; rfl)) ?_; (with_reducible refine (data_Kids.calls _ _ l0 a1 t529 t530 _ ?side1 ?side2 ?side3 A12.out).mono ?_); (case side1 => repeat (first | exact (Kd.C_below HR0.out HB.out) | (with_reducible refine Kd.C_alloc ?_ _) | (with_reducible refine Kd.C_drewN ?_ _) | (with_reducible refine Kd.C_drew ?_))); (case side2 => exact HC0.out); (case side3 => exact G0_keep HGl.out (by repeat (first | (with_reducible first | exact HB.out | apply below_alloc | apply pw_below_drewN | apply below_drew1) | exact HB.out))); rintro e w17 ⟨v531, rfl, ho0, hb⟩; refine ⟨_, rfl, ?_⟩; have n0_ := Aside0.mk (Kd.R_lower ho0 (below_size (by repeat (first | (with_reducible first | exact HB.out | apply below_alloc | apply pw_below_drewN | apply below_drew1) | exact HB.out)))); have n1_ := Aside0.mk (below_step (by repeat (first | (with_reducible first | exact HB.out | apply below_alloc | apply pw_below_drewN | apply below_drew1) | exact HB.out)) hb); clear HB; have HO532 := n0_; have HB := n1_; clear n0_ n1_; (try clear hb); (try clear hb2); (try clear hk); (try clear hi); (try clear ho0)) | ((with_reducible refine gate_callee (f := 32) rfl ?_); refine goesL_ (some 46) rfl rfl Tryd.func32 (by kernel_rfl) rfl #[.slice A0 l0.length c0, .int .i64 a1] rfl (by (try simp only [List.map_toArray, List.map_cons, List.map_nil]); first | done | rfl | (simp only [List.length_drop, List.length_take]; rfl)) ?_; (with_reducible refine (mummerref04_Kids.calls kj3 _ _ l0 a1 t533 t534 _ ?side1 ?side2 A13.out).mono ?_); (case side1 => repeat (first | exact (Kd.C_below HR0.out HB.out) | (with_reducible refine Kd.C_alloc ?_ _) | (with_reducible refine Kd.C_drewN ?_ _) | (with_reducible refine Kd.C_drew ?_))); (case side2 => exact HC0.out); rintro e w18 ⟨v535, rfl, ho0, hb⟩; refine ⟨_, rfl, ?_⟩; have n0_ := Aside0.mk (Kd.R_elder' (by (with_reducible repeat (first | apply Kd.R_alloc | apply Kd.R_drewN | apply Kd.R_drew)); exact HO532.out) (Kd.R_base ho0) hb); have n1_ := Aside0.mk (Kd.R_lower (Kd.R_new' ho0 (Kd.R_lt (by (with_reducible repeat (first | apply Kd.R_alloc | apply Kd.R_drewN | apply Kd.R_drew)); exact HO532.out))) (below_size (by repeat (first | (with_reducible first | exact HB.out | apply below_alloc | apply pw_below_drewN | apply below_drew1) | exact HB.out)))); have n2_ := Aside0.mk (below_step (by repeat (first | (with_reducible first | exact HB.out | apply below_alloc | apply pw_below_drewN | apply below_drew1) | exact HB.out)) hb); clear HO532; clear HB; have HO532 := n0_; have HO536 := n1_; have HB := n2_; clear n0_ n1_ n2_; (try clear hb); (try clear hb2); (try clear hk); (try clear hi); (try clear ho0)))
        (try simp only [Act.put, List.setIfInBounds_toArray, List.set_cons_zero, List.set_cons_succ])
        go_cut [67] (fun v67 wc => ∃ (kq : Nat) (x67_13 : Bool), v67 = .bool x67_13 ∧ Aside0 (mummerlaw04_DataAsks.j1 kq l0 a1 l2 x67_13 = some r) ∧ Aside0 (kq ≤ kj3) ∧ Aside0 (Below w.heap.size w wc))
        case first =>
          have H := HC14.out
          clear HC14
          by_cases c19 : t525 = t527
          · rw [if_pos c19] at H
            have c19b0 : (t525 == t527) = true := beq_iff_eq.mpr c19
            have c19b1 : (t525 != t527) = false := bne_eq_false_iff_eq.mpr c19
            clear c19
            (first | rw [c19b0] | (simp only [i64_w, i32_w]; rw [c19b0]) | skip)
            by_cases c20 : t526 = t528
            · rw [if_pos c20] at H
              have c20b0 : (t526 == t528) = true := beq_iff_eq.mpr c20
              have c20b1 : (t526 != t528) = false := bne_eq_false_iff_eq.mpr c20
              clear c20
              replace H := Option.bind_eq_some_iff.mp H
              obtain ⟨t537, A210, H⟩ := H
              replace H : (if t537 = true then (mummerlaw04_DataAsks.j1 kj3 l0 a1 l2 (t530 != t534)) else (mummerlaw04_DataAsks.j1 kj3 l0 a1 l2 true)) = some r := H
              have A21 := Aside0.mk A210
              clear A210
              by_cases c22 : t537 = true
              · subst c22
                have H1 : (mummerlaw04_DataAsks.j1 kj3 l0 a1 l2 (t530 != t534)) = some r := by rw [if_pos rfl] at H; exact H
                clear H
                have H := H1
                clear H1
                have H' := Aside0.mk H
                clear H
                obtain ⟨Ao23, co23, eo23⟩ := Kd.R_slice HO532.out
                subst eo23
                obtain ⟨Ao24, co24, eo24⟩ := Kd.R_slice HO536.out
                subst eo24
                go_wp2_with (first | (go_at_call 20; (with_reducible refine (mummerref04_Ints.calls kj3 _ _ t529 _ _ t533 true _ ?side1 ?side2 ?side3 ?side4 A21.out).mono ?_); (case side1 => repeat (first | exact (Kd.R_reads' HO532.out).2.2 | (with_reducible refine Kd.C_alloc ?_ _) | (with_reducible refine Kd.C_drewN ?_ _) | (with_reducible refine Kd.C_drew ?_))); (case side2 => exact (Kd.R_reads' HO532.out).2.1); (case side3 => repeat (first | exact (Kd.R_reads' HO536.out).2.2 | (with_reducible refine Kd.C_alloc ?_ _) | (with_reducible refine Kd.C_drewN ?_ _) | (with_reducible refine Kd.C_drew ?_))); (case side4 => exact (Kd.R_reads' HO536.out).2.1); rintro e w' ⟨rfl, ⟨nd, rfl⟩⟩))
                go_meet
                case rel => exact ⟨_, ((t530 != t534)), (by first | rfl | (simp; done) | (simp [*]; done)), H', ⟨by have := HJ3.out; first | omega | exact Nat.le_refl _⟩, ⟨by repeat (first | (with_reducible first | exact HB.out | apply below_alloc | apply pw_below_drewN | apply below_drew1) | exact HB.out)⟩⟩
              · replace c22 := Bool.eq_false_iff.mpr c22
                subst c22
                have H1 : (mummerlaw04_DataAsks.j1 kj3 l0 a1 l2 true) = some r := by rw [if_neg (show ¬ (false = true) by decide)] at H; exact H
                clear H
                have H := H1
                clear H1
                have H' := Aside0.mk H
                clear H
                obtain ⟨Ao25, co25, eo25⟩ := Kd.R_slice HO532.out
                subst eo25
                obtain ⟨Ao26, co26, eo26⟩ := Kd.R_slice HO536.out
                subst eo26
                go_wp2_with (first | (go_at_call 20; (with_reducible refine (mummerref04_Ints.calls kj3 _ _ t529 _ _ t533 false _ ?side1 ?side2 ?side3 ?side4 A21.out).mono ?_); (case side1 => repeat (first | exact (Kd.R_reads' HO532.out).2.2 | (with_reducible refine Kd.C_alloc ?_ _) | (with_reducible refine Kd.C_drewN ?_ _) | (with_reducible refine Kd.C_drew ?_))); (case side2 => exact (Kd.R_reads' HO532.out).2.1); (case side3 => repeat (first | exact (Kd.R_reads' HO536.out).2.2 | (with_reducible refine Kd.C_alloc ?_ _) | (with_reducible refine Kd.C_drewN ?_ _) | (with_reducible refine Kd.C_drew ?_))); (case side4 => exact (Kd.R_reads' HO536.out).2.1); rintro e w' ⟨rfl, ⟨nd, rfl⟩⟩))
                go_meet
                case rel => exact ⟨_, (true), (by first | rfl | (simp; done) | (simp [*]; done)), H', ⟨by have := HJ3.out; first | omega | exact Nat.le_refl _⟩, ⟨by repeat (first | (with_reducible first | exact HB.out | apply below_alloc | apply pw_below_drewN | apply below_drew1) | exact HB.out)⟩⟩
            · rw [if_neg c20] at H
              have c20b0 : (t526 == t528) = false := beq_eq_false_iff_ne.mpr c20
              have c20b1 : (t526 != t528) = true := bne_iff_ne.mpr c20
              have H' := Aside0.mk H
              clear H
              go_wp2
              go_meet
              case rel => exact ⟨_, (true), (by first | rfl | (simp; done) | (simp [*]; done)), H', ⟨by have := HJ3.out; first | omega | exact Nat.le_refl _⟩, ⟨by repeat (first | (with_reducible first | exact HB.out | apply below_alloc | apply pw_below_drewN | apply below_drew1) | exact HB.out)⟩⟩
          · rw [if_neg c19] at H
            have c19b0 : (t525 == t527) = false := beq_eq_false_iff_ne.mpr c19
            have c19b1 : (t525 != t527) = true := bne_iff_ne.mpr c19
            (first | rw [c19b0] | (simp only [i64_w, i32_w]; rw [c19b0]) | skip)
            have H' := Aside0.mk H
            clear H
            go_wp2
            go_meet
            case rel => exact ⟨_, (true), (by first | rfl | (simp; done) | (simp [*]; done)), H', ⟨by have := HJ3.out; first | omega | exact Nat.le_refl _⟩, ⟨by repeat (first | (with_reducible first | exact HB.out | apply below_alloc | apply pw_below_drewN | apply below_drew1) | exact HB.out)⟩⟩
        case rest =>
          clear HC14
          try clear c1
          try clear c2
          try clear p2
          try clear c3
          try clear c6
          try clear c7
          try clear c8
          try clear c12
          try clear c13
          try clear c19
          try clear c19b0
          try clear c19b1
          try clear c20
          try clear c20b0
          try clear c20b1
          try clear c22
          try clear c23
          try clear p2
          obtain ⟨kq, x67_13, rfl, HA, HJ13, HB⟩ := hcut
          cases kq with
          | zero => exact absurd HA.out (by simp [mummerlaw04_DataAsks.j1])
          | succ kj13 =>
            have H := HA.out
            clear HA
            simp only [mummerlaw04_DataAsks.j1] at H
            by_cases c27 : x67_13 = true
            · subst c27
              have H1 : (none) = some r := by rw [if_pos rfl] at H; exact H
              clear H
              have H := H1
              clear H1
              exact absurd H (by simp)
            · replace c27 := Bool.eq_false_iff.mpr c27
              subst c27
              have H1 : ((data_Parent.f kj13 l0 a1).bind fun bt538 => ((mummerref04_Parent.f kj13 l0 a1).bind fun bt540 => ((data_Depth.f l0).bind fun bt542 => ((mummerref04_Depth.f kj13 l0).bind fun bt544 => (if bt538.1 = bt540.1 then (if bt538.2 = bt540.2 then (if bt542.1 = bt544.1 then (mummerlaw04_DataAsks.j2 kj13 l0 a1 l2 (bt542.2 != bt544.2)) else (mummerlaw04_DataAsks.j2 kj13 l0 a1 l2 true)) else (mummerlaw04_DataAsks.j2 kj13 l0 a1 l2 true)) else (mummerlaw04_DataAsks.j2 kj13 l0 a1 l2 true)))))) = some r := by rw [if_neg (show ¬ (false = true) by decide)] at H; exact H
              clear H
              have H := H1
              clear H1
              replace H := Option.bind_eq_some_iff.mp H
              obtain ⟨⟨t538, t539⟩, A280, H⟩ := H
              replace H : ((mummerref04_Parent.f kj13 l0 a1).bind fun bt540 => ((data_Depth.f l0).bind fun bt542 => ((mummerref04_Depth.f kj13 l0).bind fun bt544 => (if t538 = bt540.1 then (if t539 = bt540.2 then (if bt542.1 = bt544.1 then (mummerlaw04_DataAsks.j2 kj13 l0 a1 l2 (bt542.2 != bt544.2)) else (mummerlaw04_DataAsks.j2 kj13 l0 a1 l2 true)) else (mummerlaw04_DataAsks.j2 kj13 l0 a1 l2 true)) else (mummerlaw04_DataAsks.j2 kj13 l0 a1 l2 true))))) = some r := H
              have A28 := Aside0.mk A280
              clear A280
              replace H := Option.bind_eq_some_iff.mp H
              obtain ⟨⟨t540, t541⟩, A290, H⟩ := H
              replace H : ((data_Depth.f l0).bind fun bt542 => ((mummerref04_Depth.f kj13 l0).bind fun bt544 => (if t538 = t540 then (if t539 = t541 then (if bt542.1 = bt544.1 then (mummerlaw04_DataAsks.j2 kj13 l0 a1 l2 (bt542.2 != bt544.2)) else (mummerlaw04_DataAsks.j2 kj13 l0 a1 l2 true)) else (mummerlaw04_DataAsks.j2 kj13 l0 a1 l2 true)) else (mummerlaw04_DataAsks.j2 kj13 l0 a1 l2 true)))) = some r := H
              have A29 := Aside0.mk A290
              clear A290
              replace H := Option.bind_eq_some_iff.mp H
              obtain ⟨⟨t542, t543⟩, A300, H⟩ := H
              replace H : ((mummerref04_Depth.f kj13 l0).bind fun bt544 => (if t538 = t540 then (if t539 = t541 then (if t542 = bt544.1 then (mummerlaw04_DataAsks.j2 kj13 l0 a1 l2 (t543 != bt544.2)) else (mummerlaw04_DataAsks.j2 kj13 l0 a1 l2 true)) else (mummerlaw04_DataAsks.j2 kj13 l0 a1 l2 true)) else (mummerlaw04_DataAsks.j2 kj13 l0 a1 l2 true))) = some r := H
              have A30 := Aside0.mk A300
              clear A300
              replace H := Option.bind_eq_some_iff.mp H
              obtain ⟨⟨t544, t545⟩, A310, H⟩ := H
              replace H : (if t538 = t540 then (if t539 = t541 then (if t542 = t544 then (mummerlaw04_DataAsks.j2 kj13 l0 a1 l2 (t543 != t545)) else (mummerlaw04_DataAsks.j2 kj13 l0 a1 l2 true)) else (mummerlaw04_DataAsks.j2 kj13 l0 a1 l2 true)) else (mummerlaw04_DataAsks.j2 kj13 l0 a1 l2 true)) = some r := H
              have A31 := Aside0.mk A310
              clear A310
              have HC32 := Aside0.mk H
              clear H
              go_upto_region 13 with (first | ((with_reducible refine gate_callee (f := 33) rfl ?_); refine goesL_ (some 71) rfl rfl Tryd.func33 (by kernel_rfl) rfl #[.slice A0 l0.length c0, .int .i64 a1] rfl (by (try simp only [List.map_toArray, List.map_cons, List.map_nil]); first | done | rfl | (simp only [List.length_drop, List.length_take]; rfl)) ?_; (with_reducible refine (data_Parent.calls kj13 _ _ l0 a1 t538 t539 _ ?side1 ?side2 ?side3 A28.out).mono ?_); (case side1 => repeat (first | exact (Kd.C_below HR0.out HB.out) | (with_reducible refine Kd.C_alloc ?_ _) | (with_reducible refine Kd.C_drewN ?_ _) | (with_reducible refine Kd.C_drew ?_))); (case side2 => exact HC0.out); (case side3 => exact G0_keep HGl.out (by repeat (first | (with_reducible first | exact HB.out | apply below_alloc | apply pw_below_drewN | apply below_drew1) | exact HB.out))); rintro e w33 ⟨rfl, hb⟩; refine ⟨_, rfl, ?_⟩; have n0_ := Aside0.mk (below_step (by repeat (first | (with_reducible first | exact HB.out | apply below_alloc | apply pw_below_drewN | apply below_drew1) | exact HB.out)) hb); clear HB; have HB := n0_; clear n0_; (try clear hb); (try clear hb2); (try clear hk); (try clear hi)) | ((with_reducible refine gate_callee (f := 34) rfl ?_); refine goesL_ (some 77) rfl rfl Tryd.func34 (by kernel_rfl) rfl #[.slice A0 l0.length c0, .int .i64 a1] rfl (by (try simp only [List.map_toArray, List.map_cons, List.map_nil]); first | done | rfl | (simp only [List.length_drop, List.length_take]; rfl)) ?_; (with_reducible refine (mummerref04_Parent.calls kj13 _ _ l0 a1 t540 t541 _ ?side1 ?side2 A29.out).mono ?_); (case side1 => repeat (first | exact (Kd.C_below HR0.out HB.out) | (with_reducible refine Kd.C_alloc ?_ _) | (with_reducible refine Kd.C_drewN ?_ _) | (with_reducible refine Kd.C_drew ?_))); (case side2 => exact HC0.out); rintro e w34 ⟨rfl, hb⟩; refine ⟨_, rfl, ?_⟩; have n0_ := Aside0.mk (below_step (by repeat (first | (with_reducible first | exact HB.out | apply below_alloc | apply pw_below_drewN | apply below_drew1) | exact HB.out)) hb); clear HB; have HB := n0_; clear n0_; (try clear hb); (try clear hb2); (try clear hk); (try clear hi)) | ((with_reducible refine gate_callee (f := 35) rfl ?_); refine goesL_ (some 82) rfl rfl Tryd.func35 (by kernel_rfl) rfl #[.slice A0 l0.length c0] rfl (by (try simp only [List.map_toArray, List.map_cons, List.map_nil]); first | done | rfl | (simp only [List.length_drop, List.length_take]; rfl)) ?_; (with_reducible refine (data_Depth.calls _ _ l0 t542 t543 _ ?side1 ?side2 ?side3 A30.out).mono ?_); (case side1 => repeat (first | exact (Kd.C_below HR0.out HB.out) | (with_reducible refine Kd.C_alloc ?_ _) | (with_reducible refine Kd.C_drewN ?_ _) | (with_reducible refine Kd.C_drew ?_))); (case side2 => exact HC0.out); (case side3 => exact G0_keep HGl.out (by repeat (first | (with_reducible first | exact HB.out | apply below_alloc | apply pw_below_drewN | apply below_drew1) | exact HB.out))); rintro e w35 ⟨rfl, hb⟩; refine ⟨_, rfl, ?_⟩; have n0_ := Aside0.mk (below_step (by repeat (first | (with_reducible first | exact HB.out | apply below_alloc | apply pw_below_drewN | apply below_drew1) | exact HB.out)) hb); clear HB; have HB := n0_; clear n0_; (try clear hb); (try clear hb2); (try clear hk); (try clear hi)) | ((with_reducible refine gate_callee (f := 36) rfl ?_); refine goesL_ (some 87) rfl rfl Tryd.func36 (by kernel_rfl) rfl #[.slice A0 l0.length c0] rfl (by (try simp only [List.map_toArray, List.map_cons, List.map_nil]); first | done | rfl | (simp only [List.length_drop, List.length_take]; rfl)) ?_; (with_reducible refine (mummerref04_Depth.calls kj13 _ _ l0 t544 t545 _ ?side1 ?side2 A31.out).mono ?_); (case side1 => repeat (first | exact (Kd.C_below HR0.out HB.out) | (with_reducible refine Kd.C_alloc ?_ _) | (with_reducible refine Kd.C_drewN ?_ _) | (with_reducible refine Kd.C_drew ?_))); (case side2 => exact HC0.out); rintro e w36 ⟨rfl, hb⟩; refine ⟨_, rfl, ?_⟩; have n0_ := Aside0.mk (below_step (by repeat (first | (with_reducible first | exact HB.out | apply below_alloc | apply pw_below_drewN | apply below_drew1) | exact HB.out)) hb); clear HB; have HB := n0_; clear n0_; (try clear hb); (try clear hb2); (try clear hk); (try clear hi)))
              (try simp only [Act.put, List.setIfInBounds_toArray, List.set_cons_zero, List.set_cons_succ])
              go_cut [107] (fun v107 wc => ∃ (kq : Nat) (x107_31 : Bool), v107 = .bool x107_31 ∧ Aside0 (mummerlaw04_DataAsks.j2 kq l0 a1 l2 x107_31 = some r) ∧ Aside0 (kq ≤ kj13) ∧ Aside0 (Below w.heap.size w wc))
              case first =>
                have H := HC32.out
                clear HC32
                by_cases c37 : t538 = t540
                · rw [if_pos c37] at H
                  have c37b0 : (t538 == t540) = true := beq_iff_eq.mpr c37
                  have c37b1 : (t538 != t540) = false := bne_eq_false_iff_eq.mpr c37
                  clear c37
                  (first | rw [c37b0] | (simp only [i64_w, i32_w]; rw [c37b0]) | skip)
                  by_cases c38 : t539 = t541
                  · rw [if_pos c38] at H
                    have c38b0 : (t539 == t541) = true := beq_iff_eq.mpr c38
                    have c38b1 : (t539 != t541) = false := bne_eq_false_iff_eq.mpr c38
                    clear c38
                    by_cases c39 : t542 = t544
                    · rw [if_pos c39] at H
                      have c39b0 : (t542 == t544) = true := beq_iff_eq.mpr c39
                      have c39b1 : (t542 != t544) = false := bne_eq_false_iff_eq.mpr c39
                      clear c39
                      have H' := Aside0.mk H
                      clear H
                      go_wp2
                      go_meet
                      case rel => exact ⟨_, ((t543 != t545)), (by first | rfl | (simp; done) | (simp [*]; done)), H', ⟨by have := HJ3.out; have := HJ13.out; first | omega | exact Nat.le_refl _⟩, ⟨by repeat (first | (with_reducible first | exact HB.out | apply below_alloc | apply pw_below_drewN | apply below_drew1) | exact HB.out)⟩⟩
                    · rw [if_neg c39] at H
                      have c39b0 : (t542 == t544) = false := beq_eq_false_iff_ne.mpr c39
                      have c39b1 : (t542 != t544) = true := bne_iff_ne.mpr c39
                      have H' := Aside0.mk H
                      clear H
                      go_wp2
                      go_meet
                      case rel => exact ⟨_, (true), (by first | rfl | (simp; done) | (simp [*]; done)), H', ⟨by have := HJ3.out; have := HJ13.out; first | omega | exact Nat.le_refl _⟩, ⟨by repeat (first | (with_reducible first | exact HB.out | apply below_alloc | apply pw_below_drewN | apply below_drew1) | exact HB.out)⟩⟩
                  · rw [if_neg c38] at H
                    have c38b0 : (t539 == t541) = false := beq_eq_false_iff_ne.mpr c38
                    have c38b1 : (t539 != t541) = true := bne_iff_ne.mpr c38
                    have H' := Aside0.mk H
                    clear H
                    go_wp2
                    go_meet
                    case rel => exact ⟨_, (true), (by first | rfl | (simp; done) | (simp [*]; done)), H', ⟨by have := HJ3.out; have := HJ13.out; first | omega | exact Nat.le_refl _⟩, ⟨by repeat (first | (with_reducible first | exact HB.out | apply below_alloc | apply pw_below_drewN | apply below_drew1) | exact HB.out)⟩⟩
                · rw [if_neg c37] at H
                  have c37b0 : (t538 == t540) = false := beq_eq_false_iff_ne.mpr c37
                  have c37b1 : (t538 != t540) = true := bne_iff_ne.mpr c37
                  (first | rw [c37b0] | (simp only [i64_w, i32_w]; rw [c37b0]) | skip)
                  have H' := Aside0.mk H
                  clear H
                  go_wp2
                  go_meet
                  case rel => exact ⟨_, (true), (by first | rfl | (simp; done) | (simp [*]; done)), H', ⟨by have := HJ3.out; have := HJ13.out; first | omega | exact Nat.le_refl _⟩, ⟨by repeat (first | (with_reducible first | exact HB.out | apply below_alloc | apply pw_below_drewN | apply below_drew1) | exact HB.out)⟩⟩
              case rest =>
                clear HC32
                try clear c1
                try clear c2
                try clear p2
                try clear c3
                try clear c6
                try clear c7
                try clear c8
                try clear c12
                try clear c13
                try clear c19
                try clear c19b0
                try clear c19b1
                try clear c20
                try clear c20b0
                try clear c20b1
                try clear c22
                try clear c23
                try clear c27
                try clear c30
                try clear c31
                try clear c32
                try clear c33
                try clear c34
                try clear c35
                try clear c36
                try clear c37
                try clear c37b0
                try clear c37b1
                try clear c38
                try clear c38b0
                try clear c38b1
                try clear c39
                try clear c39b0
                try clear c39b1
                try clear p2
                obtain ⟨kq, x107_31, rfl, HA, HJ31, HB⟩ := hcut
                cases kq with
                | zero => exact absurd HA.out (by simp [mummerlaw04_DataAsks.j2])
                | succ kj31 =>
                  have H := HA.out
                  clear HA
                  simp only [mummerlaw04_DataAsks.j2] at H
                  by_cases c40 : x107_31 = true
                  · subst c40
                    have H1 : (none) = some r := by rw [if_pos rfl] at H; exact H
                    clear H
                    have H := H1
                    clear H1
                    exact absurd H (by simp)
                  · replace c40 := Bool.eq_false_iff.mpr c40
                    subst c40
                    have H1 : ((data_Path.f l0 a1).bind fun bt546 => ((mummerref04_Path.f kj31 l0 a1).bind fun bt550 => ((data_At.f l0 l2).bind fun bt554 => ((mummerref04_At.f kj31 l0 l2).bind fun bt556 => ((mummerref04_Ints.f kj31 bt546.1 bt550.1).bind fun t558 => (if t558 = true then (if bt546.2 = bt550.2 then (if bt554.1 = bt556.1 then (if bt554.2 = bt556.2 then ((mummerlaw04_shown.f kj31).bind fun t559 => (some t559)) else (none)) else (none)) else (none)) else (none))))))) = some r := by rw [if_neg (show ¬ (false = true) by decide)] at H; exact H
                    clear H
                    have H := H1
                    clear H1
                    replace H := Option.bind_eq_some_iff.mp H
                    obtain ⟨⟨t546, t547⟩, A410, H⟩ := H
                    replace H : ((mummerref04_Path.f kj31 l0 a1).bind fun bt550 => ((data_At.f l0 l2).bind fun bt554 => ((mummerref04_At.f kj31 l0 l2).bind fun bt556 => ((mummerref04_Ints.f kj31 t546 bt550.1).bind fun t558 => (if t558 = true then (if t547 = bt550.2 then (if bt554.1 = bt556.1 then (if bt554.2 = bt556.2 then ((mummerlaw04_shown.f kj31).bind fun t559 => (some t559)) else (none)) else (none)) else (none)) else (none)))))) = some r := H
                    have A41 := Aside0.mk A410
                    clear A410
                    replace H := Option.bind_eq_some_iff.mp H
                    obtain ⟨⟨t550, t551⟩, A420, H⟩ := H
                    replace H : ((data_At.f l0 l2).bind fun bt554 => ((mummerref04_At.f kj31 l0 l2).bind fun bt556 => ((mummerref04_Ints.f kj31 t546 t550).bind fun t558 => (if t558 = true then (if t547 = t551 then (if bt554.1 = bt556.1 then (if bt554.2 = bt556.2 then ((mummerlaw04_shown.f kj31).bind fun t559 => (some t559)) else (none)) else (none)) else (none)) else (none))))) = some r := H
                    have A42 := Aside0.mk A420
                    clear A420
                    replace H := Option.bind_eq_some_iff.mp H
                    obtain ⟨⟨t554, t555⟩, A430, H⟩ := H
                    replace H : ((mummerref04_At.f kj31 l0 l2).bind fun bt556 => ((mummerref04_Ints.f kj31 t546 t550).bind fun t558 => (if t558 = true then (if t547 = t551 then (if t554 = bt556.1 then (if t555 = bt556.2 then ((mummerlaw04_shown.f kj31).bind fun t559 => (some t559)) else (none)) else (none)) else (none)) else (none)))) = some r := H
                    have A43 := Aside0.mk A430
                    clear A430
                    replace H := Option.bind_eq_some_iff.mp H
                    obtain ⟨⟨t556, t557⟩, A440, H⟩ := H
                    replace H : ((mummerref04_Ints.f kj31 t546 t550).bind fun t558 => (if t558 = true then (if t547 = t551 then (if t554 = t556 then (if t555 = t557 then ((mummerlaw04_shown.f kj31).bind fun t559 => (some t559)) else (none)) else (none)) else (none)) else (none))) = some r := H
                    have A44 := Aside0.mk A440
                    clear A440
                    replace H := Option.bind_eq_some_iff.mp H
                    obtain ⟨t558, A450, H⟩ := H
                    replace H : (if t558 = true then (if t547 = t551 then (if t554 = t556 then (if t555 = t557 then ((mummerlaw04_shown.f kj31).bind fun t559 => (some t559)) else (none)) else (none)) else (none)) else (none)) = some r := H
                    have A45 := Aside0.mk A450
                    clear A450
                    by_cases c46 : t558 = true
                    · subst c46
                      have H1 : (if t547 = t551 then (if t554 = t556 then (if t555 = t557 then ((mummerlaw04_shown.f kj31).bind fun t559 => (some t559)) else (none)) else (none)) else (none)) = some r := by rw [if_pos rfl] at H; exact H
                      clear H
                      have H := H1
                      clear H1
                      by_cases c47 : t547 = t551
                      · rw [if_pos c47] at H
                        have c47b0 : (t547 == t551) = true := beq_iff_eq.mpr c47
                        have c47b1 : (t547 != t551) = false := bne_eq_false_iff_eq.mpr c47
                        clear c47
                        by_cases c48 : t554 = t556
                        · rw [if_pos c48] at H
                          have c48b0 : (t554 == t556) = true := beq_iff_eq.mpr c48
                          have c48b1 : (t554 != t556) = false := bne_eq_false_iff_eq.mpr c48
                          clear c48
                          by_cases c49 : t555 = t557
                          · rw [if_pos c49] at H
                            have c49b0 : (t555 == t557) = true := beq_iff_eq.mpr c49
                            have c49b1 : (t555 != t557) = false := bne_eq_false_iff_eq.mpr c49
                            clear c49
                            replace H := Option.bind_eq_some_iff.mp H
                            obtain ⟨t559, A500, H⟩ := H
                            replace H : (some t559) = some r := H
                            have A50 := Aside0.mk A500
                            clear A500
                            obtain rfl := Option.some.inj H
                            go_wp2_with (first | ((with_reducible refine gate_callee (f := 37) rfl ?_); refine goesL_ (some 111) rfl rfl Tryd.func37 (by kernel_rfl) rfl #[.slice A0 l0.length c0, .int .i64 a1] rfl (by (try simp only [List.map_toArray, List.map_cons, List.map_nil]); first | done | rfl | (simp only [List.length_drop, List.length_take]; rfl)) ?_; (with_reducible refine (data_Path.calls _ _ l0 a1 t546 t547 _ ?side1 ?side2 ?side3 A41.out).mono ?_); (case side1 => repeat (first | exact (Kd.C_below HR0.out HB.out) | (with_reducible refine Kd.C_alloc ?_ _) | (with_reducible refine Kd.C_drewN ?_ _) | (with_reducible refine Kd.C_drew ?_))); (case side2 => exact HC0.out); (case side3 => exact G0_keep HGl.out (by repeat (first | (with_reducible first | exact HB.out | apply below_alloc | apply pw_below_drewN | apply below_drew1) | exact HB.out))); rintro e w51 ⟨v548, rfl, ho0, hb⟩; refine ⟨_, rfl, ?_⟩; have n0_ := Aside0.mk (Kd.R_lower ho0 (below_size (by repeat (first | (with_reducible first | exact HB.out | apply below_alloc | apply pw_below_drewN | apply below_drew1) | exact HB.out)))); have n1_ := Aside0.mk (below_step (by repeat (first | (with_reducible first | exact HB.out | apply below_alloc | apply pw_below_drewN | apply below_drew1) | exact HB.out)) hb); clear HB; have HO549 := n0_; have HB := n1_; clear n0_ n1_; (try clear hb); (try clear hb2); (try clear hk); (try clear hi); (try clear ho0)) | ((with_reducible refine gate_callee (f := 38) rfl ?_); refine goesL_ (some 117) rfl rfl Tryd.func38 (by kernel_rfl) rfl #[.slice A0 l0.length c0, .int .i64 a1] rfl (by (try simp only [List.map_toArray, List.map_cons, List.map_nil]); first | done | rfl | (simp only [List.length_drop, List.length_take]; rfl)) ?_; (with_reducible refine (mummerref04_Path.calls kj31 _ _ l0 a1 t550 t551 _ ?side1 ?side2 A42.out).mono ?_); (case side1 => repeat (first | exact (Kd.C_below HR0.out HB.out) | (with_reducible refine Kd.C_alloc ?_ _) | (with_reducible refine Kd.C_drewN ?_ _) | (with_reducible refine Kd.C_drew ?_))); (case side2 => exact HC0.out); rintro e w52 ⟨v552, rfl, ho0, hb⟩; refine ⟨_, rfl, ?_⟩; have n0_ := Aside0.mk (Kd.R_elder' (by (with_reducible repeat (first | apply Kd.R_alloc | apply Kd.R_drewN | apply Kd.R_drew)); exact HO549.out) (Kd.R_base ho0) hb); have n1_ := Aside0.mk (Kd.R_lower (Kd.R_new' ho0 (Kd.R_lt (by (with_reducible repeat (first | apply Kd.R_alloc | apply Kd.R_drewN | apply Kd.R_drew)); exact HO549.out))) (below_size (by repeat (first | (with_reducible first | exact HB.out | apply below_alloc | apply pw_below_drewN | apply below_drew1) | exact HB.out)))); have n2_ := Aside0.mk (below_step (by repeat (first | (with_reducible first | exact HB.out | apply below_alloc | apply pw_below_drewN | apply below_drew1) | exact HB.out)) hb); clear HO549; clear HB; have HO549 := n0_; have HO553 := n1_; have HB := n2_; clear n0_ n1_ n2_; (try clear hb); (try clear hb2); (try clear hk); (try clear hi); (try clear ho0)) | ((with_reducible refine gate_callee (f := 39) rfl ?_); refine goesL_ (some 123) rfl rfl Tryd.func39 (by kernel_rfl) rfl #[.slice A0 l0.length c0, .slice A2 l2.length c2] rfl (by (try simp only [List.map_toArray, List.map_cons, List.map_nil]); first | done | rfl | (simp only [List.length_drop, List.length_take]; rfl)) ?_; (with_reducible refine (data_At.calls _ _ l0 _ _ l2 t554 t555 _ ?side1 ?side2 ?side3 ?side4 ?side5 A43.out).mono ?_); (case side1 => repeat (first | exact (Kd.C_below HR0.out HB.out) | (with_reducible refine Kd.C_alloc ?_ _) | (with_reducible refine Kd.C_drewN ?_ _) | (with_reducible refine Kd.C_drew ?_))); (case side2 => exact HC0.out); (case side3 => repeat (first | exact (Kd.C_below HR2.out HB.out) | (with_reducible refine Kd.C_alloc ?_ _) | (with_reducible refine Kd.C_drewN ?_ _) | (with_reducible refine Kd.C_drew ?_))); (case side4 => exact HC2.out); (case side5 => exact G0_keep HGl.out (by repeat (first | (with_reducible first | exact HB.out | apply below_alloc | apply pw_below_drewN | apply below_drew1) | exact HB.out))); rintro e w53 ⟨rfl, hb⟩; refine ⟨_, rfl, ?_⟩; have n0_ := Aside0.mk (Kd.R_below (by (with_reducible repeat (first | apply Kd.R_alloc | apply Kd.R_drewN | apply Kd.R_drew)); exact HO549.out) hb); have n1_ := Aside0.mk (Kd.R_below (by (with_reducible repeat (first | apply Kd.R_alloc | apply Kd.R_drewN | apply Kd.R_drew)); exact HO553.out) hb); have n2_ := Aside0.mk (below_step (by repeat (first | (with_reducible first | exact HB.out | apply below_alloc | apply pw_below_drewN | apply below_drew1) | exact HB.out)) hb); clear HO549; clear HO553; clear HB; have HO549 := n0_; have HO553 := n1_; have HB := n2_; clear n0_ n1_ n2_; (try clear hb); (try clear hb2); (try clear hk); (try clear hi)) | ((with_reducible refine gate_callee (f := 40) rfl ?_); refine goesL_ (some 129) rfl rfl Tryd.func40 (by kernel_rfl) rfl #[.slice A0 l0.length c0, .slice A2 l2.length c2] rfl (by (try simp only [List.map_toArray, List.map_cons, List.map_nil]); first | done | rfl | (simp only [List.length_drop, List.length_take]; rfl)) ?_; (with_reducible refine (mummerref04_At.calls kj31 _ _ l0 _ _ l2 t556 t557 _ ?side1 ?side2 ?side3 ?side4 A44.out).mono ?_); (case side1 => repeat (first | exact (Kd.C_below HR0.out HB.out) | (with_reducible refine Kd.C_alloc ?_ _) | (with_reducible refine Kd.C_drewN ?_ _) | (with_reducible refine Kd.C_drew ?_))); (case side2 => exact HC0.out); (case side3 => repeat (first | exact (Kd.C_below HR2.out HB.out) | (with_reducible refine Kd.C_alloc ?_ _) | (with_reducible refine Kd.C_drewN ?_ _) | (with_reducible refine Kd.C_drew ?_))); (case side4 => exact HC2.out); rintro e w54 ⟨rfl, hb⟩; refine ⟨_, rfl, ?_⟩; have n0_ := Aside0.mk (Kd.R_below (by (with_reducible repeat (first | apply Kd.R_alloc | apply Kd.R_drewN | apply Kd.R_drew)); exact HO549.out) hb); have n1_ := Aside0.mk (Kd.R_below (by (with_reducible repeat (first | apply Kd.R_alloc | apply Kd.R_drewN | apply Kd.R_drew)); exact HO553.out) hb); have n2_ := Aside0.mk (below_step (by repeat (first | (with_reducible first | exact HB.out | apply below_alloc | apply pw_below_drewN | apply below_drew1) | exact HB.out)) hb); clear HO549; clear HO553; clear HB; have HO549 := n0_; have HO553 := n1_; have HB := n2_; clear n0_ n1_ n2_; (try clear hb); (try clear hb2); (try clear hk); (try clear hi); obtain ⟨Ao55, co55, eo55⟩ := Kd.R_slice HO549.out; subst eo55; obtain ⟨Ao56, co56, eo56⟩ := Kd.R_slice HO553.out; subst eo56) | ((with_reducible refine gate_callee (f := 20) rfl ?_); refine goesL_ (some 134) rfl rfl Tryd.func20 (by kernel_rfl) rfl #[.slice Ao55 t546.length co55, .slice Ao56 t550.length co56] rfl (by (try simp only [List.map_toArray, List.map_cons, List.map_nil]); first | done | rfl | (simp only [List.length_drop, List.length_take]; rfl)) ?_; (with_reducible refine (mummerref04_Ints.calls kj31 _ _ t546 _ _ t550 true _ ?side1 ?side2 ?side3 ?side4 A45.out).mono ?_); (case side1 => repeat (first | exact (Kd.R_reads' HO549.out).2.2 | (with_reducible refine Kd.C_alloc ?_ _) | (with_reducible refine Kd.C_drewN ?_ _) | (with_reducible refine Kd.C_drew ?_))); (case side2 => exact (Kd.R_reads' HO549.out).2.1); (case side3 => repeat (first | exact (Kd.R_reads' HO553.out).2.2 | (with_reducible refine Kd.C_alloc ?_ _) | (with_reducible refine Kd.C_drewN ?_ _) | (with_reducible refine Kd.C_drew ?_))); (case side4 => exact (Kd.R_reads' HO553.out).2.1); rintro e w' ⟨rfl, ⟨nd, rfl⟩⟩; refine ⟨_, rfl, ?_⟩) | (go_at_call 13; (with_reducible refine (mummerlaw04_shown.calls kj31  t559 _ ?side1 A50.out).mono ?_); (case side1 => exact G0_keep HGl.out (by repeat (first | (with_reducible first | exact HB.out | apply below_alloc | apply pw_below_drewN | apply below_drew1) | exact HB.out))); rintro e w57 ⟨rfl, hb⟩; have n0_ := Aside0.mk (Kd.R_below (by (with_reducible repeat (first | apply Kd.R_alloc | apply Kd.R_drewN | apply Kd.R_drew)); exact HO549.out) hb); have n1_ := Aside0.mk (Kd.R_below (by (with_reducible repeat (first | apply Kd.R_alloc | apply Kd.R_drewN | apply Kd.R_drew)); exact HO553.out) hb); have n2_ := Aside0.mk (below_step (by repeat (first | (with_reducible first | exact HB.out | apply below_alloc | apply pw_below_drewN | apply below_drew1) | exact HB.out)) hb); clear HO549; clear HO553; clear HB; have HO549 := n0_; have HO553 := n1_; have HB := n2_; clear n0_ n1_ n2_; (try clear hb); (try clear hb2); (try clear hk); (try clear hi)))
                            go_ret
                            exact ⟨by first | rfl | (simp [errW_none, errW_some] <;> rfl) | (simp [*, errW_none, errW_some] <;> rfl), by repeat (first | (with_reducible first | exact HB.out | apply below_alloc | apply pw_below_drewN | apply below_drew1) | exact HB.out)⟩
                          · rw [if_neg c49] at H
                            exact absurd H (by simp)
                        · rw [if_neg c48] at H
                          exact absurd H (by simp)
                      · rw [if_neg c47] at H
                        exact absurd H (by simp)
                    · replace c46 := Bool.eq_false_iff.mpr c46
                      subst c46
                      have H1 : (none) = some r := by rw [if_neg (show ¬ (false = true) by decide)] at H; exact H
                      clear H
                      have H := H1
                      clear H1
                      exact absurd H (by simp)
end Go.Proofs.YtgmiekggdgmhkaaDoor.Q
end
section
/- The chapter's examples: what the printed 'shown' comes to, by the kernel's run of the plain functions. -/
namespace Go.Proofs.YtgmiekggdgmhkaaDoor.Q
open Go.RowKit Go.Proofs.YtgmiekggdgmhkaaDoorW.PrintWords
theorem shown_ev : Ev (fun k => mummerlaw04_shown.f k) true := Ev.of (fun k => mummerlaw04_shown.mono k) (k := 40) (by kernel_rfl)
end Go.Proofs.YtgmiekggdgmhkaaDoor.Q
end
