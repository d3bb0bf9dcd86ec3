/- The statement LexerKnown of mummer/mummerlaw05.LexerKnown: for every input the law's call returns true and its arguments read as before; under the card's own condition, that utf8's two tables lie as the program's text lays them. -/
import Derived.Below
import Derived.Handed
import Derived.LaidMore
import Derived.Lay
import Derived.OpenShut
import Derived.ProofKit
import Derived.SevenTiedAt
import Derived.ShutString
import Derived.SizedLaws
import Derived.Test.YtdffphkbidfejaaDoorCards
import Derived.Test.YtdffphkbidfejaaDoorRows
import Derived.Test.YtdffphkbidfejaaDoorTie
import Derived.WalkKit
import Derived.Test.YtdffphkbidfejaaDoorMK24
import Derived.Test.YtdffphkbidfejaaDoorMK27
import Derived.Test.YtdffphkbidfejaaDoorMK29
import Derived.Test.YtdffphkbidfejaaDoorMK30
section
namespace Go.Proofs.YtdffphkbidfejaaDoor.CLexerKnown
open Go Go.ChangeShapes Go.WideShapes Go.ChangeAt Go.RowKit Go.Proofs.YtdffphkbidfejaaDoor.Q Go.Proofs.YtdffphkbidfejaaDoorW.PrintWords
open Go.ChangeMaps (open_string shut_string)
set_option linter.unusedVariables false
set_option linter.unusedSimpArgs false
set_option maxRecDepth 100000 in
theorem lifted (os:Os) (started:os.Started) (H:Type) (enc:TypeId×Value→H):
 ReturnsInHanded {} Tryd.checked os 7 .any (fun w args=>(Rows.lexerKnownSpec.pre enc Tryd.prog Tryd.f7 [] false w args∧laidMetH Tryd.prog laid7 w)∧sizedMet enc Tryd.prog Tryd.f7 (OpenSpec.ofChange Rows.lexerKnownSpec) false w args)
  (Rows.lexerKnownSpec.post enc Tryd.prog Tryd.f7 false true false false):=by
 refine returnsInHanded_of_change_and (C:=Tryd.checked) (X:=fun w _=>laidMetH Tryd.prog laid7 w) (fun _ _ _ hh h=>h.of_heap hh) own started (by kernel_rfl) Tryd.func7
  (ChangeSpec.witness_shaped (enc:=enc) (C:=Tryd.checked) (os:=os) (X:=fun w _=>laidMetH Tryd.prog laid7 w) false (World.laidAll Tryd.prog os laid7) #[] 8 (World.laidAll_os _ _ _)
   (World.shaped_of_ZipB (by kernel_rfl) (by kernel_rfl)) (by kernel_rfl) (by kernel_rfl) (by kernel_rfl)
   (by rw [MakeChecks.laidMetH_plain _ _ _ (by kernel_rfl)];exact laidMet_laidAll _ (by kernel_rfl) (by kernel_rfl))) ?_
 intro W base args ds gs before hval0 hW _ _ hL _;have hval: ∀(j:Nat) t v,Tryd.f7.params[j]? =some t→args[j]? =some v→Value.okWide Tryd.prog W .any base t v:=hval0;have hW':=hW;obtain ⟨p,q,hA0,hV,rfl,_,_⟩:=hW;have hA:DataW.TrodAll enc Tryd.prog W 0 (fun _=>true) true Tryd.f7.params.toList args.toList ds p:=hA0;rw [Tryd.params7] at hA hval;obtain ⟨rfl,rfl,rfl⟩:=trodAll_none hA;obtain ⟨rfl,rfl⟩:=trodVars_none hV;clear hA0 hval0;have hG:G5 W:=G5_of_laid hL;simp only [List.append_nil] at hW';obtain ⟨k,hk⟩:=(known5_pure  ).rounds
 refine (mummerlaw05_LexerKnown.calls k true W hG hk).mono fun e W' ⟨he,bel⟩=>?_
 subst he;exact ⟨_,rfl,_,_,_,[],_,[],hW',trodAll_mk1 (shut_bool Tryd.underlying4 _),trodAll_mk0,rfl,bel.frame _,fun h=>by cases h⟩
theorem holds:Rows.LexerKnownSaid:=
 OpenClaim.holds_of_wide 7 Tryd.f7 rfl rfl rfl rfl rfl rfl rfl ⟨rfl,rfl,rfl,rfl,rfl⟩ rfl rfl rfl rfl rfl (by kernel_rfl) Tryd.func7 (by kernel_rfl)
  (of_decide_eq_true (by kernel_rfl)) (by unfold Func.isWrapper;first|(rw [if_pos (by decide+kernel)];kernel_rfl)|(rw [if_neg (by decide+kernel)];exact ⟨rfl,rfl⟩))
  (fun os started H enc _=>lifted os started H enc)
theorem card_holds:Rows.LexerKnownCardSaid:=
 Claim7.holds_tied_plain_at .later [] [.data, .data, .data, .data, .sentinel, .sentinel, .pinned] true (true, "a28f413f24d9af801aa5e7006b802e0d71db48eaf34dee49c6ac62b7f1ab624c") true holds (fun _ h => by cases h) (by kernel_rfl) (fun _ h => by cases h) lexerKnown_row_tie rfl ⟨rfl, rfl⟩ (by kernel_rfl) rfl
  (fun f fn hf hfn=>by
   obtain rfl : f = 7 := Option.some.inj ((show Tryd.prog.funcNamed "mummer/mummerlaw05.LexerKnown" = some 7 by kernel_rfl).symm.trans hf) |>.symm
   obtain rfl:fn=Tryd.f7:=(Option.some.inj (Tryd.func7.symm.trans hfn)).symm
   exact ⟨by kernel_rfl,fun j t ht=>by
        rw [Tryd.params7] at ht
        simp at ht⟩)
  (by kernel_rfl)
end Go.Proofs.YtdffphkbidfejaaDoor.CLexerKnown
namespace Go.Proofs.YtdffphkbidfejaaDoor
theorem lexerKnown_card:Rows.LexerKnownCardSaid:=CLexerKnown.card_holds
end Go.Proofs.YtdffphkbidfejaaDoor
end
#print axioms Go.Proofs.YtdffphkbidfejaaDoor.lexerKnown_card
