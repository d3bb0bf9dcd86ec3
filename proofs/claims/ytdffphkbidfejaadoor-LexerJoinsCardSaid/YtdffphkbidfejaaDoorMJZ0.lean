/- The statement LexerJoins of mummer/mummerlaw05.LexerJoins: for every input the law's call returns true and its arguments read as before; under the card's own condition, that utf8's two tables lie as the program's text lays them. -/
import Derived.Below
import Derived.Handed
import Derived.LaidMore
import Derived.Lay
import Derived.OpenShut
import Derived.ProofKit
import Derived.SevenTiedAt
import Derived.ShutString
import Derived.SizedLaws
import Derived.Test.YtdffphkbidfejaaDoorCards
import Derived.Test.YtdffphkbidfejaaDoorRows
import Derived.Test.YtdffphkbidfejaaDoorTie
import Derived.WalkKit
import Derived.Test.YtdffphkbidfejaaDoorMJ24
import Derived.Test.YtdffphkbidfejaaDoorMJ27
import Derived.Test.YtdffphkbidfejaaDoorMJ29
import Derived.Test.YtdffphkbidfejaaDoorMJ30
section
namespace Go.Proofs.YtdffphkbidfejaaDoor.CLexerJoins
open Go Go.ChangeShapes Go.WideShapes Go.ChangeAt Go.RowKit Go.Proofs.YtdffphkbidfejaaDoor.Q Go.Proofs.YtdffphkbidfejaaDoorW.PrintWords
open Go.ChangeMaps (open_string shut_string)
set_option linter.unusedVariables false
set_option linter.unusedSimpArgs false
set_option maxRecDepth 100000 in
theorem lifted (os:Os) (started:os.Started) (H:Type) (enc:TypeId×Value→H):
 ReturnsInHanded {} Tryd.checked os 4 .any (fun w args=>(Rows.lexerJoinsSpec.pre enc Tryd.prog Tryd.f4 [] false w args∧laidMetH Tryd.prog laid7 w)∧sizedMet enc Tryd.prog Tryd.f4 (OpenSpec.ofChange Rows.lexerJoinsSpec) false w args)
  (Rows.lexerJoinsSpec.post enc Tryd.prog Tryd.f4 false true false false):=by
 refine returnsInHanded_of_change_and (C:=Tryd.checked) (X:=fun w _=>laidMetH Tryd.prog laid7 w) (fun _ _ _ hh h=>h.of_heap hh) own started (by kernel_rfl) Tryd.func4
  (ChangeSpec.witness_shaped (enc:=enc) (C:=Tryd.checked) (os:=os) (X:=fun w _=>laidMetH Tryd.prog laid7 w) false (World.laidAll Tryd.prog os laid7) #[.slice none 0 0,.slice none 0 0] 8 (World.laidAll_os _ _ _)
   (World.shaped_of_ZipB (by kernel_rfl) (by kernel_rfl)) (by kernel_rfl) (by kernel_rfl) (by kernel_rfl)
   (by rw [MakeChecks.laidMetH_plain _ _ _ (by kernel_rfl)];exact laidMet_laidAll _ (by kernel_rfl) (by kernel_rfl))) ?_
 intro W base args ds gs before hval0 hW _ _ hL _;have hval: ∀(j:Nat) t v,Tryd.f4.params[j]? =some t→args[j]? =some v→Value.okWide Tryd.prog W .any base t v:=hval0;have hW':=hW;obtain ⟨p,q,hA0,hV,rfl,_,_⟩:=hW;have hA:DataW.TrodAll enc Tryd.prog W 0 (fun _=>true) true Tryd.f4.params.toList args.toList ds p:=hA0;rw [Tryd.params4] at hA hval;obtain ⟨v0,vs0,d0,ds0,p0,q0,hargs,rfl,rfl,h0,r0⟩:=trodAll_cons hA;obtain ⟨v1,vs1,d1,ds1,p1,q1,rfl,rfl,rfl,h1,r1⟩:=trodAll_cons r0;obtain ⟨rfl,rfl,rfl⟩:=trodAll_nil r1
 obtain rfl:args= #[v0,v1]:=by cases args;simp_all
 obtain ⟨rfl,rfl⟩:=trodVars_none hV;have k0:=h0
 have lt0: ∀x∈p0,x.block<W.heap.size:=by obtain ⟨m,hm⟩:=k0;exact DataW.trod_lt m _ _ _ hm
 obtain ⟨A0,c0,l0,rfl,hc0,hr0,w0⟩:=arg_row Tryd.underlying23 (by kernel_rfl) (opens_int (k:= .u8) (by kernel_rfl)) (hval 0 23 v0 rfl rfl) h0;have k1:=h1
 have lt1: ∀x∈p1,x.block<W.heap.size:=by obtain ⟨m,hm⟩:=k1;exact DataW.trod_lt m _ _ _ hm
 obtain ⟨A1,c1,l1,rfl,hc1,hr1,w1⟩:=arg_row Tryd.underlying23 (by kernel_rfl) (opens_int (k:= .u8) (by kernel_rfl)) (hval 1 23 v1 rfl rfl) h1;clear hA0 hval0;have hG:G5 W:=G5_of_laid hL;simp only [List.append_nil] at hW';obtain ⟨k,hk⟩:=(joins_pure l0 l1 w0 w1).rounds
 refine (mummerlaw05_LexerJoins.calls k A0 c0 l0 A1 c1 l1 true W hr0 hc0 hr1 hc1 hG hk).mono fun e W' ⟨he,bel⟩=>?_
 subst he;exact ⟨_,rfl,_,_,_,[],_,[],hW',trodAll_mk1 (shut_bool Tryd.underlying4 _),(trodAll_cons_mk (Below.trod laidOut (by kernel_rfl) (of_decide_eq_true (by kernel_rfl)) k0 bel lt0) (trodAll_cons_mk (Below.trod laidOut (by kernel_rfl) (of_decide_eq_true (by kernel_rfl)) k1 bel lt1) trodAll_mk0)),rfl,bel.frame _,fun h=>by cases h⟩
theorem holds:Rows.LexerJoinsSaid:=
 OpenClaim.holds_of_wide 4 Tryd.f4 rfl rfl rfl rfl rfl rfl rfl ⟨rfl,rfl,rfl,rfl,rfl⟩ rfl rfl rfl rfl rfl (by kernel_rfl) Tryd.func4 (by kernel_rfl)
  (of_decide_eq_true (by kernel_rfl)) (by unfold Func.isWrapper;first|(rw [if_pos (by decide+kernel)];kernel_rfl)|(rw [if_neg (by decide+kernel)];exact ⟨rfl,rfl⟩))
  (fun os started H enc _=>lifted os started H enc)
theorem card_holds:Rows.LexerJoinsCardSaid:=
 Claim7.holds_tied_plain_at .later [] [.data, .data, .data, .data, .sentinel, .sentinel, .pinned] true (true, "a28f413f24d9af801aa5e7006b802e0d71db48eaf34dee49c6ac62b7f1ab624c") true holds (fun _ h => by cases h) (by kernel_rfl) (fun _ h => by cases h) lexerJoins_row_tie rfl ⟨rfl, rfl⟩ (by kernel_rfl) rfl
  (fun f fn hf hfn=>by
   obtain rfl : f = 4 := Option.some.inj ((show Tryd.prog.funcNamed "mummer/mummerlaw05.LexerJoins" = some 4 by kernel_rfl).symm.trans hf) |>.symm
   obtain rfl:fn=Tryd.f4:=(Option.some.inj (Tryd.func4.symm.trans hfn)).symm
   exact ⟨by kernel_rfl,fun j t ht=>by
        rw [Tryd.params4] at ht
        have hm:t∈[23,23]:=by simpa using Array.mem_of_getElem? ht
        have hall:([23,23].all fun u=> !Tryd.prog.wantsStandIn u)=true:=by kernel_rfl
        exact (show Tryd.prog.wantsStandIn t=false by simpa using List.all_eq_true.1 hall t hm)⟩)
  (by kernel_rfl)
end Go.Proofs.YtdffphkbidfejaaDoor.CLexerJoins
namespace Go.Proofs.YtdffphkbidfejaaDoor
theorem lexerJoins_card:Rows.LexerJoinsCardSaid:=CLexerJoins.card_holds
end Go.Proofs.YtdffphkbidfejaaDoor
end
#print axioms Go.Proofs.YtdffphkbidfejaaDoor.lexerJoins_card
