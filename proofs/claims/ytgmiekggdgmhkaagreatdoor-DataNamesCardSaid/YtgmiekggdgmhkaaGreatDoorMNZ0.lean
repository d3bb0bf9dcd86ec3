/- The statement DataNames of mummer/mummerlaw04.DataNames: for every input the law's call returns true and its arguments read as before; under the card's own condition, that utf8's two tables lie as the program's text lays them. -/
import Derived.Below
import Derived.Handed
import Derived.LaidMore
import Derived.Lay
import Derived.OpenShut
import Derived.ProofKit
import Derived.SevenTiedAt
import Derived.ShutString
import Derived.SizedLaws
import Derived.Test.YtgmiekggdgmhkaaGreatDoorCards
import Derived.Test.YtgmiekggdgmhkaaGreatDoorRows
import Derived.Test.YtgmiekggdgmhkaaGreatDoorTie
import Derived.WalkKit
import Derived.Test.YtgmiekggdgmhkaaGreatDoorMN30
import Derived.Test.YtgmiekggdgmhkaaGreatDoorMN34
import Derived.Test.YtgmiekggdgmhkaaGreatDoorMN37
import Derived.Test.YtgmiekggdgmhkaaGreatDoorMN38
section
namespace Go.Proofs.YtgmiekggdgmhkaaGreatDoor.CDataNames
open Go Go.ChangeShapes Go.WideShapes Go.ChangeAt Go.RowKit Go.Proofs.YtgmiekggdgmhkaaGreatDoor.Q Go.Proofs.YtgmiekggdgmhkaaGreatDoorW.PrintWords
open Go.ChangeMaps (open_string shut_string)
set_option linter.unusedVariables false
set_option linter.unusedSimpArgs false
set_option maxRecDepth 100000 in
theorem lifted (os:Os) (started:os.Started) (H:Type) (enc:TypeId×Value→H):
 ReturnsInHanded {} Tryz.checked os 3 .any (fun w args=>(Rows.dataNamesSpec.pre enc Tryz.prog Tryz.f3 [] false w args∧laidMetH Tryz.prog laid2 w)∧sizedMet enc Tryz.prog Tryz.f3 (OpenSpec.ofChange Rows.dataNamesSpec) false w args)
  (Rows.dataNamesSpec.post enc Tryz.prog Tryz.f3 false true false false):=by
 refine returnsInHanded_of_change_and (C:=Tryz.checked) (X:=fun w _=>laidMetH Tryz.prog laid2 w) (fun _ _ _ hh h=>h.of_heap hh) own started (by kernel_rfl) Tryz.func3
  (ChangeSpec.witness_shaped (enc:=enc) (C:=Tryz.checked) (os:=os) (X:=fun w _=>laidMetH Tryz.prog laid2 w) false (World.laidAll Tryz.prog os laid2) #[.slice none 0 0,.slice none 0 0,.agg #[.slice none 0 0,.slice none 0 0]] 8 (World.laidAll_os _ _ _)
   (World.shaped_of_ZipB (by kernel_rfl) (by kernel_rfl)) (by kernel_rfl) (by kernel_rfl) (by kernel_rfl)
   (by rw [MakeChecks.laidMetH_plain _ _ _ (by kernel_rfl)];exact laidMet_laidAll _ (by kernel_rfl) (by kernel_rfl))) ?_
 intro W base args ds gs before hval0 hW _ _ hL _;have hval: ∀(j:Nat) t v,Tryz.f3.params[j]? =some t→args[j]? =some v→Value.okWide Tryz.prog W .any base t v:=hval0;have hW':=hW;obtain ⟨p,q,hA0,hV,rfl,_,_⟩:=hW;have hA:DataW.TrodAll enc Tryz.prog W 0 (fun _=>true) true Tryz.f3.params.toList args.toList ds p:=hA0;rw [Tryz.params3] at hA hval;obtain ⟨v0,vs0,d0,ds0,p0,q0,hargs,rfl,rfl,h0,r0⟩:=trodAll_cons hA;obtain ⟨v1,vs1,d1,ds1,p1,q1,rfl,rfl,rfl,h1,r1⟩:=trodAll_cons r0;obtain ⟨v2,vs2,d2,ds2,p2,q2,rfl,rfl,rfl,h2,r2⟩:=trodAll_cons r1;obtain ⟨rfl,rfl,rfl⟩:=trodAll_nil r2
 obtain rfl:args= #[v0,v1,v2]:=by cases args;simp_all
 obtain ⟨rfl,rfl⟩:=trodVars_none hV;have k0:=h0
 have lt0: ∀x∈p0,x.block<W.heap.size:=by obtain ⟨m,hm⟩:=k0;exact DataW.trod_lt m _ _ _ hm
 obtain ⟨A0,c0,l0,rfl,hc0,hr0,w0⟩:=arg_row Tryz.underlying22 (by kernel_rfl) opens_40 (hval 0 22 v0 rfl rfl) h0;have k1:=h1
 have lt1: ∀x∈p1,x.block<W.heap.size:=by obtain ⟨m,hm⟩:=k1;exact DataW.trod_lt m _ _ _ hm
 obtain ⟨A1,c1,l1,rfl,hc1,hr1,w1⟩:=arg_row Tryz.underlying22 (by kernel_rfl) opens_40 (hval 1 22 v1 rfl rfl) h1;have k2:=h2
 have lt2: ∀x∈p2,x.block<W.heap.size:=by obtain ⟨m,hm⟩:=k2;exact DataW.trod_lt m _ _ _ hm
 obtain ⟨cs2,x2,rfl,kx2,w2⟩:=arg_struct Tryz.underlying25 opens_25 (hval 2 25 v2 rfl rfl) h2;obtain ⟨A2_0,c2_0,A2_1,c2_1,rfl,hc2_0,hr2_0,hc2_1,hr2_1⟩:=k25_open kx2;clear hA0 hval0;have hG:G0 W:=G0_of_laid hL;simp only [List.append_nil] at hW';obtain ⟨k,hk⟩:=(names_pure l0 l1 x2.f0 x2.f1 w0 w1 w2).rounds
 refine (mummerlaw04_DataNames.calls k A0 c0 l0 A1 c1 l1 A2_0 c2_0 x2.f0 A2_1 c2_1 x2.f1 true W hr0 hc0 hr1 hc1 hr2_0 hc2_0 hr2_1 hc2_1 hG hk).mono fun e W' ⟨he,bel⟩=>?_
 subst he;exact ⟨_,rfl,_,_,_,[],_,[],hW',trodAll_mk1 (shut_bool Tryz.underlying4 _),(trodAll_cons_mk (Below.trod laidOut (by kernel_rfl) (of_decide_eq_true (by kernel_rfl)) k0 bel lt0) (trodAll_cons_mk (Below.trod laidOut (by kernel_rfl) (of_decide_eq_true (by kernel_rfl)) k1 bel lt1) (trodAll_cons_mk (Below.trod laidOut (by kernel_rfl) (of_decide_eq_true (by kernel_rfl)) k2 bel lt2) trodAll_mk0))),rfl,bel.frame _,fun h=>by cases h⟩
theorem holds:Rows.DataNamesSaid:=
 OpenClaim.holds_of_wide 3 Tryz.f3 rfl rfl rfl rfl rfl rfl rfl ⟨rfl,rfl,rfl,rfl,rfl⟩ rfl rfl rfl rfl rfl (by kernel_rfl) Tryz.func3 (by kernel_rfl)
  (of_decide_eq_true (by kernel_rfl)) (by unfold Func.isWrapper;first|(rw [if_pos (by decide+kernel)];kernel_rfl)|(rw [if_neg (by decide+kernel)];exact ⟨rfl,rfl⟩))
  (fun os started H enc _=>lifted os started H enc)
theorem card_holds:Rows.DataNamesCardSaid:=
 Claim7.holds_tied_plain_at .later [] [.data, .pinned] true (true, "99c3f162c4cddac7999326a59b86e4455b1cfdbbf30d7fd90ea702c7271fb952") false holds (fun _ h => by cases h) (by kernel_rfl) (fun _ h => by cases h) dataNames_row_tie rfl ⟨rfl, rfl⟩ (by kernel_rfl) rfl
  (fun f fn hf hfn=>by
   obtain rfl : f = 3 := Option.some.inj ((show Tryz.prog.funcNamed "mummer/mummerlaw04.DataNames" = some 3 by kernel_rfl).symm.trans hf) |>.symm
   obtain rfl:fn=Tryz.f3:=(Option.some.inj (Tryz.func3.symm.trans hfn)).symm
   exact ⟨by kernel_rfl,fun j t ht=>by
        rw [Tryz.params3] at ht
        have hm:t∈[22,22,25]:=by simpa using Array.mem_of_getElem? ht
        have hall:([22,22,25].all fun u=> !Tryz.prog.wantsStandIn u)=true:=by kernel_rfl
        exact (show Tryz.prog.wantsStandIn t=false by simpa using List.all_eq_true.1 hall t hm)⟩)
  (by kernel_rfl)
end Go.Proofs.YtgmiekggdgmhkaaGreatDoor.CDataNames
namespace Go.Proofs.YtgmiekggdgmhkaaGreatDoor
theorem dataNames_card:Rows.DataNamesCardSaid:=CDataNames.card_holds
end Go.Proofs.YtgmiekggdgmhkaaGreatDoor
end
#print axioms Go.Proofs.YtgmiekggdgmhkaaGreatDoor.dataNames_card
