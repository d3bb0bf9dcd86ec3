import Derived.KernelRfl
import Derived.Test.YtgmiekggdgmhkaaGreatDoorMN29
import Derived.Test.YtgmiekggdgmhkaaGreatDoorMN5
section
namespace Go.Proofs.YtgmiekggdgmhkaaGreatDoor.Q
open Go.RowKit Go.ChangeShapes Go.WideShapes Go.Proofs.YtgmiekggdgmhkaaGreatDoorW.PrintWords
set_option linter.unusedVariables false
def Wf40 (x:S40):Prop:=(WfI .i64) x.f0∧(WfI .i64) x.f1∧(WfI .i64) x.f2∧(WfS) x.f3
theorem opens_40:Opens Tryz.prog 40 k40 Wf40:=fun {H enc w base spare held fuel cs x} h=>by
 obtain ⟨xs,n,_,_,hcl,hlen,hf⟩:=DataW.trod_struct Tryz.underlying40 h;rw [show Tryz.prog.cellsOf 40=4 by kernel_rfl] at hcl;have hl:xs.length=4:=hlen;have h0:DataW.trod enc Tryz.prog w base spare held n 3 ((cs.drop 0).take 1)=some (xs[0]'(by omega)):=fld (t:=3) (o:=0) (c:=1) (by kernel_rfl) (hf 0 _ rfl) (List.getElem?_eq_getElem (by omega));obtain ⟨a0,k0_,w0⟩:=(opens_int (k:= .i64) (by kernel_rfl)) h0;have h1:DataW.trod enc Tryz.prog w base spare held n 3 ((cs.drop 1).take 1)=some (xs[1]'(by omega)):=fld (t:=3) (o:=1) (c:=1) (by kernel_rfl) (hf 1 _ rfl) (List.getElem?_eq_getElem (by omega));obtain ⟨a1,k1_,w1⟩:=(opens_int (k:= .i64) (by kernel_rfl)) h1;have h2:DataW.trod enc Tryz.prog w base spare held n 2 ((cs.drop 2).take 1)=some (xs[2]'(by omega)):=fld (t:=2) (o:=2) (c:=1) (by kernel_rfl) (hf 2 _ rfl) (List.getElem?_eq_getElem (by omega));obtain ⟨a2,k2_,w2⟩:=(opens_int (k:= .i64) (by kernel_rfl)) h2;have h3:DataW.trod enc Tryz.prog w base spare held n 9 ((cs.drop 3).take 1)=some (xs[3]'(by omega)):=fld (t:=9) (o:=3) (c:=1) (by kernel_rfl) (hf 3 _ rfl) (List.getElem?_eq_getElem (by omega));obtain ⟨a3,k3_,w3⟩:=(opens_string (by kernel_rfl)) h3;refine ⟨⟨a0,a1,a2,a3⟩,?_,w0,w1,w2,w3⟩;have e0:cs.drop 0=(cs.drop 0).take 1++cs.drop 1:=seg_cut cs 0 1;have e1:cs.drop 1=(cs.drop 1).take 1++cs.drop 2:=seg_cut cs 1 1;have e2:cs.drop 2=(cs.drop 2).take 1++(cs.drop 3).take 1:=(seg_cut cs 2 1).trans (congrArg _ (seg_last cs 3 1 (by omega)));have e:cs=cs.drop 0:=rfl;rw [e];exact (show k40.K w ⟨a0,a1,a2,a3⟩ (cs.drop 0) from ⟨_,_,e0,k0_,⟨_,_,e1,k1_,⟨_,_,e2,k2_,k3_⟩⟩⟩)
structure S25 where
 f0:List ByteArray
 f1:List ByteArray
def k25:Kd S25:=Kd.iso (Kd.pair (Kd.slice 9 Kd.string) (Kd.slice 9 Kd.string)) (fun x:S25=>(x.f0,x.f1))
def Wf25 (x:S25):Prop:=WfL WfS x.f0∧WfL WfS x.f1
theorem k25_open {w:World} {x:S25} {cs:List Value} (h:k25.K w x cs): ∃A0 c0 A1 c1,cs=[.slice A0 x.f0.length c0,.slice A1 x.f1.length c1]∧x.f0.length≤c0∧Kd.C Kd.string w A0 x.f0.length x.f0∧x.f1.length≤c1∧Kd.C Kd.string w A1 x.f1.length x.f1:=by
 obtain ⟨cs0,cs1,rfl,⟨A0,c0,e0,h0,g0⟩,⟨A1,c1,e1,h1,g1⟩⟩:=h;subst e0 e1;exact ⟨A0,c0,A1,c1,rfl,h0,g0,h1,g1⟩
theorem opens_25:Opens Tryz.prog 25 k25 Wf25:=fun {H enc w base spare held fuel cs x} h=>by
 obtain ⟨xs,n,_,_,hcl,hlen,hf⟩:=DataW.trod_struct Tryz.underlying25 h;rw [show Tryz.prog.cellsOf 25=2 by kernel_rfl] at hcl;have hl:xs.length=2:=hlen;have h0:DataW.trod enc Tryz.prog w base spare held n 23 ((cs.drop 0).take 1)=some (xs[0]'(by omega)):=fld (t:=23) (o:=0) (c:=1) (by kernel_rfl) (hf 0 _ rfl) (List.getElem?_eq_getElem (by omega));obtain ⟨a0,k0_,w0⟩:=(opens_slice (e:=9) (e':=9) (by kernel_rfl) (by kernel_rfl) (opens_string (by kernel_rfl))) h0;have h1:DataW.trod enc Tryz.prog w base spare held n 23 ((cs.drop 1).take 1)=some (xs[1]'(by omega)):=fld (t:=23) (o:=1) (c:=1) (by kernel_rfl) (hf 1 _ rfl) (List.getElem?_eq_getElem (by omega));obtain ⟨a1,k1_,w1⟩:=(opens_slice (e:=9) (e':=9) (by kernel_rfl) (by kernel_rfl) (opens_string (by kernel_rfl))) h1;refine ⟨⟨a0,a1⟩,?_,w0,w1⟩;have e0:cs.drop 0=(cs.drop 0).take 1++(cs.drop 1).take 1:=(seg_cut cs 0 1).trans (congrArg _ (seg_last cs 1 1 (by omega)));have e:cs=cs.drop 0:=rfl;rw [e];exact (show k25.K w ⟨a0,a1⟩ (cs.drop 0) from ⟨_,_,e0,k0_,k1_⟩)
end Go.Proofs.YtgmiekggdgmhkaaGreatDoor.Q
end
