import Derived.Deep.Fields
import Derived.Deep.Slices
import Derived.OpenShut
import Derived.ProofKit
import Derived.WalkKit
import Derived.Test.YtdffphkbidfejaaDoorMJ0
section
namespace Go.Proofs.YtdffphkbidfejaaDoor.Q
open Go.RowKit Go.ChangeShapes Go.WideShapes Go.Proofs.YtdffphkbidfejaaDoorW.PrintWords
set_option linter.unusedVariables false
def Opens {α:Type} (P:Program) (t:TypeId) (K:Kd α) (wf:α→Prop):Prop:=
 ∀{H:Type} {enc:TypeId×Value→H} {w:World} {base:Nat} {spare:Nat→Bool} {held:Bool} {fuel:Nat} {cs:List Value} {x:DataW H×List MemPlace},
  DataW.trod enc P w base spare held fuel t cs=some x→ ∃a:α,K.K w a cs∧wf a
def WfI (k:IntKind) (n:Int):Prop:=(Lit.int k n).wf=true
def WfL {α:Type} (wf:α→Prop) (l:List α):Prop:=l.length≤maxLen∧ ∀x∈l,wf x
theorem opens_int {P:Program} {t:TypeId} {k:IntKind} (ht:P.underlying t=some (.int k)):Opens P t (Kd.int k) (WfI k):=fun h=>by
 obtain ⟨n,rfl,_,hw⟩:=DataW.trod_int ht h;exact ⟨n,rfl,hw⟩
theorem list_of_forall {α:Type} {p:Nat→α→Prop}: ∀n:Nat,(∀i,i<n→ ∃a,p i a)→ ∃l:List α,l.length=n∧ ∀i a,l[i]? =some a→p i a
 |0,_=>⟨[],rfl,fun i a h=>by simp at h⟩
 |n+1,h=>by
  obtain ⟨l,hl,hp⟩:=list_of_forall n (fun i hi=>h i (by omega));obtain ⟨a,ha⟩:=h n (by omega);refine ⟨l++[a],by simp [hl],fun i b hb=>?_⟩;by_cases hi:i<l.length
  · rw [List.getElem?_append_left hi] at hb;exact hp i b hb
  · rw [List.getElem?_append_right (by omega)] at hb
    have:i-l.length=0:=by
     cases hk:i-l.length with
     |zero=>rfl
     |succ k=>rw [hk] at hb;simp at hb
    rw [this] at hb
    obtain rfl:a=b:=by simpa using hb
    obtain rfl:i=n:=by omega
    exact ha
theorem opens_row {α:Type} {P:Program} {t e:TypeId} {d:Kd α} {wf:α→Prop} (ht:P.underlying t=some (.slice e)) (hs:P.cellsOf e=d.sz) (h0:Opens P e d wf)
 {H:Type} {enc:TypeId×Value→H} {w:World} {base:Nat} {spare:Nat→Bool} {held:Bool} {fuel:Nat} {cs:List Value} {x:DataW H×List MemPlace} (h:DataW.trod enc P w base spare held fuel t cs=some x):
 ∃(A:Option Addr) (c:Nat) (l:List α),cs=[.slice A l.length c]∧l.length≤c∧Kd.C d w A l.length l∧WfL wf l:=by
 rcases Go.Deep.open_slice ht h with ⟨rfl,_⟩|⟨a,len,cap,m,n,D,Pl,rfl,hb,hl,hm,hmm,hx,hi⟩
 · exact ⟨none,0,[],rfl,Nat.le_refl _,⟨rfl,by simp,fun hn=>absurd hn (by simp)⟩,by simp,fun x hx=>by simp at hx⟩
 · have hlm:len≤m:=by rw [hmm];split<;>omega
   have hm2:=hm;unfold maxLen at hm2
   obtain ⟨l,hll,hlp⟩:=list_of_forall (p:=fun i (x:α)=>wf x∧ ∃cs',cs'.length=d.sz∧d.K w x cs'∧ ∀j u,cs'[j]? =some u→w.cell? (a.add (i*d.sz+j))=some u) len (fun i hil=>by
    obtain ⟨cs',hc,ht'⟩:=hi i (by omega);obtain ⟨v,hv,hwf⟩:=h0 ht';obtain ⟨_,hcl,hat⟩:=World.cells?_some hc;refine ⟨v,hwf,cs',by rw [hcl,hs],hv,fun j u hu=>?_⟩
    have hj:j<P.cellsOf e:=by rw [←hcl];exact (List.getElem?_eq_some_iff.1 hu).1
    have:=hat j hj
    rw [←hs,←Go.Deep.add_add,this,hu])
   subst hll;refine ⟨some a,cap,l,rfl,hl,⟨rfl,by omega,fun _=>⟨a,rfl,fun j p hj=>(hlp j p hj).2⟩⟩,by omega,fun x hx=>?_⟩;obtain ⟨i,hi2⟩:=List.getElem?_of_mem hx;exact (hlp i x hi2).1
theorem arg_row {α:Type} {P:Program} {t e:TypeId} {d:Kd α} {wf:α→Prop} (ht:P.underlying t=some (.slice e)) (hs:P.cellsOf e=d.sz) (h0:Opens P e d wf)
 {H:Type} {enc:TypeId×Value→H} {w:World} {base b0:Nat} {spare:Nat→Bool} {held:Bool} {v:Value} {dt:DataW H} {p:List MemPlace} {r:Reach} (hv:Value.okWide P w r b0 t v) (h:DataW.Trod enc P w base spare held t v dt p):
 ∃(A:Option Addr) (c:Nat) (l:List α),v= .slice A l.length c∧l.length≤c∧Kd.C d w A l.length l∧WfL wf l:=by
 obtain ⟨A,n,c,rfl⟩:=okWide_slice ht hv;obtain ⟨fuel,hf⟩:=h;obtain ⟨A',c',l,hcs,h1,h2,h3⟩:=opens_row ht hs h0 hf;simp [Value.cells] at hcs;obtain ⟨rfl,rfl,rfl⟩:=hcs;exact ⟨A,c,l,rfl,h1,h2,h3⟩
end Go.Proofs.YtdffphkbidfejaaDoor.Q
end
