import Derived.Test.YtgmiekggdgmhkaaGreatDoorMN16
import Derived.Test.YtgmiekggdgmhkaaGreatDoorMN26
import Derived.Test.YtgmiekggdgmhkaaGreatDoorMN30
import Derived.Test.YtgmiekggdgmhkaaGreatDoorMN5
section
namespace Go.Proofs.YtgmiekggdgmhkaaGreatDoor.Q
open Go.RowKit Go.Proofs.YtgmiekggdgmhkaaGreatDoorW.PrintWords
set_option linter.unusedVariables false
set_option linter.unusedSimpArgs false
theorem i64_max {n:Int} (h:WfI .i64 n): -9223372036854775808≤n∧n≤9223372036854775807:=by simpa [WfI,Lit.wf,IntKind.min,IntKind.max,IntKind.signed,IntKind.bits] using h
abbrev DN:=S40
abbrev WfT (t:List DN):Prop:=WfL Wf40 t
theorem inR_of {t:List DN} (h:WfT t):InR t:=fun x hx=>(i64_max (h.2 x hx).2.1).2
def farB (t:List DN):Bool:=decide (410<t.length)||t.any fun x=>decide (100<x.f3.size)
theorem far_l0 (t:List DN) (ht:t.length≤410): ∀r pre:List DN,t=pre++r→Ev (fun k=>mummerlaw04_Far.l0 k t (pre.length:Int)) (r.any fun x=>decide (100<x.f3.size))
 |[],pre,e=>Ev.step (f:=fun _=>some false) (fun k=>by
  simp only [mummerlaw04_Far.l0]
  rw [if_neg (by rw [e];simp)]) (Ev.now _)
 |x::r,pre,e=>by
  have hl:pre.length<t.length:=by rw [e];simp
  have hx:rd_T40 t pre.length=x:=by rw [e];exact rd_pre pre r x
  have hst: ∀k,mummerlaw04_Far.l0 (k+1) t (pre.length:Int)=if (x.f3.size:Int)>100 then some true else mummerlaw04_Far.l0 k t ((pre++[x]).length:Nat):=fun k=>by
   simp only [mummerlaw04_Far.l0];rw [if_pos (by omega),if_pos (by omega),hx,wrapS _ (by omega) (by omega)];rw [List.length_append];rfl
  by_cases h:(x.f3.size:Int)>100
  · have h':100<x.f3.size:=by omega
    simp only [List.any_cons,decide_eq_true h',Bool.true_or];exact Ev.step (f:=fun _=>some true) (fun k=>by rw [hst,if_pos h]) (Ev.now _)
  · have h': ¬100<x.f3.size:=by omega
    simp only [List.any_cons,decide_eq_false h',Bool.false_or];exact Ev.step (fun k=>by rw [hst,if_neg h]) (far_l0 t ht r (pre++[x]) (by simp [e]))
theorem far_ev (t:List DN):Ev (fun k=>mummerlaw04_Far.f k t) (farB t):=by
 unfold farB;by_cases h:410<t.length
 · rw [decide_eq_true h,Bool.true_or];exact Ev.congr (f:=fun _=>some true) (fun k=>if_pos (by omega)) (Ev.now _)
 · rw [decide_eq_false h,Bool.false_or];exact Ev.congr (fun k=>if_neg (by omega)) (far_l0 t (by omega) t [] rfl)
theorem rdT_kids (t:List DN) (j:Nat) (h:j<t.length):(rd_T40 t j).f1=rd (kidsOf t) j:=by
 simp [rd_T40,rd,kidsOf,List.getD_eq_getElem?_getD,h]
theorem rend_l (t:List DN) (h2:t.length≤2000) (hnn: ∀x∈t,0≤x.f1) (hR:InR t) (i:Nat) (hi:i<t.length) (ih: ∀j,i<j→ ∀m,eat ((kidsOf t).drop j) 1=some m→Ev (fun k=>mummerref04_end.f k t j) ((j+m:Nat):Int)):
 ∀(c next m:Nat),i<next→(c:Int)≤rd (kidsOf t) i→eat ((kidsOf t).drop next) c=some m→Ev (fun k=>mummerref04_end.l0 k t i next (rd (kidsOf t) i-c)) ((next+m:Nat):Int)
 |0,next,m,h1,hc,hm=>by
  rw [eat_zero] at hm;obtain rfl:=Option.some.inj hm;refine Ev.step (f:=fun _=>some _) (fun k=>?_) (Ev.now _);simp only [mummerref04_end.l0];rw [if_pos (by omega),if_pos (by omega),rdT_kids t i hi,if_neg (by omega)];rfl
 |c+1,next,m,h1,hc,hm=>by
  have hx0:0≤rd (kidsOf t) i:=by rw [←rdT_kids t i hi];simp [rd_T40,List.getD_eq_getElem?_getD,hi];exact hnn _ (List.getElem_mem _)
  have hx1:rd (kidsOf t) i≤9223372036854775807:=by rw [←rdT_kids t i hi];simp [rd_T40,List.getD_eq_getElem?_getD,hi];exact hR _ (List.getElem_mem _)
  have hst: ∀k,mummerref04_end.l0 (k+1) t i next (rd (kidsOf t) i-(c+1:Nat))=(mummerref04_end.f k t next).bind fun b=>mummerref04_end.l0 k t i b (rd (kidsOf t) i-c):=fun k=>by
   simp only [mummerref04_end.l0];rw [if_pos (by omega),if_pos (by omega),rdT_kids t i hi,if_pos (by omega),wrapS _ (by omega) (by omega)];rw [show rd (kidsOf t) i-((c+1:Nat):Int)+1=rd (kidsOf t) i-c by omega]
  have hadd:eat ((kidsOf t).drop next) (c+1)=(eat ((kidsOf t).drop next) 1).bind fun m=>(eat (((kidsOf t).drop next).drop m) c).map (m+ ·):=by
   rw [show c+1=1+c by omega];exact eat_add _ 1 c
  rw [hadd] at hm
  cases he:eat ((kidsOf t).drop next) 1 with
  |none=>rw [he] at hm;cases hm
  |some m1=>
   rw [he] at hm;simp only [Option.bind_some,List.drop_drop] at hm;obtain ⟨m2,hm2,rfl⟩:=Option.map_eq_some_iff.mp hm;have:=rend_l t h2 hnn hR i hi ih c (next+m1) m2 (by omega) (by omega) hm2;rw [Nat.add_assoc] at this;exact Ev.step hst (Ev.bind (ih next h1 m1 he) this)
theorem rend_all (t:List DN) (h2:t.length≤2000) (hnn: ∀x∈t,0≤x.f1) (hR:InR t): ∀d i,t.length-i≤d→ ∀m,eat ((kidsOf t).drop i) 1=some m→Ev (fun k=>mummerref04_end.f k t i) ((i+m:Nat):Int):=by
 intro d
 induction d with
 |zero=>
  intro i hd m hm;have e:(kidsOf t).drop i=[]:=List.drop_eq_nil_of_le (by rw [kidsOf_len];omega);rw [e] at hm;cases hm
 |succ d ih=>
  intro i hd m hm;by_cases hlt:i<t.length
  · rw [eat_one (kidsOf t) i (by rw [kidsOf_len];exact hlt)] at hm;obtain ⟨m',hm',rfl⟩:=Option.map_eq_some_iff.mp hm
    have hx0:0≤rd (kidsOf t) i:=by rw [←rdT_kids t i hlt];simp [rd_T40,List.getD_eq_getElem?_getD,hlt];exact hnn _ (List.getElem_mem _)
    have hL:=rend_l t h2 hnn hR i hlt (fun j hj m hm=>ih j (by omega) m hm) (rd (kidsOf t) i).toNat (i+1) m' (by omega) (by omega) hm';rw [show i+(m'+1)=i+1+m' by omega];refine Ev.step (fun k=>?_) hL;simp only [mummerref04_end.f];rw [wrapS _ (by omega) (by omega),show rd (kidsOf t) i-((rd (kidsOf t) i).toNat:Int)=0 by omega];rfl
  · have e:(kidsOf t).drop i=[]:=List.drop_eq_nil_of_le (by rw [kidsOf_len];omega);rw [e] at hm;cases hm
theorem endAt_bd (t:List DN) (hR:InR t) (h:(chkF t).2=0) (i:Nat) (hi:i<t.length):i<endAt (kidsOf t) i∧endAt (kidsOf t) i≤t.length:=by
 obtain ⟨hall,hnn,hne,h400,_⟩:=chkF_ok t hR h;obtain ⟨m,hm,h1,h2⟩:=eat_at (kidsOf t) (by rw [kidsOf_len];exact hall) i (by rw [kidsOf_len];exact hi);rw [endAt_some hm];rw [kidsOf_len] at h2;omega
theorem same_l0 (a:List DN) (hl:a.length≤9223372036854775807): ∀r pre:List DN,a=pre++r→Ev (fun k=>mummerref04_Same.l0 k a a (pre.length:Int)) true
 |[],pre,e=>Ev.step (f:=fun _=>some true) (fun k=>by
  simp only [mummerref04_Same.l0]
  rw [if_neg (by rw [e];simp)]) (Ev.now _)
 |x::r,pre,e=>by
  have h1:pre.length<a.length:=by rw [e];simp
  refine Ev.step (fun k=>?_) (same_l0 a hl r (pre++[x]) (by simp [e]));simp only [mummerref04_Same.l0];rw [if_pos (by omega),if_pos (by omega),if_pos (by omega),if_neg (by simp),wrapS _ (by omega) (by omega)];rw [List.length_append];rfl
theorem same_ev (a:List DN) (hl:a.length≤9223372036854775807):Ev (fun k=>mummerref04_Same.f k a a) true:=
 Ev.congr (fun k=>if_pos rfl) (same_l0 a hl a [] rfl)
theorem ofF_ok {t:List DN} (h:(chkF t).2=0):ofF t=(t,endsAll (kidsOf t),0):=if_pos h
theorem endsAll_len (t:List DN):(endsAll (kidsOf t)).length=t.length:=by simp [endsAll,kidsOf]
theorem whole_of {t:List DN} (hR:InR t) (h:(chkF t).2=0):Whole (kidsOf t):=by
 have:=(chkF_ok t hR h).1;unfold Whole;rw [this,kidsOf_len]
theorem whole_of' {t:List DN} (hR:InR t) (h:(chkF t).2=0):Whole (kidsOf t):=by
 have:=(chkF_ok t hR h).1;unfold Whole;rw [this,kidsOf_len]
structure Dat (t:List DN):Prop where
 hR:InR t
 chk:(chkF t).2=0
 whole:Whole (kidsOf t)
 pos:0<t.length
 l400:t.length≤400
 nn: ∀x∈t,0≤x.f1
theorem Dat.mk' {t:List DN} (hR:InR t) (h:(chkF t).2=0):Dat t:=by
 obtain ⟨a,b,c,d,_⟩:=chkF_ok t hR h;exact ⟨hR,h,whole_of' hR h,List.length_pos_iff.mpr c,d,b⟩
theorem Dat.lt {t:List DN} (h:Dat t) {i:Nat} (hi:i<t.length):i<(kidsOf t).length:=by rw [kidsOf_len];exact hi
theorem Dat.kidN {t:List DN} (h:Dat t) {i:Nat} (hi:i<t.length):(rd_T40 t i).f1=(kidN (kidsOf t) i:Nat):=by
 have h0:0≤rd (kidsOf t) i:=by rw [←rdT_kids t i hi];simp [rd_T40,List.getD_eq_getElem?_getD,hi];exact h.nn _ (List.getElem_mem _)
 rw [rdT_kids t i hi];unfold Q.kidN;omega
theorem Dat.kids_le {t:List DN} (h:Dat t) {i:Nat} (hi:i<t.length):Q.kidN (kidsOf t) i≤400:=by
 obtain ⟨m,hm,_,h2⟩:=kid_eat h.whole (h.lt hi);have:=eat_ge _ _ _ hm;rw [kidsOf_len] at h2;have:=h.l400;omega
end Go.Proofs.YtgmiekggdgmhkaaGreatDoor.Q
end
