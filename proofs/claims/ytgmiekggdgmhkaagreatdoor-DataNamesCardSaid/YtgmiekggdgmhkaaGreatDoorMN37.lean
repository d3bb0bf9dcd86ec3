import Derived.Test.YtgmiekggdgmhkaaGreatDoorMN14
import Derived.Test.YtgmiekggdgmhkaaGreatDoorMN19
import Derived.Test.YtgmiekggdgmhkaaGreatDoorMN30
import Derived.Test.YtgmiekggdgmhkaaGreatDoorMN33
import Derived.Test.YtgmiekggdgmhkaaGreatDoorMN34
import Derived.Test.YtgmiekggdgmhkaaGreatDoorMN36
import Derived.Test.YtgmiekggdgmhkaaGreatDoorMN5
section
namespace Go.Proofs.YtgmiekggdgmhkaaGreatDoor.Q
open Go.RowKit Go.Proofs.YtgmiekggdgmhkaaGreatDoorW.PrintWords
set_option linter.unusedVariables false
set_option linter.unusedSimpArgs false
theorem rcmp_ev (a b:List DN) (ha:InR a) (hb:InR b):Ev (fun k=>mummerref04_Compare.f k a b) (cmpF a b):=by
 unfold cmpF;refine Ev.bind (rchk_ev a ha) ?_;by_cases h:(chkF a).2=0
 · rw [if_neg (fun hh=>hh h)];refine Ev.congr (fun k=>if_pos h) (Ev.bind (rchk_ev b hb) ?_);by_cases h2:(chkF b).2=0
   · rw [if_neg (show ¬(chkF b).2≠0 from fun hh=>hh h2)];have e:mummerref04_order.f a b=some (cmpD a b):=if_pos ⟨(inR_iff a).mpr ha,(inR_iff b).mpr hb,h,h2⟩;exact Ev.congr (f:=fun _=>some (cmpD a b,0)) (fun k=>by rw [if_pos h2,e];rfl) (Ev.now _)
   · rw [if_pos h2];exact Ev.congr (f:=fun _=>some (0,(chkF b).2)) (fun k=>if_neg h2) (Ev.now _)
 · rw [if_pos h];exact Ev.congr (f:=fun _=>some (0,(chkF a).2)) (fun k=>if_neg h) (Ev.now _)
theorem wrap_nat2 (k:Nat) (h:k≤1000000):wrap64 ((k:Int)+1)=((k+1:Nat):Int):=by
 have e1: -9223372036854775808≤(k:Int)+1∧(k:Int)+1≤9223372036854775807:=by omega
 rw [wrapS _ e1.1 e1.2];omega
theorem wrap_pred (k:Nat) (h:k≤1000000):wrap64 (((k+1:Nat):Int)-1)=(k:Int):=by
 have e1: -9223372036854775808≤((k+1:Nat):Int)-1∧((k+1:Nat):Int)-1≤9223372036854775807:=by omega
 rw [wrapS _ e1.1 e1.2];omega
theorem rsym_l1 (t:List DN) (i:Nat) (hi:i<t.length) (h4:t.length≤400) (out:List ByteArray) (hS:Srt out) (hl:out.length≤400) (s:ByteArray) (hs:(rd_T40 t i).f3=s):
 ∀n:Nat,n≤out.length→(∀z∈out.drop n,cmpT s z<0)→ ∃out',Srt out'∧(∀z,z∈out'↔z=s∨z∈out)∧out'.length≤out.length+1∧ ∀r,Ev (fun k=>mummerref04_Symbols.l0 k t out' ((i+1:Nat):Int)) r→Ev (fun k=>mummerref04_Symbols.l1 k t out i n) r
 |0,hn,hd=>by
  refine ⟨out.take 0++s::out.drop 0,srt_insert hS (Nat.zero_le _) hd (fun z hz=>by simp at hz),fun z=>by simp,by simp,fun r hr=>?_⟩;refine Ev.step (fun k=>?_) hr;simp only [mummerref04_Symbols.l1];rw [if_neg (by omega),if_pos (by omega),if_pos (by omega)];simp only [Option.bind_some];rw [if_pos (by omega),if_pos (by omega),if_pos (by simp;omega),if_pos (by simp),if_pos (by simp;omega),hs,wrap_nat2 i (by omega)];rfl
 |n+1,hn,hd=>by
  have hnl:n<out.length:=by omega
  have hg:rdOf ByteArray.empty out (n:Int)=out[n]:=by simp [rdOf,List.getD_eq_getElem?_getD,hnl]
  have hw:=wrap_pred n (by omega);have hin:out[n]∈out:=List.getElem_mem _;by_cases c1:cmpT s out[n]<0
  · obtain ⟨out',a,b,c,d⟩:=rsym_l1 t i hi h4 out hS hl s hs n (by omega) (fun z hz=>by
     rw [List.drop_eq_getElem_cons hnl] at hz
     rcases List.mem_cons.mp hz with rfl|hz
     · exact c1
     · exact hd z hz)
    refine ⟨out',a,b,c,fun r hr=>Ev.step (fun k=>?_) (d r hr)⟩;simp only [mummerref04_Symbols.l1];rw [hw,if_pos (by clear hw;omega),if_pos (by clear hw;omega),if_pos (by clear hw;omega),if_pos (by clear hw;omega),if_pos (by clear hw;omega),hg,hs,if_pos ((less_T _ _).mpr c1)]
  · by_cases c2:out[n]=s
    · refine ⟨out,hS,fun z=>?_,by omega,fun r hr=>Ev.step (fun k=>?_) hr⟩
      · constructor
        · exact Or.inr
        · rintro (rfl|h)
          · rw [←c2];exact hin
          · exact h
      · simp only [mummerref04_Symbols.l1];rw [hw,if_pos (by clear hw;omega),if_pos (by clear hw;omega),if_pos (by clear hw;omega),if_pos (by clear hw;omega),if_pos (by clear hw;omega),hg,hs,if_neg (fun hh=>c1 ((less_T _ _).mp hh)),if_pos (by rw [c2]),wrap_nat2 i (by clear hw;omega)]
    · have c3:cmpT out[n] s<0:=by
       have h1:=cmpT_cmp.anti out[n] s
       have h2:cmpT s out[n]≠0:=fun e=>c2 ((cmpT_zero _ _).mp e).symm
       clear hw;omega
      refine ⟨out.take (n+1)++s::out.drop (n+1),srt_insert hS hn hd (fun z hz=>?_),fun z=>?_,by simp;clear hw;omega,fun r hr=>?_⟩
      · rw [List.take_succ_eq_append_getElem hnl] at hz
        rcases List.mem_append.mp hz with hz|hz
        · obtain ⟨q,hq,rfl⟩:=List.getElem_of_mem hz
          have hqn:q<n:=by simp at hq;clear hw;omega
          rw [List.getElem_take];exact srt_trans (List.pairwise_iff_getElem.mp hS q n (by clear hw;omega) hnl hqn) c3
        · obtain rfl:=List.mem_singleton.mp hz;exact c3
      · have e:z∈out↔z∈out.take (n+1)∨z∈out.drop (n+1):=by rw [←List.mem_append,List.take_append_drop]
        rw [e,List.mem_append,List.mem_cons];constructor
        · rintro (h|h|h)
          · exact Or.inr (Or.inl h)
          · exact Or.inl h
          · exact Or.inr (Or.inr h)
        · rintro (h|h|h)
          · exact Or.inr (Or.inl h)
          · exact Or.inl h
          · exact Or.inr (Or.inr h)
      · refine Ev.step (fun k=>?_) hr;simp only [mummerref04_Symbols.l1];rw [hw,if_pos (by clear hw;omega),if_pos (by clear hw;omega),if_pos (by clear hw;omega),if_pos (by clear hw;omega),if_pos (by clear hw;omega),hg,hs,if_neg (fun hh=>c1 ((less_T _ _).mp hh)),if_neg (fun hh=>c2 (bytes_inj hh))];simp only [Option.bind_some];rw [if_pos (by clear hw;omega),if_pos (by clear hw;omega),if_pos (by simp;clear hw;omega),if_pos (by simp;clear hw;omega),if_pos (by simp;clear hw;omega),wrap_nat2 i (by clear hw;omega)];rfl
theorem symsOf_cons (x:DN) (r:List DN):symsOf (x::r)=(if x.f0=3 then [x.f3] else [])++symsOf r:=by
 unfold symsOf;rw [List.filter_cons];by_cases h:x.f0=3
 · rw [if_pos (by simp [h]),if_pos h];rfl
 · rw [if_neg (by simp [h]),if_neg h];rfl
theorem rsym_l0 (t:List DN) (h4:t.length≤400): ∀(r pre:List DN) (out:List ByteArray),t=pre++r→Srt out→out.length≤pre.length→ ∃out',Srt out'∧(∀z,z∈out'↔z∈out∨z∈symsOf r)∧Ev (fun k=>mummerref04_Symbols.l0 k t out (pre.length:Nat)) (out',0)
 |[],pre,out,e,hS,hl=>by
  refine ⟨out,hS,fun z=>by simp [symsOf],Ev.step (f:=fun _=>some (out,0)) (fun k=>?_) (Ev.now _)⟩;simp only [mummerref04_Symbols.l0];exact if_neg (by rw [e];simp)
 |x::r,pre,out,e,hS,hl=>by
  have h1:pre.length<t.length:=by rw [e];simp
  have hx:rd_T40 t (pre.length:Nat)=x:=by rw [e];exact rd_pre pre r x
  by_cases h3:x.f0=3
  · obtain ⟨o1,a,b,c,d⟩:=rsym_l1 t pre.length h1 h4 out hS (by omega) x.f3 (by rw [hx]) out.length (Nat.le_refl _) (fun z hz=>by simp at hz);obtain ⟨o2,a2,b2,c2⟩:=rsym_l0 t h4 r (pre++[x]) o1 (by simp [e]) a (by simp;omega);refine ⟨o2,a2,fun z=>?_,Ev.step (fun k=>?_) (d _ ?_)⟩
    · rw [b2,b,symsOf_cons,if_pos h3,List.mem_append,List.mem_singleton];constructor
      · rintro ((h|h)|h)
        · exact Or.inr (Or.inl h)
        · exact Or.inl h
        · exact Or.inr (Or.inr h)
      · rintro (h|h|h)
        · exact Or.inl (Or.inr h)
        · exact Or.inl (Or.inl h)
        · exact Or.inr h
    · simp only [mummerref04_Symbols.l0];rw [if_pos (by omega),if_pos (by omega),hx,if_pos h3]
    · have e2:(pre++[x]).length=pre.length+1:=by simp
      rw [e2] at c2;exact c2
  · obtain ⟨o2,a2,b2,c2⟩:=rsym_l0 t h4 r (pre++[x]) out (by simp [e]) hS (by simp;omega);refine ⟨o2,a2,fun z=>?_,Ev.step (fun k=>?_) c2⟩
    · rw [b2,symsOf_cons,if_neg h3,List.nil_append]
    · simp only [mummerref04_Symbols.l0];rw [if_pos (by omega),if_pos (by omega),hx,if_neg h3,wrap_nat2 pre.length (by omega)];simp
theorem rsym_ev (t:List DN) (hR:InR t):Ev (fun k=>mummerref04_Symbols.f k t) (symF t):=by
 refine Ev.bind (rchk_ev t hR) ?_;by_cases h:(chkF t).2=0
 · obtain ⟨o,a,b,c⟩:=rsym_l0 t (chkF_ok t hR h).2.2.2.1 t [] [] rfl List.Pairwise.nil (Nat.le_refl _);have e:o=tidy (symsOf t):=srt_unique _ _ a (tidy_srt _) (fun z=>by rw [b,tidy_mem];simp);have e2:symF t=(tidy (symsOf t),0):=if_neg (fun hh=>hh h);rw [e2,←e];exact Ev.congr (fun k=>if_pos h) c
 · have e2:symF t=([],(chkF t).2):=if_pos h;rw [e2];exact Ev.congr (f:=fun _=>some ([],(chkF t).2)) (fun k=>if_neg h) (Ev.now _)
theorem strs_l0 (a:List ByteArray) (hl:a.length≤1000): ∀r pre:List ByteArray,a=pre++r→Ev (fun k=>mummerref04_Strings.l0 k a a (pre.length:Nat)) true
 |[],pre,e=>by
  refine Ev.step (f:=fun _=>some true) (fun k=>?_) (Ev.now _);simp only [mummerref04_Strings.l0];exact if_neg (by rw [e];simp)
 |x::r,pre,e=>by
  have h1:pre.length<a.length:=by rw [e];simp
  refine Ev.step (fun k=>?_) (strs_l0 a hl r (pre++[x]) (by simp [e]));simp only [mummerref04_Strings.l0];rw [if_pos (by omega),if_pos (by omega),if_pos (by omega),if_pos trivial,wrap_succ pre x (by omega)]
theorem strs_ev (a:List ByteArray) (hl:a.length≤1000):Ev (fun k=>mummerref04_Strings.f k a a) true:=Ev.congr (fun k=>if_pos rfl) (strs_l0 a hl a [] rfl)
theorem rplace_l0 (l:List ByteArray) (x:ByteArray) (hl:l.length≤1000): ∀r pre:List ByteArray,l=pre++r→Ev (fun k=>mummerref04_place.l0 k l x (pre.length:Nat)) (placeGo x r (pre.length:Nat))
 |[],pre,e=>by
  refine Ev.step (f:=fun _=>some (-1)) (fun k=>?_) (Ev.now _);simp only [mummerref04_place.l0];exact if_neg (by rw [e];simp)
 |y::r,pre,e=>by
  have h1:pre.length<l.length:=by rw [e];simp
  have hy:rdOf ByteArray.empty l (pre.length:Nat)=y:=by rw [e];exact rdS_pre pre r y
  have hst: ∀k,mummerref04_place.l0 (k+1) l x (pre.length:Nat)=if y.toList=x.toList then some ((pre.length:Nat):Int) else mummerref04_place.l0 k l x ((pre++[y]).length:Nat):=fun k=>by
   simp only [mummerref04_place.l0];rw [if_pos (by omega),if_pos (by omega),hy,wrap_succ pre y (by omega)]
  simp only [placeGo];by_cases h:x=y
  · rw [if_pos h];exact Ev.step (f:=fun _=>some ((pre.length:Nat):Int)) (fun k=>by rw [hst,if_pos (by rw [h])]) (Ev.now _)
  · rw [if_neg h];have:=rplace_l0 l x hl r (pre++[y]) (by simp [e])
    have e1:((pre++[y]).length:Int)=(pre.length:Int)+1:=by simp
    rw [←e1];exact Ev.step (fun k=>by rw [hst,if_neg (fun hh=>h (bytes_inj hh).symm)]) this
theorem rplace_ev (l:List ByteArray) (x:ByteArray) (hl:l.length≤1000):Ev (fun k=>mummerref04_place.f k l x) (placeI l x):=rplace_l0 l x hl l [] rfl
theorem rren_l2 (t:List DN) (fr tt:List ByteArray) (he:fr.length=tt.length) (hl:fr.length≤1000) (h4:t.length≤400): ∀d k:Nat,k+d=t.length→Ev (fun n=>mummerref04_Rename.l2 n fr tt (renK fr tt t k) k) (t.map (renN fr tt),0)
 |0,k,hk=>by
  obtain rfl:k=t.length:=by omega
  rw [renK_all];refine Ev.step (f:=fun _=>some (t.map (renN fr tt),0)) (fun n=>?_) (Ev.now _);simp only [mummerref04_Rename.l2];exact if_neg (by simp)
 |d+1,k,hk=>by
  have hkl:k<t.length:=by omega
  have ih:=rren_l2 t fr tt he hl h4 d (k+1) (by omega);have hlen:=renK_len fr tt t k;have hat:=renK_at fr tt t k hkl;have hsu:=renK_succ fr tt t k hkl;have hsm:=renK_same fr tt t k hkl;have hp:=rplace_ev fr (rd_T40 t k).f3 hl;have hlt:=placeI_lt fr (rd_T40 t k).f3
  have hrn:renN fr tt (rd_T40 t k)=if (rd_T40 t k).f0=3∧0≤placeI fr (rd_T40 t k).f3 then ⟨(rd_T40 t k).f0,(rd_T40 t k).f1,(rd_T40 t k).f2,strAt tt (placeI fr (rd_T40 t k).f3).toNat⟩ else rd_T40 t k:=rfl
  refine Ev.step (f:=fun n=>(mummerref04_place.f n fr (rd_T40 t k).f3).bind _) (fun n=>by
   simp only [mummerref04_Rename.l2]
   rw [if_pos (by rw [hlen];omega),if_pos (by omega),hat]) ?_
  refine Ev.bind hp ?_;generalize rd_T40 t k=x at *; by_cases h3:x.f0=3
  · by_cases hge:placeI fr x.f3≥0
    · rw [hsu,hrn,if_pos ⟨h3,hge⟩] at ih;refine Ev.congr (fun n=>?_) ih
      have e1:strAt tt (placeI fr x.f3).toNat=rdOf ByteArray.empty tt (placeI fr x.f3):=by unfold strAt;rw [Int.toNat_of_nonneg hge]
      rw [if_pos h3,if_pos hge,if_pos hge,if_pos (by omega),wrap_nat2 k (by omega),e1];rfl
    · rw [hsm (by rw [hrn,if_neg (fun hh=>hge hh.2)])] at ih;exact Ev.congr (fun n=>by rw [if_pos h3,if_neg hge,wrap_nat2 k (by omega)]) ih
  · rw [hsm (by rw [hrn,if_neg (fun hh=>h3 hh.1)])] at ih;exact Ev.congr (fun n=>by rw [if_neg h3,wrap_nat2 k (by omega)]) ih
theorem rren_l1 (t:List DN) (fr tt:List ByteArray) (he:fr.length=tt.length) (hl:fr.length≤1000) (h4:t.length≤400): ∀d k:Nat,k+d=fr.length→dupTo fr k=false→Ev (fun n=>mummerref04_Rename.l1 n t fr tt k) (if dupTo fr fr.length=true then ([],8) else (t.map (renN fr tt),0))
 |0,k,hk,hd=>by
  obtain rfl:k=fr.length:=by omega
  rw [hd,if_neg (by decide)];have h2:=rren_l2 t fr tt he hl h4 t.length 0 (by omega)
  have e:renK fr tt t 0=t:=by simp [renK]
  rw [e] at h2;refine Ev.step (fun n=>?_) h2;simp only [mummerref04_Rename.l1];rw [if_neg (by omega)];simp only [Option.bind_some,List.nil_append];rw [if_pos (by simp;omega)];rfl
 |d+1,k,hk,hd=>by
  have hs:=dupTo_succ fr k;rw [hd,Bool.false_or] at hs
  refine Ev.step (f:=fun n=>(mummerref04_place.f n fr (strAt fr k)).bind _) (fun n=>by
   simp only [mummerref04_Rename.l1];rw [if_pos (by omega),if_pos (by omega)]
   rfl) ?_
  refine Ev.bind (rplace_ev fr (strAt fr k) hl) ?_;by_cases h:placeI fr (strAt fr k)<k
  · rw [decide_eq_true h] at hs;rw [dupTo_mono fr (show k+1≤fr.length by omega) hs,if_pos rfl];exact Ev.congr (f:=fun _=>some ([],8)) (fun n=>if_pos h) (Ev.now _)
  · rw [decide_eq_false h] at hs;exact Ev.congr (fun n=>by rw [if_neg h,wrap_nat2 k (by omega)]) (rren_l1 t fr tt he hl h4 d (k+1) (by omega) hs)
def badTo (fr tt:List ByteArray) (k:Nat):Bool:=(List.range k).any fun i=> !symB (strAt fr i)|| !symB (strAt tt i)
theorem badTo_all (fr tt:List ByteArray) (he:fr.length=tt.length):badTo fr tt fr.length=badB (fr++tt):=by
 rw [Bool.eq_iff_iff];unfold badTo badB;rw [List.any_append,Bool.or_eq_true,List.any_eq_true,List.any_eq_true,List.any_eq_true];constructor
 · rintro ⟨i,hi,h⟩;have hi':=List.mem_range.mp hi;rw [Bool.or_eq_true] at h
   rcases h with h|h
   · exact Or.inl ⟨strAt fr i,by rw [strAt_eq fr i hi'];exact List.getElem_mem _,h⟩
   · exact Or.inr ⟨strAt tt i,by rw [strAt_eq tt i (by omega)];exact List.getElem_mem _,h⟩
 · rintro (⟨x,hx,h⟩|⟨x,hx,h⟩)
   · obtain ⟨i,hi,rfl⟩:=List.getElem_of_mem hx;exact ⟨i,List.mem_range.mpr hi,by rw [strAt_eq fr i hi,h];rfl⟩
   · obtain ⟨i,hi,rfl⟩:=List.getElem_of_mem hx;exact ⟨i,List.mem_range.mpr (by omega),by rw [strAt_eq tt i hi,h,Bool.or_true]⟩
theorem badTo_succ (fr tt:List ByteArray) (k:Nat):badTo fr tt (k+1)=(badTo fr tt k||(!symB (strAt fr k)|| !symB (strAt tt k))):=by
 unfold badTo;rw [List.range_succ,List.any_append];simp
theorem badTo_mono (fr tt:List ByteArray) {j k:Nat} (h:j≤k) (hj:badTo fr tt j=true):badTo fr tt k=true:=by
 unfold badTo at *; rw [List.any_eq_true] at *; obtain ⟨x,hx,hp⟩:=hj;exact ⟨x,List.mem_range.mpr (Nat.lt_of_lt_of_le (List.mem_range.mp hx) h),hp⟩
theorem rren_l0 (t:List DN) (fr tt:List ByteArray) (he:fr.length=tt.length) (hl:fr.length≤1000) (h4:t.length≤400): ∀d k:Nat,k+d=fr.length→badTo fr tt k=false→
 Ev (fun n=>mummerref04_Rename.l0 n t fr tt k) (if badB (fr++tt)=true then ([],6) else if dupTo fr fr.length=true then ([],8) else (t.map (renN fr tt),0))
 |0,k,hk,hb=>by
  obtain rfl:k=fr.length:=by omega
  rw [←badTo_all fr tt he,hb,if_neg (by decide)];have h1:=rren_l1 t fr tt he hl h4 fr.length 0 (by omega) rfl;refine Ev.step (fun n=>?_) h1;simp only [mummerref04_Rename.l0];rw [if_neg (by omega)];rfl
 |d+1,k,hk,hb=>by
  have hs:=badTo_succ fr tt k;rw [hb,Bool.false_or] at hs
  have e1: ∀s,mummerref04_Symbol.f s=some (symB s):=fun s=>rfl
  have hst: ∀n,mummerref04_Rename.l0 (n+1) t fr tt k=if symB (strAt fr k)=true then (if symB (strAt tt k)=true then mummerref04_Rename.l0 n t fr tt ((k+1:Nat):Int) else some ([],6)) else some ([],6):=fun n=>by
   simp only [mummerref04_Rename.l0];rw [if_pos (by omega),if_pos (by omega),e1,if_pos (by omega),e1,wrap_nat2 k (by omega)];rfl
  by_cases h1:symB (strAt fr k)=true
  · by_cases h2:symB (strAt tt k)=true
    · rw [h1,h2] at hs;exact Ev.step (fun n=>by rw [hst,if_pos h1,if_pos h2]) (rren_l0 t fr tt he hl h4 d (k+1) (by omega) hs)
    · rw [Bool.not_eq_true] at h2;rw [h2,Bool.not_false,Bool.or_true] at hs;rw [←badTo_all fr tt he,badTo_mono fr tt (show k+1≤fr.length by omega) hs,if_pos rfl];exact Ev.step (f:=fun _=>some ([],6)) (fun n=>by rw [hst,if_pos h1,h2];rfl) (Ev.now _)
  · rw [Bool.not_eq_true] at h1;rw [h1,Bool.not_false,Bool.true_or] at hs;rw [←badTo_all fr tt he,badTo_mono fr tt (show k+1≤fr.length by omega) hs,if_pos rfl];exact Ev.step (f:=fun _=>some ([],6)) (fun n=>by rw [hst,h1];rfl) (Ev.now _)
theorem rren_ev (t:List DN) (fr tt:List ByteArray) (hR:InR t) (hl:fr.length≤1000):Ev (fun k=>mummerref04_Rename.f k t fr tt) (renF t fr tt):=by
 unfold renF;refine Ev.bind (rchk_ev t hR) ?_;by_cases h:(chkF t).2=0
 · rw [if_neg (show ¬(chkF t).2≠0 from fun hh=>hh h)];refine Ev.congr (fun k=>if_pos h) ?_;by_cases he:fr.length=tt.length
   · rw [if_neg (show ¬fr.length≠tt.length from fun hh=>hh he)];exact Ev.congr (fun k=>if_pos (by omega)) (rren_l0 t fr tt he hl (chkF_ok t hR h).2.2.2.1 fr.length 0 (by omega) rfl)
   · rw [if_pos he];exact Ev.congr (f:=fun _=>some ([],2)) (fun k=>if_neg (by omega)) (Ev.now _)
 · rw [if_pos h];exact Ev.congr (f:=fun _=>some ([],(chkF t).2)) (fun k=>if_neg h) (Ev.now _)
theorem symF_len (t:List DN) (hR:InR t):(symF t).1.length≤400:=by
 by_cases h:(chkF t).2=0
 · have e2:symF t=(tidy (symsOf t),0):=if_neg (fun hh=>hh h);rw [e2];have h4:=(chkF_ok t hR h).2.2.2.1;have h5:=symsOf_len t
   have h6:(tidy (symsOf t)).length≤(symsOf t).length:=by
    unfold tidy;rw [List.length_map];have:=Lib.compact_length_le (((symsOf t).map (·.data.toList)).mergeSort fun x y=>decide (x≤y));rw [List.length_mergeSort,List.length_map] at this;exact this
   show (tidy (symsOf t)).length≤400;omega
 · have e2:symF t=([],(chkF t).2):=if_pos h;rw [e2];simp
theorem renF_len (t:List DN) (fr tt:List ByteArray) (hR:InR t):(renF t fr tt).1.length≤400:=by
 unfold renF;by_cases h:(chkF t).2=0
 · have h4:=(chkF_ok t hR h).2.2.2.1;rw [if_neg (show ¬(chkF t).2≠0 from fun hh=>hh h)]
   split
   · simp
   · split
     · simp
     · split
       · simp
       · simpa using h4
 · rw [if_pos h];simp
theorem names_j0t (a b:List DN) (fr tt:List ByteArray):Ev (fun k=>mummerlaw04_DataNames.j0 k a b true fr tt) true:=
 Ev.step (fun k=>by simp only [mummerlaw04_DataNames.j0];exact if_pos trivial) (Ev.bind shown_ev (Ev.now true))
theorem names_j0 (a b:List DN) (fr tt:List ByteArray) (ha:InR a) (hb:InR b) (hf:fr.length≤50) (hl:tt.length≤50):Ev (fun k=>mummerlaw04_DataNames.j0 k a b false fr tt) true:=by
 have e1:data_Symbols.f a=some (symF a):=if_pos ((inR_iff a).mpr ha);have e2:data_Rename.f a fr tt=some (renF a fr tt):=if_pos ⟨(inR_iff a).mpr ha,by omega,by omega⟩;refine Ev.step (fun k=>by simp only [mummerlaw04_DataNames.j0];exact if_neg (by decide)) ?_;refine Ev.bind (dcmp_ev a b ha hb) (Ev.bind (rcmp_ev a b ha hb) ?_);rw [e1];dsimp only [Option.bind_some];refine Ev.bind (rsym_ev a ha) ?_;refine Ev.congr (fun k=>by rw [if_pos rfl,if_pos rfl]) (Ev.bind (strs_ev _ (by have:=symF_len a ha;omega)) (Ev.congr (fun k=>if_pos rfl) ?_));simp only [bne_self_eq_false];refine Ev.step (f:=fun k=>(some (renF a fr tt)).bind _) (fun k=>by simp only [mummerlaw04_DataNames.j1];rw [if_neg (by decide),e2]) ?_;dsimp only [Option.bind_some];exact Ev.bind (rren_ev a fr tt ha (by omega)) (Ev.bind (same_ev _ (by have:=renF_len a fr tt ha;omega)) (Ev.congr (fun k=>by rw [if_pos rfl,if_pos rfl]) (Ev.bind shown_ev (Ev.now true))))
theorem names_pure (a b:List DN) (fr tt:List ByteArray) (wa:WfT a) (wb:WfT b) (wn:WfL WfS fr∧WfL WfS tt):Ev (fun k=>mummerlaw04_DataNames.f k a b fr tt) true:=by
 refine Ev.bind (far_ev a) ?_
 cases farB a with
 |true=>exact Ev.congr (fun k=>if_pos rfl) (names_j0t a b fr tt)
 |false=>
  refine Ev.congr (fun k=>if_neg (by decide)) (Ev.bind (far_ev b) ?_)
  cases farB b with
  |true=>exact Ev.congr (fun k=>if_pos rfl) (names_j0t a b fr tt)
  |false=>
   refine Ev.congr (fun k=>if_neg (by decide)) (Ev.bind (many_ev fr) ?_)
   cases h1:manyB fr with
   |true=>exact Ev.congr (fun k=>if_pos rfl) (names_j0t a b fr tt)
   |false=>
    refine Ev.congr (fun k=>if_neg (by decide)) (Ev.bind (many_ev tt) ?_)
    cases h2:manyB tt with
    |true=>exact names_j0t a b fr tt
    |false=>exact names_j0 a b fr tt (inR_of wa) (inR_of wb) (manyB_len h1) (manyB_len h2)
end Go.Proofs.YtgmiekggdgmhkaaGreatDoor.Q
end
