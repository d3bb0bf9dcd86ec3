import Derived.Test.YtdffphkbidfejaaDoorMJ24
import Derived.Test.YtdffphkbidfejaaDoorMJ26
section
namespace Go.Proofs.YtdffphkbidfejaaDoor.Q
open Go.RowKit Go.Proofs.YtdffphkbidfejaaDoorW.PrintWords
set_option linter.unusedSimpArgs false
set_option linter.unusedVariables false
theorem Bytes.right {a b:List Int} (h:Bytes (a++b)):Bytes b:=fun x hx=>h x (List.mem_append.2 (Or.inr hx))
theorem cls_ext10 {r m:List Int} (hb:Bytes (r++10::m)) (i:Nat) (hi:i<r.length):clsR (r++10::m) i=clsR r i:=by
 have hd:(r++10::m).drop i=r.drop i++10::m:=List.drop_append_of_le_length (by omega);unfold clsR;rw [hd]
 cases hc:decR (r.drop i) with
 |none=>
  have hne:r.drop i≠[]:=fun e=>by have:=congrArg List.length e;rw [List.length_drop] at this;simp at this;omega
  have hb2:Bytes (r.drop i++10::m):=by rw [←hd];exact hb.drop i
  rw [decR_none_before hb2 hne (by decide) hc]
 |some p=>
  obtain ⟨r',n⟩:=p;rw [decR_app hc]
theorem cls10 (m:List Int):(clsR (10::m) 0).1=1:=by rw [cls_byte 10 m (by omega)];rfl
theorem while_ext10 {r m:List Int} (hb:Bytes (r++10::m)): ∀(k i:Nat),r.length-i≤k→i≤r.length→whileR (r++10::m) wordP i=whileR r wordP i:=by
 intro k;have stop:whileR (r++10::m) wordP r.length=r.length:=whileR_stop _ _ _ (by rw [cls_at_end,cls10];rfl)
 induction k with
 |zero=>
  intro i h hi
  obtain rfl:i=r.length:=by omega
  rw [stop,whileR_end _ _ _ (by omega)]
 |succ k ih=>
  intro i h hi;by_cases hlt:i<r.length
  · have e:=cls_ext10 hb i hlt
    cases hc:wordP (clsR r i).1 with
    |false=>rw [whileR_stop r wordP i hc,whileR_stop _ wordP i (by rw [e];exact hc)]
    |true=>
     have hs:=clsR_step r i hlt;rw [whileR_go r wordP i hlt hc,whileR_go _ wordP i (by rw [List.length_append];omega) (by rw [e];exact hc),e];exact ih _ (by omega) hs.2
  · obtain rfl:i=r.length:=by omega
    rw [stop,whileR_end _ _ _ (by omega)]
theorem end_ext10 {r m:List Int} (hb:Bytes (r++10::m)) (hr:0<r.length):endR (r++10::m) 0 (clsR r 0).1 (clsR r 0).2=endR r 0 (clsR r 0).1 (clsR r 0).2:=by
 have hs:=clsR_step r 0 hr;unfold endR;by_cases c5:(clsR r 0).1=5
 · rw [if_pos c5,if_pos c5,while_ext10 hb r.length _ (by omega) hs.2];by_cases hd:(clsR r 0).2<r.length
   · rw [rd_app0 r (10::m) hr _ hd];by_cases h59:rd r ((clsR r 0).2:Nat)=59
     · rw [if_pos ⟨by rw [List.length_append];omega,h59⟩,if_pos ⟨hd,h59⟩]
     · rw [if_neg (fun h=>h59 h.2),if_neg (fun h=>h59 h.2)]
   · have he:(clsR r 0).2=r.length:=by omega
     have h10:rd (r++10::m) ((clsR r 0).2:Nat)=10:=by rw [he];unfold rd;simp
     rw [if_neg (fun h=>by rw [h10] at h;exact absurd h.2 (by decide)),if_neg (fun h=>hd h.1)]
 · rw [if_neg c5,if_neg c5,while_ext10 hb r.length 0 (by omega) (by omega)]
theorem kind_ext10 {r m:List Int} (hb:Bytes (r++10::m)) (hr:0<r.length):kindR (r++10::m) 0 (clsR r 0).1 (clsR r 0).2=kindR r 0 (clsR r 0).1 (clsR r 0).2:=by
 have he:=end_ext10 hb hr;have hin:=endR_in r hr;have hrd:rd (r++10::m) ((0:Nat):Int)=rd r ((0:Nat):Int):=rd_app0 r (10::m) hr 0 hr;unfold kindR;rw [he,hrd,sub_take,sub_take,List.take_append_of_le_length hin.2]
theorem NW.ext10 {p m:List Int} (hb:Bytes (p++10::m)) (h:NW p):NW (p++10::m):=by
 unfold NW at h ⊢; by_cases hp:0<p.length
 · rw [cls_ext10 hb 0 hp];exact h
 · obtain rfl:p=[]:=List.eq_nil_of_length_eq_zero (by omega);rw [List.nil_append,cls10];rfl
theorem okI_ext10: ∀(xs:List Item) (f m:List Int),Bytes (glue xs (f++10::m))→okI xs f→okI xs (f++10::m)
 |[],_,_,_,_=>trivial
 |x::xs,f,m,hb,h=>by
  have hb':Bytes (x.g++(x.u++glue xs (f++10::m))):=hb;have hb2:=hb'.right.right;refine ⟨h.1,h.2.1,fun hw=>?_,okI_ext10 xs f m hb2 h.2.2.2⟩;rw [glue_app] at hb2 ⊢; exact (h.2.2.1 hw).ext10 hb2
theorem TailBad.ext10 {g r m:List Int} {z:Nat} {e:Int} (hb:Bytes (r++10::m)) (h:TailBad g r z e):TailBad g (r++10::m) z e:=by
 have hc:clsR (r++10::m) 0=clsR r 0:=cls_ext10 hb 0 h.ne;refine ⟨?_,by rw [List.length_append];have:=h.ne;omega,by rw [hc];exact h.c1,by rw [hc];exact h.c6,by rw [hc,kind_ext10 hb h.ne];exact h.err,h.e0,by rw [hc,end_ext10 hb h.ne];exact h.fin⟩
 rcases h.gap with hg|⟨hg,hr⟩
 · exact Or.inl hg
 · exact Or.inr ⟨hg,decR_none_before hb (fun e=>by have:=h.ne;rw [e] at this;simp at this) (by decide) hr⟩
def prep (p:List Int):List Item→List Item
 |[]=>[]
 |y::ys=>⟨p++y.g,y.u,y.k,y.n,y.s⟩::ys
def ptail (p:List Int) (ys:List Item) (t:List Int):List Int:=match ys with|[]=>p++t|_::_=>t
theorem glue_prep (p:List Int): ∀(ys:List Item) (t r:List Int),glue (prep p ys) (ptail p ys t++r)=p++glue ys (t++r)
 |[],t,r=>by show (p++t)++r=p++(t++r);simp
 |y::ys,t,r=>by show (p++y.g)++(y.u++glue ys (t++r))=p++(y.g++(y.u++glue ys (t++r)));simp
theorem okI_prep {p:List Int} (hp:CG p): ∀(ys:List Item) (t r:List Int),okI ys (t++r)→okI (prep p ys) (ptail p ys t++r)
 |[],_,_,_=>trivial
 |y::ys,t,r,h=>⟨hp.app h.1,h.2.1,h.2.2.1,h.2.2.2⟩
theorem tokS_prep (p:List Int) (o:Nat): ∀(ys:List Item),tokS o (prep p ys)=tokS (o+p.length) ys
 |[]=>rfl
 |y::ys=>by
  show (_::_:List _)=_::_;rw [show (p++y.g).length=p.length+y.g.length from List.length_append,←Nat.add_assoc]
theorem OG.app {p g:List Int} (hp:CG p) (h:OG g):OG (p++g):=by
 obtain ⟨a,c,ha,hc,rfl⟩:=h;exact ⟨p++a,c,hp.app ha,hc,by simp⟩
theorem TailOK.prep {p:List Int} (hp:CG p) (ys:List Item) {t:List Int} (h:TailOK t):TailOK (ptail p ys t):=by
 cases ys with
 |nil=>rcases h with h|h;exact Or.inl (hp.app h);exact Or.inr (h.app hp)
 |cons y ys=>exact h
theorem TailBad.prep {p:List Int} (hp:CG p) (ys:List Item) {g r:List Int} {z:Nat} {e:Int} (h:TailBad g r z e):TailBad (ptail p ys g) r z e:=by
 cases ys with
 |nil=>
  refine ⟨?_,h.ne,h.c1,h.c6,h.err,h.e0,h.fin⟩
  rcases h.gap with h1|⟨h1,h2⟩
  · exact Or.inl (hp.app h1)
  · exact Or.inr ⟨h1.app hp,h2⟩
 |cons y ys=>exact h
def lenG (xs:List Item):Nat:=(glue xs []).length
theorem glue_len (xs:List Item) (r:List Int):(glue xs r).length=lenG xs+r.length:=by
 have:=glue_app xs [] r;rw [List.nil_append] at this;rw [this,List.length_append];rfl
theorem glue_cat: ∀(xs ys:List Item) (r:List Int),glue (xs++ys) r=glue xs (glue ys r)
 |[],_,_=>rfl
 |x::xs,ys,r=>by
  show x.g++(x.u++glue (xs++ys) r)=_;rw [glue_cat xs ys r];rfl
theorem okI_cat: ∀(xs ys:List Item) (r:List Int),okI xs (glue ys r)→okI ys r→okI (xs++ys) r
 |[],_,_,_,h=>h
 |x::xs,ys,r,h,h2=>⟨h.1,h.2.1,fun hw=>by have:=h.2.2.1 hw;rw [←glue_cat] at this;exact this,okI_cat xs ys r h.2.2.2 h2⟩
theorem tokS_cat: ∀(xs ys:List Item) (o:Nat),tokS o (xs++ys)=tokS o xs++tokS (o+lenG xs) ys
 |[],ys,o=>rfl
 |x::xs,ys,o=>by
  have e:lenG (x::xs)=x.g.length+(x.u.length+lenG xs):=by
   show (x.g++(x.u++glue xs [])).length=_;rw [List.length_append,List.length_append];rfl
  show _::tokS _ (xs++ys)=_::(tokS _ xs++_)
  rw [tokS_cat xs ys,e]
  congr 3
  omega
def shT (m:Int) (t:S36):S36:=⟨t.f0,⟨t.f1.f0+m,t.f1.f1+m⟩,t.f2,t.f3⟩
theorem tokS_shift (m:Nat): ∀(xs:List Item) (o:Nat),tokS (o+m) xs=(tokS o xs).map (shT m)
 |[],_=>rfl
 |x::xs,o=>by
  have ih:=tokS_shift m xs (o+x.g.length+x.u.length)
  have e:o+m+x.g.length+x.u.length=o+x.g.length+x.u.length+m:=by omega
  show (_::tokS (o+m+x.g.length+x.u.length) xs)=_::_;rw [e,ih];refine congrArg (· ::_) ?_
  show (⟨x.k,⟨((o+m+x.g.length:Nat):Int),((o+x.g.length+x.u.length+m:Nat):Int)⟩,x.n,x.s⟩:S36)=⟨x.k,⟨((o+x.g.length:Nat):Int)+(m:Int),((o+x.g.length+x.u.length:Nat):Int)+(m:Int)⟩,x.n,x.s⟩
  have e1:((o+m+x.g.length:Nat):Int)=((o+x.g.length:Nat):Int)+(m:Int):=by omega
  have e2:((o+x.g.length+x.u.length+m:Nat):Int)=((o+x.g.length+x.u.length:Nat):Int)+(m:Int):=by omega
  rw [e1,e2]
theorem tokS_in: ∀(xs:List Item) (o:Nat),∀t∈tokS o xs,0≤t.f1.f0∧t.f1.f0≤(o+lenG xs:Nat)∧0≤t.f1.f1∧t.f1.f1≤(o+lenG xs:Nat)
 |[],_,t,h=>by cases h
 |x::xs,o,t,h=>by
  have e:lenG (x::xs)=x.g.length+(x.u.length+lenG xs):=by
   show (x.g++(x.u++glue xs [])).length=_;rw [List.length_append,List.length_append];rfl
  rcases List.mem_cons.1 h with rfl|h
  · simp only [];omega
  · have:=tokS_in xs _ t h;omega
theorem sameL_refl: ∀(l:List S36) (b:Bool),sameL l l b=true
 |[],_=>rfl
 |x::l,b=>by
  rw [sameL,sameL_refl l b];unfold tokE;simp
theorem wr_ok {x:Int} (h0:0≤x) (h1:x≤1000000):wrap64 x=x:=by unfold wrap64;omega
theorem joins_loop (P:List S36) (N:List S36) (m:Nat) (hm:m≤1000) (hlen:N.length+P.length≤100000) (L:List S36) (hL:L.length≤1000) (hb: ∀t∈L,0≤t.f1.f0∧t.f1.f0≤1000∧0≤t.f1.f1∧t.f1.f1≤1000) (hN:N=P++L.map (shT m)) (K:Nat) (hA: ∀k,K≤k→((mummerlaw05_awake.f k).bind fun t=>some t)=some true):
 ∀(d i k:Nat),L.length-i=d→i≤L.length→K+d<k→mummerlaw05_LexerJoins.l0 k P ((L.take i).map (shT m)++L.drop i) N 0 (m:Int) (i:Int)=some true:=by
 intro d
 induction d with
 |zero=>
  intro i k hd hi hk
  obtain ⟨k,rfl⟩: ∃j,k=j+1:=⟨k-1,by omega⟩
  obtain rfl:i=L.length:=by omega
  have e:(L.take L.length).map (shT m)++L.drop L.length=L.map (shT m):=by rw [List.take_length,List.drop_length,List.append_nil]
  rw [e];simp only [mummerlaw05_LexerJoins.l0];rw [if_neg (by rw [List.length_map];omega)];simp only [if_true,Option.bind_some,List.nil_append,List.length_nil,List.length_append,List.length_map,Nat.zero_add];rw [if_pos (by omega),if_pos (by omega),←hN];unfold mummerref05_Same.f;rw [if_pos (by rw [hN,List.length_append,List.length_map];omega),sameL_refl];simp only [Option.bind_some,if_true];exact hA k (by omega)
 |succ d ih=>
  intro i k hd hi hk
  obtain ⟨k,rfl⟩: ∃j,k=j+1:=⟨k-1,by omega⟩
  have hlt:i<L.length:=by omega
  have hll:((L.take i).map (shT m)++L.drop i).length=L.length:=by rw [List.length_append,List.length_map,List.length_take,List.length_drop];omega
  have htl:((L.take i).map (shT m)).length=i:=by rw [List.length_map,List.length_take];omega
  have hrd:rd_T36 ((L.take i).map (shT m)++L.drop i) (i:Int)=L[i]:=by
   unfold rd_T36;rw [Int.toNat_natCast,List.getD_eq_getElem?_getD,List.getElem?_append_right (by omega),htl,Nat.sub_self,List.getElem?_drop,Nat.add_zero,List.getElem?_eq_getElem hlt];rfl
  have hx:=hb L[i] (List.getElem_mem hlt)
  have hset:((L.take i).map (shT m)++L.drop i).set i (shT m L[i])=(L.take (i+1)).map (shT m)++L.drop (i+1):=by
   rw [List.set_append_right _ _ (by omega),htl,Nat.sub_self,List.drop_eq_getElem_cons hlt,List.set_cons_zero,List.take_succ_eq_append_getElem hlt,List.map_append,List.append_assoc];rfl
  simp only [mummerlaw05_LexerJoins.l0];rw [if_pos (by rw [hll];omega),if_pos (by omega),hrd,wr_ok (by omega) (by omega),wr_ok (by omega) (by omega),wr_ok (x:=(i:Int)+1) (by omega) (by omega),Int.toNat_natCast];have e:(⟨L[i].f0,⟨L[i].f1.f0+(m:Int),L[i].f1.f1+(m:Int)⟩,L[i].f2,L[i].f3⟩:S36)=shT m L[i]:=rfl;rw [e,hset];have:=ih (i+1) k (by omega) (by omega) (by omega);exact this
theorem joins_pure (a b:List Int) (wa:WfL (WfI .u8) a) (wb:WfL (WfI .u8) b):Ev (fun k=>mummerlaw05_LexerJoins.f k a b) true:=by
 obtain ⟨K,hK⟩:=awake_ev;have hba:=bytes_of_wf wa;have hbb:=bytes_of_wf wb;refine Ev.of (fun k=>mummerlaw05_LexerJoins.mono a b k) (k:=K+20002) ?_
 have hA: ∀k,K≤k→((mummerlaw05_awake.f k).bind fun t=>some t)=some true:=fun k hk=>by rw [show mummerlaw05_awake.f k=some true from hK k hk];rfl
 have big:mummerlaw05_LexerJoins.j0 (K+20002) a b true=some true:=by
  simp only [mummerlaw05_LexerJoins.j0,if_true];exact hA _ (by omega)
 show mummerlaw05_LexerJoins.f (K+20002) a b=some true;unfold mummerlaw05_LexerJoins.f;by_cases h3:(a.length:Int)>300
 · rw [if_pos h3];exact big
 · rw [if_neg h3];by_cases h4:(b.length:Int)>300
   · rw [decide_eq_true h4];exact big
   · rw [decide_eq_false h4]
     have hw1:wrap64 ((a.length:Int)+1)=((a.length+1:Nat):Int):=by rw [wr_ok (by omega) (by omega)];omega
     have hbw:Bytes (a++10::b):=fun x hx=>by
       rcases List.mem_append.1 hx with h|h
       · exact hba x h
       · rcases List.mem_cons.1 h with rfl|h
         · decide
         · exact hbb x h
     have hlw:(a++10::b).length=a.length+1+b.length:=by rw [List.length_append,List.length_cons];omega
     have ecat:([]++a++[10]++b:List Int)=a++10::b:=by simp
     simp only [mummerlaw05_LexerJoins.j0];rw [if_neg (by decide),hw1];simp only [Option.bind_some,ecat]
     rcases lex_cut a.length a (Nat.le_refl _) hba (by omega) with ⟨xs,f,rfl,hI,hf⟩|⟨xs,g,r,z,e,rfl,hI,hf⟩
     · have hp:CG (f++[10]):=by
         rcases hf with h|h
         · exact h.app (.space (Or.inr (Or.inl rfl)) .nil)
         · exact h.close
       have hla:=glue_len xs f;rw [Lex_ok hba (by omega) hI hf (by omega)]
       rcases lex_cut b.length b (Nat.le_refl _) hbb (by omega) with ⟨ys,t,rfl,hJ,ht⟩|⟨ys,g,r,z,e,rfl,hJ,ht⟩
       · have ew:glue xs f++10::glue ys t=glue (xs++prep (f++[10]) ys) (ptail (f++[10]) ys t):=by
          have:=glue_prep (f++[10]) ys t [];rw [List.append_nil,List.append_nil] at this;rw [glue_cat,this,←glue_app];simp
         have hIx:okI (xs++prep (f++[10]) ys) (ptail (f++[10]) ys t):=by
          have h1:=okI_ext10 xs f (glue ys t) (by rw [glue_app];exact hbw) hI;have h2:=okI_prep hp ys t [] (by rw [List.append_nil];exact hJ);have h3:=glue_prep (f++[10]) ys t [];rw [List.append_nil,List.append_nil] at h3;rw [List.append_nil] at h2;refine okI_cat _ _ _ ?_ h2;rw [h3]
          simpa using h1
         have hlb:=items_le ys t hJ;have hla2:=items_le xs f hI;rw [Lex_ok hbb (by omega) hJ ht (by omega)];rw [ew] at hbw hlw ⊢; rw [Lex_ok hbw (by omega) hIx (ht.prep hp ys) (by omega)];simp only [if_true,Option.bind_some,List.length_nil,List.length_append,List.length_singleton,Nat.zero_add];rw [if_pos (by omega),if_pos (by omega),if_pos (by omega)]
         have htl: ∀(zs:List Item) (o:Nat),(tokS o zs).length=zs.length:=by
          intro zs
          induction zs with
          |nil=>intro o;rfl
          |cons z zs ih=>intro o;show _+1=_+1;rw [ih]
         have:=joins_loop (tokS 0 xs) (tokS 0 (xs++prep (f++[10]) ys)) ((glue xs f).length+1) (by omega) ?_ (tokS 0 ys) (by rw [htl];omega) ?_ ?_ K hA (tokS 0 ys).length 0 (K+20001) (by omega) (by omega) (by rw [htl];omega)
         · exact this
         · rw [htl,htl,List.length_append]
           have:(prep (f++[10]) ys).length=ys.length:=by cases ys<;>rfl
           omega
         · intro q hq;have:=tokS_in ys 0 q hq;have hl2:=glue_len ys t;omega
         · rw [tokS_cat,tokS_prep,←tokS_shift]
           congr 2
           rw [hla,List.length_append,List.length_singleton];omega
       · have ew:glue xs f++10::glue ys (g++r)=glue (xs++prep (f++[10]) ys) (ptail (f++[10]) ys g++r):=by
          rw [glue_cat,glue_prep,←glue_app];simp
         have hIx:okI (xs++prep (f++[10]) ys) (ptail (f++[10]) ys g++r):=by
          have h1:=okI_ext10 xs f (glue ys (g++r)) (by rw [glue_app];exact hbw) hI;refine okI_cat _ _ _ ?_ (okI_prep hp ys g r hJ);rw [glue_prep]
          simpa using h1
         have hlb:=items_le ys _ hJ;have hla2:=items_le xs f hI
         have hgl:(glue (xs++prep (f++[10]) ys) (ptail (f++[10]) ys g)).length=(glue xs f).length+1+(glue ys g).length:=by
          have h3:=glue_prep (f++[10]) ys g [];rw [List.append_nil,List.append_nil] at h3;rw [glue_cat,h3,glue_len xs,hla,List.length_append,List.length_append,List.length_singleton];omega
         have hgb:=glue_app ys g r;have hgbl:=congrArg List.length hgb;rw [List.length_append] at hgbl;rw [Lex_bad hbb (by omega) hJ ht (by omega)];rw [ew] at hbw hlw ⊢; rw [Lex_bad hbw (by omega) hIx (ht.prep hp ys) (by omega),hgl];have hz:=ht.z_in;simp only [if_true,Option.bind_some,List.length_nil,List.length_append,List.length_singleton,Nat.zero_add];rw [if_pos (by omega),if_pos (by omega),if_pos (by omega),if_neg ht.e0,wr_ok (by omega) (by omega),wr_ok (by omega) (by omega)];have e1:((((glue xs f).length+1+(glue ys g).length:Nat):Int)==(((glue ys g).length:Nat):Int)+(((glue xs f).length+1:Nat):Int))=true:=beq_iff_eq.mpr (by omega);have e2:((((glue xs f).length+1+(glue ys g).length+z:Nat):Int)==(((glue ys g).length+z:Nat):Int)+(((glue xs f).length+1:Nat):Int))=true:=beq_iff_eq.mpr (by omega);rw [e1,e2];exact hA _ (by omega)
     · have hla2:=items_le xs _ hI
       have ew:glue xs (g++r)++10::b=glue xs (g++(r++10::b)):=by rw [glue_app,glue_app];simp
       have hbr:Bytes (r++10::b):=by
         have h1:=hbw;rw [ew,glue_app] at h1;exact h1.right
       have hIx:okI xs (g++(r++10::b)):=by
         have:=okI_ext10 xs (g++r) b (by rw [glue_app];exact hbw) hI
         simpa using this
       have hgl:=congrArg List.length (glue_app xs g r);rw [List.length_append] at hgl;rw [Lex_bad hba (by omega) hI hf (by omega)]
       rcases hLb:lexer_Lex.f (K+20001) b with _|bt
       · exfalso
         rcases lex_cut b.length b (Nat.le_refl _) hbb (by omega) with ⟨ys,t,rfl,hJ,ht⟩|⟨ys,g2,r2,z2,e2,rfl,hJ,ht⟩
         · rw [Lex_ok hbb (by omega) hJ ht (by omega)] at hLb;cases hLb
         · rw [Lex_bad hbb (by omega) hJ ht (by omega)] at hLb;cases hLb
       · rw [ew] at hbw hlw ⊢; rw [Lex_bad hbw (by omega) hIx (hf.ext10 hbr) (by omega)];simp only [if_true,Option.bind_some,List.length_nil,List.length_append,List.length_singleton,Nat.zero_add];rw [if_pos (by omega),if_pos (by omega),if_pos (by omega),if_neg hf.e0];exact hA _ (by omega)
end Go.Proofs.YtdffphkbidfejaaDoor.Q
end
