import Derived.Test.YtdffphkbidfejaaDoorMJ18
import Derived.Test.YtdffphkbidfejaaDoorMJ23
import Derived.Test.YtdffphkbidfejaaDoorMJ25
section
namespace Go.Proofs.YtdffphkbidfejaaDoor.Q
open Go.RowKit Go.Proofs.YtdffphkbidfejaaDoorW.PrintWords
set_option linter.unusedSimpArgs false
set_option linter.unusedVariables false
theorem bytes_of_wf {l:List Int} (h:WfL (WfI .u8) l):Bytes l:=fun x hx=>by
 have h1:0≤x∧x≤255:=by simpa [WfI,Lit.wf,IntKind.min,IntKind.max,IntKind.signed,IntKind.bits] using h.2 x hx
 omega
theorem awake_ev:Ev (fun k=>mummerlaw05_awake.f k) true:=Ev.of (fun k=>mummerlaw05_awake.mono k) (k:=40) (by kernel_rfl)
theorem next_run {l:List Int} (hb:Bytes l) (h8:l.length≤8000) (o:Nat) (ho:o≤l.length):lexer_Next.f l (o:Int)=some (nextR l o):=by
 unfold lexer_Next.f;rw [if_neg (by omega),if_neg (by omega),if_pos (show ∀x∈l,0≤x∧x<256 from hb),Int.toNat_natCast]
theorem items_le: ∀(xs:List Item) (f:List Int),okI xs f→xs.length+f.length≤(glue xs f).length
 |[],f,_=>by simp [glue]
 |x::xs,f,h=>by
  have ih:=items_le xs f h.2.2.2;have hn:=h.2.1.ne;show _≤(x.g++(x.u++glue xs f)).length;rw [List.length_append,List.length_append,List.length_cons];omega
theorem lex0_ok {l:List Int} (hb:Bytes l) (h8:l.length≤8000) {f:List Int} (hf:TailOK f): ∀(xs:List Item) (o k:Nat) (acc:List S36),l.drop o=glue xs f→o≤l.length→okI xs f→xs.length<k→acc.length+xs.length≤100000→
 lexer_Lex.l0 k l acc (o:Int)=some (acc++tokS o xs,0,0,0)
 |[],o,k,acc,hd,ho,_,hk,ha=>by
  obtain ⟨k,rfl⟩: ∃j,k=j+1:=⟨k-1,by omega⟩
  have hn:=next_at l o ho;rw [hd,show glue [] f=f from rfl,next_end hf] at hn;have hn:nextR l o=(0,0,0,0,⟨#[]⟩,0,0,4):=hn;simp only [lexer_Lex.l0];rw [next_run hb h8 o ho,hn];simp [tokS]
 |x::xs,o,k,acc,hd,ho,hI,hk,ha=>by
  obtain ⟨k,rfl⟩: ∃j,k=j+1:=⟨k-1,by simp at hk;omega⟩
  obtain ⟨h1,h2,h3,h4⟩:=hI;have hd':l.drop o=x.g++(x.u++glue xs f):=hd;obtain ⟨e1,e2⟩:=glue_drop hd' ho;rw [List.length_cons] at ha hk;have hn:=next_at l o ho;rw [hd',next_tok h1 h2 h3] at hn;unfold shN at hn;rw [if_pos rfl] at hn
  have e3:((x.g.length:Nat):Int)+(o:Int)=((o+x.g.length:Nat):Int):=by omega
  have e4:((x.g.length+x.u.length:Nat):Int)+(o:Int)=((o+x.g.length+x.u.length:Nat):Int):=by omega
  simp only [e3,e4] at hn;simp only [lexer_Lex.l0];rw [next_run hb h8 o ho,hn];simp only [Option.bind_some,if_true];rw [if_pos (by omega),lex0_ok hb h8 hf xs _ k _ e1 e2 h4 (by omega) (by rw [List.length_append,List.length_singleton];omega)];simp [tokS]
theorem lex0_bad {l:List Int} (hb:Bytes l) (h8:l.length≤8000) {g r:List Int} {z:Nat} {e:Int} (hf:TailBad g r z e): ∀(xs:List Item) (o k:Nat) (acc:List S36),l.drop o=glue xs (g++r)→o≤l.length→okI xs (g++r)→xs.length<k→acc.length+xs.length≤100000→
 lexer_Lex.l0 k l acc (o:Int)=some ([],((o+(glue xs g).length:Nat):Int),((o+(glue xs g).length+z:Nat):Int),e)
 |[],o,k,acc,hd,ho,_,hk,ha=>by
  obtain ⟨k,rfl⟩: ∃j,k=j+1:=⟨k-1,by omega⟩
  have h4e:e≠4:=by have:=hf.err4;omega
  have hn:=next_at l o ho;rw [hd,show glue [] (g++r)=g++r from rfl,next_bad hf] at hn;unfold shN at hn;rw [if_neg hf.e0,if_neg h4e] at hn
  have e3:((g.length:Nat):Int)+(o:Int)=((o+g.length:Nat):Int):=by omega
  have e4:((g.length+z:Nat):Int)+(o:Int)=((o+g.length+z:Nat):Int):=by omega
  simp only [e3,e4] at hn;simp only [lexer_Lex.l0];rw [next_run hb h8 o ho,hn];simp only [Option.bind_some];rw [if_neg hf.e0,if_neg h4e];rfl
 |x::xs,o,k,acc,hd,ho,hI,hk,ha=>by
  obtain ⟨k,rfl⟩: ∃j,k=j+1:=⟨k-1,by simp at hk;omega⟩
  obtain ⟨h1,h2,h3,h4⟩:=hI;have hd':l.drop o=x.g++(x.u++glue xs (g++r)):=hd;obtain ⟨e1,e2⟩:=glue_drop hd' ho;rw [List.length_cons] at ha hk
  have hlen:(glue (x::xs) g).length=x.g.length+x.u.length+(glue xs g).length:=by
   show (x.g++(x.u++glue xs g)).length=_;rw [List.length_append,List.length_append];omega
  have hn:=next_at l o ho;rw [hd',next_tok h1 h2 h3] at hn;unfold shN at hn;rw [if_pos rfl] at hn
  have e3:((x.g.length:Nat):Int)+(o:Int)=((o+x.g.length:Nat):Int):=by omega
  have e4:((x.g.length+x.u.length:Nat):Int)+(o:Int)=((o+x.g.length+x.u.length:Nat):Int):=by omega
  simp only [e3,e4] at hn;simp only [lexer_Lex.l0];rw [next_run hb h8 o ho,hn];simp only [Option.bind_some,if_true];rw [if_pos (by omega),lex0_bad hb h8 hf xs _ k _ e1 e2 h4 (by omega) (by rw [List.length_append,List.length_singleton];omega),hlen];refine congrArg some (Prod.ext rfl (Prod.ext ?_ (Prod.ext ?_ rfl)))
  · show ((o+x.g.length+x.u.length+(glue xs g).length:Nat):Int)=((o+(x.g.length+x.u.length+(glue xs g).length):Nat):Int)
    omega
  · show ((o+x.g.length+x.u.length+(glue xs g).length+z:Nat):Int)=((o+(x.g.length+x.u.length+(glue xs g).length)+z:Nat):Int)
    omega
theorem Lex_ok {xs:List Item} {f:List Int} (hb:Bytes (glue xs f)) (h8:(glue xs f).length≤8000) (hI:okI xs f) (hf:TailOK f) {k:Nat} (hk:8000<k):lexer_Lex.f k (glue xs f)=some (tokS 0 xs,0,0,0):=by
 have hle:=items_le xs f hI;have:=lex0_ok hb h8 hf xs 0 k [] rfl (Nat.zero_le _) hI (by omega) (by simp;omega);exact this
theorem Lex_bad {xs:List Item} {g r:List Int} {z:Nat} {e:Int} (hb:Bytes (glue xs (g++r))) (h8:(glue xs (g++r)).length≤8000) (hI:okI xs (g++r)) (hf:TailBad g r z e) {k:Nat} (hk:8000<k):
 lexer_Lex.f k (glue xs (g++r))=some ([],(((glue xs g).length:Nat):Int),(((glue xs g).length+z:Nat):Int),e):=by
 have hle:=items_le xs _ hI;have:=lex0_bad hb h8 hf xs 0 k [] rfl (Nat.zero_le _) hI (by omega) (by simp;omega);rw [Nat.zero_add] at this;exact this
theorem endR_in (r:List Int) (h:0<r.length):0<endR r 0 (clsR r 0).1 (clsR r 0).2∧endR r 0 (clsR r 0).1 (clsR r 0).2≤r.length:=by
 have hs:=clsR_step r 0 h;unfold endR
 split
 · split
   · rename_i h2;omega
   · have:=whileR_in r wordP (clsR r 0).2 hs.2;omega
 · split
   · rename_i hw
     have h1:=whileR_go r wordP 0 h hw;have:=whileR_in r wordP (clsR r 0).2 hs.2;omega
   · omega
theorem TailBad.z_in {g r:List Int} {z:Nat} {e:Int} (h:TailBad g r z e):0<z∧z≤r.length:=by
 have:=endR_in r h.ne;rw [h.fin] at this;exact this
theorem glue_app: ∀(xs:List Item) (g r:List Int),glue xs (g++r)=glue xs g++r
 |[],_,_=>rfl
 |x::xs,g,r=>by
  show x.g++(x.u++glue xs (g++r))=(x.g++(x.u++glue xs g))++r;rw [glue_app xs g r];simp
end Go.Proofs.YtdffphkbidfejaaDoor.Q
end
