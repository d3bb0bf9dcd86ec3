import Derived.BigRegion
import Derived.Deep.RegionHeld3
import Derived.WalkMore
import Derived.Test.YtdffphkbidfejaaDoorMK1
import Derived.Test.YtdffphkbidfejaaDoorMK11
import Derived.Test.YtdffphkbidfejaaDoorMK14
import Derived.Test.YtdffphkbidfejaaDoorMK15
import Derived.Test.YtdffphkbidfejaaDoorMK5
section
namespace Go.Proofs.YtdffphkbidfejaaDoor.Q
open Go.RowKit Go.Proofs.YtdffphkbidfejaaDoorW.PrintWords Go.Proofs.YtdffphkbidfejaaDoorW.PrintLast Go.Proofs.YtdffphkbidfejaaDoorW.PrintMore
set_option linter.unusedVariables false
set_option linter.unusedSimpArgs false
def skipF (l:List Int):Nat→Nat→Nat
 |0,i=>i
 |k+1,i=>if i<l.length then (if (clsR l i).1=1 then skipF l k (clsR l i).2 else if (clsR l i).1=6 then skipF l k (cmtR l (clsR l i).2) else i) else i
def skipR (l:List Int) (i:Nat):Nat:=skipF l (l.length-i) i
theorem cmtR_in (l:List Int) (i:Nat) (h:i≤l.length):i≤cmtR l i∧cmtR l i≤l.length:=by
 have h1:=whileR_in (lineR (l.drop i)) commentP 0 (Nat.zero_le _);have h2:=lineR_len (l.drop i);rw [List.length_drop] at h2;unfold cmtR;omega
theorem skipF_more (l:List Int): ∀(k j i:Nat),l.length-i≤k→l.length-i≤j→skipF l k i=skipF l j i
 |0,0,i,_,_=>rfl
 |0,j+1,i,h,_=>by
  simp only [skipF];rw [if_neg (by omega)]
 |k+1,0,i,_,h=>by
  simp only [skipF];rw [if_neg (by omega)]
 |k+1,j+1,i,h1,h2=>by
  simp only [skipF];by_cases c:i<l.length
  · rw [if_pos c,if_pos c];have hs:=clsR_step l i c;have hc:=cmtR_in l (clsR l i).2 hs.2;by_cases c1:(clsR l i).1=1
    · rw [if_pos c1,if_pos c1];exact skipF_more l k j _ (by omega) (by omega)
    · rw [if_neg c1,if_neg c1];by_cases c6:(clsR l i).1=6
      · rw [if_pos c6,if_pos c6];exact skipF_more l k j _ (by omega) (by omega)
      · rw [if_neg c6,if_neg c6]
  · rw [if_neg c,if_neg c]
theorem skipR_space (l:List Int) (i:Nat) (h:i<l.length) (h1:(clsR l i).1=1):skipR l i=skipR l (clsR l i).2:=by
 have hs:=clsR_step l i h
 obtain ⟨k,hk⟩: ∃k,l.length-i=k+1:=⟨l.length-i-1,by omega⟩
 unfold skipR;rw [hk];simp only [skipF];rw [if_pos h,if_pos h1];exact skipF_more l _ _ _ (by omega) (by omega)
theorem skipR_cmt (l:List Int) (i:Nat) (h:i<l.length) (h1:(clsR l i).1=6):skipR l i=skipR l (cmtR l (clsR l i).2):=by
 have hs:=clsR_step l i h;have hc:=cmtR_in l (clsR l i).2 hs.2
 obtain ⟨k,hk⟩: ∃k,l.length-i=k+1:=⟨l.length-i-1,by omega⟩
 unfold skipR;rw [hk];simp only [skipF];rw [if_pos h,if_neg (by omega),if_pos h1];exact skipF_more l _ _ _ (by omega) (by omega)
theorem skipR_stop (l:List Int) (i:Nat) (h1:(clsR l i).1≠1) (h6:(clsR l i).1≠6):skipR l i=i:=by
 unfold skipR
 cases l.length-i with
 |zero=>rfl
 |succ k=>
  simp only [skipF];rw [if_neg h1,if_neg h6]
  split<;>rfl
theorem skipR_end (l:List Int) (i:Nat) (h: ¬i<l.length):skipR l i=i:=by
 unfold skipR;rw [show l.length-i=0 by omega];rfl
def sub (l:List Int) (i j:Nat):List Int:=(l.drop i).take (j-i)
def hashR (s:ByteArray):Int×Int×ByteArray×Int:=match lexer_hash.f s with|some (a,_,_,n,t,e)=>(a,n,t,e)|none=>(0,0,⟨#[]⟩,0)
def wordR (s:ByteArray):Int×Int×ByteArray×Int:=match lexer_token.f s with|some (a,_,_,n,t,e)=>(a,n,t,e)|none=>(0,0,⟨#[]⟩,0)
def endR (l:List Int) (i:Nat) (c:Int) (d:Nat):Nat:=
 if c=5 then (if d<l.length∧rd l d=59 then d+1 else whileR l wordP d) else if wordP c=true then whileR l wordP i else d
def kindR (l:List Int) (i:Nat) (c:Int) (d:Nat):Int×Int×ByteArray×Int:=
 if c=2 then (1,(if rd l i=40 then 1 else if rd l i=91 then 2 else 0),⟨#[]⟩,0)
 else if c=3 then (2,(if rd l i=41 then 1 else if rd l i=93 then 2 else 0),⟨#[]⟩,0)
 else if c=4 then (3,0,⟨#[]⟩,0)
 else if c=5 then hashR (strOfNums (sub l i (endR l i c d)))
 else if wordP c=true then wordR (strOfNums (sub l i (endR l i c d)))
 else (0,0,⟨#[]⟩,6)
def firstR (l:List Int) (i:Nat):Int×Int×Int×Int×ByteArray×Int×Int×Int:=
 let c:=(clsR l i).1
 let d:=(clsR l i).2
 let z:=endR l i c d
 let k:=kindR l i c d
 if k.2.2.2=0 then (k.1,(i:Int),(z:Int),k.2.1,k.2.2.1,0,0,0) else (0,0,0,0,⟨#[]⟩,(i:Int),(z:Int),k.2.2.2)
def nextR (l:List Int) (i:Nat):Int×Int×Int×Int×ByteArray×Int×Int×Int:=
 if skipR l i<l.length then firstR l (skipR l i) else (0,0,0,0,⟨#[]⟩,0,0,4)
def nextV (x:Int×Int×Int×Int×ByteArray×Int×Int×Int):Value:= .tuple #[.agg #[.int .i64 x.1,.int .i64 x.2.1,.int .i64 x.2.2.1,.int .i64 x.2.2.2.1,.string x.2.2.2.2.1],.agg #[.int .i64 x.2.2.2.2.2.1,.int .i64 x.2.2.2.2.2.2.1],.int .i64 x.2.2.2.2.2.2.2]
theorem nx_ret (W:World) (tmps:Array Value) (g h:Nat) (x1 x2 x3 x4:Int) (x5:ByteArray) (x6 x7 x8:Int) (h4:tmps.getD 4 undef= .pointer (some ⟨g,0,none⟩)) (h5:tmps.getD 5 undef= .pointer (some ⟨h,0,none⟩)) (h6:tmps.getD 6 undef= .int .i64 x8)
 (hg:W.heap[g]? =some (.cells #[.int .i64 x1,.int .i64 x2,.int .i64 x3,.int .i64 x4,.string x5] 36 (0,0))) (hh:W.heap[h]? =some (.cells #[.int .i64 x6,.int .i64 x7] 27 (0,0))):
 (results Tryd.f13 tmps).run Tryd.prog W= .ok (nextV (x1,x2,x3,x4,x5,x6,x7,x8)) W:=by
 have:=results_list (P:=Tryd.prog) (fn:=Tryd.f13) (tmps:=tmps) (w:=W) (rs:=[.cell 4 36,.cell 5 27,.tmp 6]) rfl (by simp) (.cell g _ _ _ _ h4 hg Tryd.underlying36 rfl (by kernel_rfl) (.cell h _ _ _ _ h5 hh Tryd.underlying27 rfl (by kernel_rfl) (.tmp .nil)));rw [h6] at this;exact this
theorem heap_two (w:World) (o o':Obj):((w.alloc o).alloc o').heap[w.heap.size]? =some o∧((w.alloc o).alloc o').heap[w.heap.size+1]? =some o':=by
 have h1:=World.alloc_heap_new w o;have h2:=World.alloc_heap_new (w.alloc o) o';rw [World.size_alloc] at h2;exact ⟨blk_alloc h1 o',h2⟩
set_option maxRecDepth 100000 in
set_option maxHeartbeats 1000000 in
theorem nx_long (A:Option Addr) (c n:Nat) (i:Int) (w:World) (h:(8000:Int)<n):
 Calls Tryd.prog 13 #[.slice A n c,.int .i64 i] w fun e w'=>e= .returned (nextV (0,0,0,0,⟨#[]⟩,0,0,3))∧Below w.heap.size w w':=by
 have d:decide ((8000:Int)<n)=true:=decide_eq_true h;clear h;go_enter Tryd.func13,Tryd.ntmps13
 go_wp2_with fail
 refine wp_scope_straight ?_
 go_wp2_with fail
 go_region
 all_goals go_wp2_with fail
 all_goals rw [Exit.noGoto_ret]
 all_goals exact bodyPost_ret (nx_ret _ _ _ _ 0 0 0 0 ⟨#[]⟩ 0 0 3 rfl rfl rfl (heap_two w _ _).1 (heap_two w _ _).2) rfl ⟨rfl,below_drew (below_alloc (below_alloc (Below.refl _ _) _) _)⟩
set_option maxRecDepth 100000 in
set_option maxHeartbeats 1000000 in
theorem nx_range (A:Option Addr) (c n:Nat) (i:Int) (w:World) (h:(n:Int)≤8000) (hi:i<0∨(n:Int)<i):
 Calls Tryd.prog 13 #[.slice A n c,.int .i64 i] w fun e w'=>e= .returned (nextV (0,0,0,0,⟨#[]⟩,0,0,7))∧Below w.heap.size w w':=by
 have d:decide ((8000:Int)<n)=false:=decide_eq_false (by omega);by_cases h0:i<0
 · have d0:decide (i<0)=true:=decide_eq_true h0;clear h hi h0;go_enter Tryd.func13,Tryd.ntmps13
   go_wp2_with fail
   refine wp_scope_straight ?_
   go_wp2_with fail
   go_region
   all_goals go_wp2_with fail
   all_goals rw [Exit.noGoto_ret]
   all_goals exact bodyPost_ret (nx_ret _ _ _ _ 0 0 0 0 ⟨#[]⟩ 0 0 7 rfl rfl rfl (heap_two w _ _).1 (heap_two w _ _).2) rfl ⟨rfl,below_drew (below_alloc (below_alloc (Below.refl _ _) _) _)⟩
 · have d0:decide (i<0)=false:=decide_eq_false h0
   have h1:(n:Int)<i:=by omega
   have d1:decide ((n:Int)<i)=true:=decide_eq_true h1;clear h hi h0 h1;go_enter Tryd.func13,Tryd.ntmps13
   go_wp2_with fail
   refine wp_scope_straight ?_
   go_wp2_with fail
   go_region
   all_goals go_wp2_with fail
   all_goals rw [Exit.noGoto_ret]
   all_goals exact bodyPost_ret (nx_ret _ _ _ _ 0 0 0 0 ⟨#[]⟩ 0 0 7 rfl rfl rfl (heap_two w _ _).1 (heap_two w _ _).2) rfl ⟨rfl,below_drew (below_alloc (below_alloc (Below.refl _ _) _) _)⟩
end Go.Proofs.YtdffphkbidfejaaDoor.Q
end
section
namespace Go.Proofs.YtdffphkbidfejaaDoor.Q
open Go.RowKit Go.Proofs.YtdffphkbidfejaaDoorW.PrintWords
set_option linter.unusedSimpArgs false
set_option linter.unusedVariables false
theorem decR_none_pre {l m:List Int} (h:decR (l++m)=none):decR l=none:=by
 cases hc:decR l with
 |none=>rfl
 |some p=>
  obtain ⟨r,n⟩:=p;rw [decR_app hc m] at h;cases h
theorem cls_some {l:List Int} {r n:Int} (h:decR l=some (r,n)):clsR l 0=(clsOf r,n.toNat):=by
 unfold clsR;rw [List.drop_zero,h];simp
theorem cls_none {l:List Int} (h:decR l=none):clsR l 0=(0,1):=by
 unfold clsR;rw [List.drop_zero,h]
theorem cls_byte (b:Int) (l:List Int) (h:0≤b∧b<128):clsR (b::l) 0=(clsOf b,1):=by rw [cls_some (decR_one b l h)];rfl
theorem cls_space {b:Int} (h:b=9∨b=10∨b=13∨b=32) (l:List Int):clsR (b::l) 0=(1,1):=by
 rw [cls_byte b l (by omega)]
 rcases h with rfl|rfl|rfl|rfl<;>rfl
theorem cls_semi (l:List Int):clsR (59::l) 0=(6,1):=by
 rw [cls_byte 59 l (by omega)];rfl
theorem clsR_shift (l:List Int) (i:Nat):clsR l i=((clsR (l.drop i) 0).1,i+(clsR (l.drop i) 0).2):=by
 unfold clsR;rw [List.drop_zero]
 cases decR (l.drop i) with
 |none=>rfl
 |some p=>simp
theorem cmtR_drop (l:List Int) (i j:Nat):cmtR l (i+j)=i+cmtR (l.drop i) j:=by
 unfold cmtR;rw [List.drop_drop];omega
theorem skipR_shift: ∀(k:Nat) (l:List Int) (i:Nat),l.length-i≤k→i≤l.length→skipR l i=i+skipR (l.drop i) 0:=by
 intro k
 induction k with
 |zero=>
  intro l i h hi;rw [skipR_end l i (by omega),List.drop_eq_nil_of_le (by omega)];rfl
 |succ k ih=>
  intro l i h hi;by_cases hlt:i<l.length
  · by_cases hk:i=0
    · subst hk;rw [List.drop_zero];omega
    · have hs:=clsR_step l i hlt;have hc:=clsR_shift l i
      have hd:0<(l.drop i).length:=by rw [List.length_drop];omega
      have hs2:=clsR_step (l.drop i) 0 hd;rw [List.length_drop] at hs2;have hlen:(l.drop i).length=l.length-i:=List.length_drop;by_cases h1:(clsR l i).1=1
      · rw [skipR_space l i hlt h1,ih l _ (by omega) hs.2];rw [hc] at h1 ⊢; rw [skipR_space (l.drop i) 0 hd h1,ih (l.drop i) _ (by omega) (by omega),List.drop_drop];simp only [];omega
      · by_cases h6:(clsR l i).1=6
        · have hm:=cmtR_in l (clsR l i).2 hs.2;rw [skipR_cmt l i hlt h6,ih l _ (by omega) hm.2];rw [hc] at h6 hm ⊢; simp only [] at h6 hm ⊢; rw [cmtR_drop] at hm ⊢; have hm2:=cmtR_in (l.drop i) (clsR (l.drop i) 0).2 (by omega);rw [skipR_cmt (l.drop i) 0 hd h6,ih (l.drop i) _ (by omega) (by omega),List.drop_drop];omega
        · rw [skipR_stop l i h1 h6];rw [hc] at h1 h6;rw [skipR_stop (l.drop i) 0 h1 h6,Nat.add_zero]
  · rw [skipR_end l i hlt,List.drop_eq_nil_of_le (by omega)];rfl
theorem skipR_drop (l:List Int) (i:Nat) (hi:i≤l.length):skipR l i=i+skipR (l.drop i) 0:=skipR_shift _ l i (Nat.le_refl _) hi
def VL (c:List Int):Prop:=lineR c=c∧whileR c commentP 0=c.length
inductive CG:List Int→Prop where
 |nil:CG []
 |space {b:Int} {g:List Int} (h:b=9∨b=10∨b=13∨b=32) (hg:CG g):CG (b::g)
 |cmt {c g:List Int} (h:VL c) (hg:CG g):CG (59::(c++10::g))
def OG (g:List Int):Prop:= ∃a c,CG a∧VL c∧g=a++59::c
theorem lineR_app {c:List Int} (h:lineR c=c) (m:List Int):lineR (c++m)=c++lineR m:=by
 unfold lineR at h ⊢; rw [List.takeWhile_append,h,if_pos rfl]
theorem lineR_ten (m:List Int):lineR (10::m)=[]:=rfl
theorem cmt_ten {c:List Int} (h:VL c) (x m:List Int):cmtR (x++(c++10::m)) x.length=x.length+c.length:=by
 unfold cmtR;rw [List.drop_left,lineR_app h.1,lineR_ten,List.append_nil,h.2]
theorem skip_byte {b:Int} (h:b=9∨b=10∨b=13∨b=32) (l:List Int):skipR (b::l) 0=1+skipR l 0:=by
 have hc:=cls_space h l;rw [skipR_space (b::l) 0 (by simp) (by rw [hc]),hc,skipR_drop (b::l) 1 (by simp)];rfl
theorem skip_CG {g:List Int} (h:CG g) (m:List Int):skipR (g++m) 0=g.length+skipR m 0:=by
 induction h with
 |nil=>simp
 |space h _ ih=>
  rw [List.cons_append,skip_byte h,ih];simp only [List.length_cons];omega
 | @cmt c g h hg ih=>
   have hc:=cls_semi ((c++10::g)++m)
   have hm:cmtR (59::((c++10::g)++m)) 1=1+c.length:=by
    have:=cmt_ten h [59] (g++m);rw [List.length_singleton] at this;rw [←this]
    congr 1
    simp
   have hd:(59::((c++10::g)++m)).drop (1+c.length)=10::(g++m):=by
    rw [Nat.add_comm,List.drop_succ_cons,List.append_assoc,List.drop_left];rfl
   rw [List.cons_append,skipR_cmt _ 0 (by simp) (by rw [hc]),hc,hm,skipR_drop _ (1+c.length) (by simp;omega),hd,skip_byte (Or.inr (Or.inl rfl)),ih];simp only [List.length_cons,List.length_append];omega
theorem cls_app {u:List Int} (i:Nat) (hi:i≤u.length) (m:List Int) (h:(clsR u i).1≠0):clsR (u++m) i=clsR u i:=by
 have hd:(u++m).drop i=u.drop i++m:=List.drop_append_of_le_length hi;unfold clsR at h ⊢; rw [hd]
 cases hc:decR (u.drop i) with
 |none=>rw [hc] at h;exact absurd rfl h
 |some p=>
  obtain ⟨r,n⟩:=p;rw [decR_app hc m]
theorem cls_at_end (u m:List Int):(clsR (u++m) u.length).1=(clsR m 0).1:=by
 rw [clsR_shift,List.drop_left]
theorem while_app (p:Int→Bool) (hp:p 0=false) (u m:List Int) (hm:p (clsR m 0).1=false): ∀(k i:Nat),u.length-i≤k→i≤u.length→whileR u p i=u.length→whileR (u++m) p i=u.length:=by
 intro k
 induction k with
 |zero=>
  intro i h hi hw
  obtain rfl:i=u.length:=by omega
  exact whileR_stop _ _ _ (by rw [cls_at_end];exact hm)
 |succ k ih=>
  intro i h hi hw;by_cases hlt:i<u.length
  · cases hc:p (clsR u i).1 with
    |false=>rw [whileR_stop u p i hc] at hw;omega
    |true=>
     have hs:=clsR_step u i hlt
     have h0:(clsR u i).1≠0:=fun e=>by rw [e,hp] at hc;cases hc
     have e:=cls_app i hi m h0;rw [whileR_go u p i hlt hc] at hw;rw [whileR_go (u++m) p i (by rw [List.length_append];omega) (by rw [e];exact hc),e];exact ih _ (by omega) hs.2 hw
  · obtain rfl:i=u.length:=by omega
    exact whileR_stop _ _ _ (by rw [cls_at_end];exact hm)
def NW (m:List Int):Prop:=wordP (clsR m 0).1=false
theorem NW.nil:NW []:=rfl
theorem NW.pre {a b:List Int} (h:NW (a++b)):NW a:=by
 unfold NW at h ⊢; by_cases h0:(clsR a 0).1=0
 · rw [h0];rfl
 · rw [cls_app 0 (Nat.zero_le _) b h0] at h;exact h
structure TK (u:List Int) (k n:Int) (s:ByteArray):Prop where
 kind:kindR u 0 (clsR u 0).1 (clsR u 0).2=(k,n,s,0)
 fin:endR u 0 (clsR u 0).1 (clsR u 0).2=u.length
 bytes:Bytes u
 small:u.length≤1000000
theorem TK.cls {u:List Int} {k n:Int} {s:ByteArray} (h:TK u k n s):(clsR u 0).1≠0∧(clsR u 0).1≠1∧(clsR u 0).1≠6:=by
 have hk:=h.kind
 refine ⟨fun e=>?_,fun e=>?_,fun e=>?_⟩<;>(rw [e] at hk;have:=congrArg (fun x=>x.2.2.2) hk;exact absurd (show (6:Int)=0 from this) (by decide))
theorem TK.ne {u:List Int} {k n:Int} {s:ByteArray} (h:TK u k n s):0<u.length:=by
 cases u with
 |nil=>exact absurd rfl h.cls.1
 |cons x t=>simp
theorem line_split: ∀(t:List Int),∃rest,t=lineR t++rest∧(rest=[]∨ ∃r',rest=10::r')
 |[]=>⟨[],rfl,Or.inl rfl⟩
 |y::t=>by
  by_cases c:y=10
  · subst c;exact ⟨10::t,by rw [lineR_ten];rfl,Or.inr ⟨t,rfl⟩⟩
  · obtain ⟨rest,h1,h2⟩:=line_split t;refine ⟨rest,?_,h2⟩
    have:lineR (y::t)=y::lineR t:=by unfold lineR;rw [List.takeWhile_cons_of_pos (by simpa using c)]
    rw [this,List.cons_append,←h1]
end Go.Proofs.YtdffphkbidfejaaDoor.Q
end
