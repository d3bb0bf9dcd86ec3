import Derived.BigRegion
import Derived.Deep.RegionHeld3
import Derived.WalkMore
import Derived.Test.YtdffphkbidfejaaDoorMJ1
import Derived.Test.YtdffphkbidfejaaDoorMJ12
import Derived.Test.YtdffphkbidfejaaDoorMJ15
import Derived.Test.YtdffphkbidfejaaDoorMJ16
import Derived.Test.YtdffphkbidfejaaDoorMJ5
section
namespace Go.Proofs.YtdffphkbidfejaaDoor.Q
open Go.RowKit Go.Proofs.YtdffphkbidfejaaDoorW.PrintWords Go.Proofs.YtdffphkbidfejaaDoorW.PrintLast Go.Proofs.YtdffphkbidfejaaDoorW.PrintMore
set_option linter.unusedVariables false
set_option linter.unusedSimpArgs false
def skipF (l:List Int):Nat→Nat→Nat
 |0,i=>i
 |k+1,i=>if i<l.length then (if (clsR l i).1=1 then skipF l k (clsR l i).2 else if (clsR l i).1=6 then skipF l k (cmtR l (clsR l i).2) else i) else i
def skipR (l:List Int) (i:Nat):Nat:=skipF l (l.length-i) i
theorem cmtR_in (l:List Int) (i:Nat) (h:i≤l.length):i≤cmtR l i∧cmtR l i≤l.length:=by
 have h1:=whileR_in (lineR (l.drop i)) commentP 0 (Nat.zero_le _);have h2:=lineR_len (l.drop i);rw [List.length_drop] at h2;unfold cmtR;omega
theorem skipF_more (l:List Int): ∀(k j i:Nat),l.length-i≤k→l.length-i≤j→skipF l k i=skipF l j i
 |0,0,i,_,_=>rfl
 |0,j+1,i,h,_=>by
  simp only [skipF];rw [if_neg (by omega)]
 |k+1,0,i,_,h=>by
  simp only [skipF];rw [if_neg (by omega)]
 |k+1,j+1,i,h1,h2=>by
  simp only [skipF];by_cases c:i<l.length
  · rw [if_pos c,if_pos c];have hs:=clsR_step l i c;have hc:=cmtR_in l (clsR l i).2 hs.2;by_cases c1:(clsR l i).1=1
    · rw [if_pos c1,if_pos c1];exact skipF_more l k j _ (by omega) (by omega)
    · rw [if_neg c1,if_neg c1];by_cases c6:(clsR l i).1=6
      · rw [if_pos c6,if_pos c6];exact skipF_more l k j _ (by omega) (by omega)
      · rw [if_neg c6,if_neg c6]
  · rw [if_neg c,if_neg c]
theorem skipR_space (l:List Int) (i:Nat) (h:i<l.length) (h1:(clsR l i).1=1):skipR l i=skipR l (clsR l i).2:=by
 have hs:=clsR_step l i h
 obtain ⟨k,hk⟩: ∃k,l.length-i=k+1:=⟨l.length-i-1,by omega⟩
 unfold skipR;rw [hk];simp only [skipF];rw [if_pos h,if_pos h1];exact skipF_more l _ _ _ (by omega) (by omega)
theorem skipR_cmt (l:List Int) (i:Nat) (h:i<l.length) (h1:(clsR l i).1=6):skipR l i=skipR l (cmtR l (clsR l i).2):=by
 have hs:=clsR_step l i h;have hc:=cmtR_in l (clsR l i).2 hs.2
 obtain ⟨k,hk⟩: ∃k,l.length-i=k+1:=⟨l.length-i-1,by omega⟩
 unfold skipR;rw [hk];simp only [skipF];rw [if_pos h,if_neg (by omega),if_pos h1];exact skipF_more l _ _ _ (by omega) (by omega)
theorem skipR_stop (l:List Int) (i:Nat) (h1:(clsR l i).1≠1) (h6:(clsR l i).1≠6):skipR l i=i:=by
 unfold skipR
 cases l.length-i with
 |zero=>rfl
 |succ k=>
  simp only [skipF];rw [if_neg h1,if_neg h6]
  split<;>rfl
theorem skipR_end (l:List Int) (i:Nat) (h: ¬i<l.length):skipR l i=i:=by
 unfold skipR;rw [show l.length-i=0 by omega];rfl
theorem skipR_in (l:List Int) (i:Nat) (h:i≤l.length):i≤skipR l i∧skipR l i≤l.length:=by
 suffices ∀(k i:Nat),i≤l.length→i≤skipF l k i∧skipF l k i≤l.length from this _ _ h
 intro k
 induction k with
 |zero=>intro i hi;exact ⟨Nat.le_refl _,hi⟩
 |succ k ih=>
  intro i hi;simp only [skipF];by_cases c:i<l.length
  · rw [if_pos c];have hs:=clsR_step l i c;have hc:=cmtR_in l (clsR l i).2 hs.2;by_cases c1:(clsR l i).1=1
    · rw [if_pos c1];have:=ih _ hs.2;omega
    · rw [if_neg c1];by_cases c6:(clsR l i).1=6
      · rw [if_pos c6];have:=ih _ hc.2;omega
      · rw [if_neg c6];exact ⟨Nat.le_refl _,hi⟩
  · rw [if_neg c];exact ⟨Nat.le_refl _,hi⟩
def sub (l:List Int) (i j:Nat):List Int:=(l.drop i).take (j-i)
def hashR (s:ByteArray):Int×Int×ByteArray×Int:=match lexer_hash.f s with|some (a,_,_,n,t,e)=>(a,n,t,e)|none=>(0,0,⟨#[]⟩,0)
def wordR (s:ByteArray):Int×Int×ByteArray×Int:=match lexer_token.f s with|some (a,_,_,n,t,e)=>(a,n,t,e)|none=>(0,0,⟨#[]⟩,0)
def endR (l:List Int) (i:Nat) (c:Int) (d:Nat):Nat:=
 if c=5 then (if d<l.length∧rd l d=59 then d+1 else whileR l wordP d) else if wordP c=true then whileR l wordP i else d
def kindR (l:List Int) (i:Nat) (c:Int) (d:Nat):Int×Int×ByteArray×Int:=
 if c=2 then (1,(if rd l i=40 then 1 else if rd l i=91 then 2 else 0),⟨#[]⟩,0)
 else if c=3 then (2,(if rd l i=41 then 1 else if rd l i=93 then 2 else 0),⟨#[]⟩,0)
 else if c=4 then (3,0,⟨#[]⟩,0)
 else if c=5 then hashR (strOfNums (sub l i (endR l i c d)))
 else if wordP c=true then wordR (strOfNums (sub l i (endR l i c d)))
 else (0,0,⟨#[]⟩,6)
def firstR (l:List Int) (i:Nat):Int×Int×Int×Int×ByteArray×Int×Int×Int:=
 let c:=(clsR l i).1
 let d:=(clsR l i).2
 let z:=endR l i c d
 let k:=kindR l i c d
 if k.2.2.2=0 then (k.1,(i:Int),(z:Int),k.2.1,k.2.2.1,0,0,0) else (0,0,0,0,⟨#[]⟩,(i:Int),(z:Int),k.2.2.2)
def nextR (l:List Int) (i:Nat):Int×Int×Int×Int×ByteArray×Int×Int×Int:=
 if skipR l i<l.length then firstR l (skipR l i) else (0,0,0,0,⟨#[]⟩,0,0,4)
def nextV (x:Int×Int×Int×Int×ByteArray×Int×Int×Int):Value:= .tuple #[.agg #[.int .i64 x.1,.int .i64 x.2.1,.int .i64 x.2.2.1,.int .i64 x.2.2.2.1,.string x.2.2.2.2.1],.agg #[.int .i64 x.2.2.2.2.2.1,.int .i64 x.2.2.2.2.2.2.1],.int .i64 x.2.2.2.2.2.2.2]
theorem nx_ret (W:World) (tmps:Array Value) (g h:Nat) (x1 x2 x3 x4:Int) (x5:ByteArray) (x6 x7 x8:Int) (h4:tmps.getD 4 undef= .pointer (some ⟨g,0,none⟩)) (h5:tmps.getD 5 undef= .pointer (some ⟨h,0,none⟩)) (h6:tmps.getD 6 undef= .int .i64 x8)
 (hg:W.heap[g]? =some (.cells #[.int .i64 x1,.int .i64 x2,.int .i64 x3,.int .i64 x4,.string x5] 36 (0,0))) (hh:W.heap[h]? =some (.cells #[.int .i64 x6,.int .i64 x7] 27 (0,0))):
 (results Tryd.f13 tmps).run Tryd.prog W= .ok (nextV (x1,x2,x3,x4,x5,x6,x7,x8)) W:=by
 have:=results_list (P:=Tryd.prog) (fn:=Tryd.f13) (tmps:=tmps) (w:=W) (rs:=[.cell 4 36,.cell 5 27,.tmp 6]) rfl (by simp) (.cell g _ _ _ _ h4 hg Tryd.underlying36 rfl (by kernel_rfl) (.cell h _ _ _ _ h5 hh Tryd.underlying27 rfl (by kernel_rfl) (.tmp .nil)));rw [h6] at this;exact this
theorem heap_two (w:World) (o o':Obj):((w.alloc o).alloc o').heap[w.heap.size]? =some o∧((w.alloc o).alloc o').heap[w.heap.size+1]? =some o':=by
 have h1:=World.alloc_heap_new w o;have h2:=World.alloc_heap_new (w.alloc o) o';rw [World.size_alloc] at h2;exact ⟨blk_alloc h1 o',h2⟩
set_option maxRecDepth 100000 in
set_option maxHeartbeats 1000000 in
theorem nx_long (A:Option Addr) (c n:Nat) (i:Int) (w:World) (h:(8000:Int)<n):
 Calls Tryd.prog 13 #[.slice A n c,.int .i64 i] w fun e w'=>e= .returned (nextV (0,0,0,0,⟨#[]⟩,0,0,3))∧Below w.heap.size w w':=by
 have d:decide ((8000:Int)<n)=true:=decide_eq_true h;clear h;go_enter Tryd.func13,Tryd.ntmps13
 go_wp2_with fail
 refine wp_scope_straight ?_
 go_wp2_with fail
 go_region
 all_goals go_wp2_with fail
 all_goals rw [Exit.noGoto_ret]
 all_goals exact bodyPost_ret (nx_ret _ _ _ _ 0 0 0 0 ⟨#[]⟩ 0 0 3 rfl rfl rfl (heap_two w _ _).1 (heap_two w _ _).2) rfl ⟨rfl,below_drew (below_alloc (below_alloc (Below.refl _ _) _) _)⟩
set_option maxRecDepth 100000 in
set_option maxHeartbeats 1000000 in
theorem nx_range (A:Option Addr) (c n:Nat) (i:Int) (w:World) (h:(n:Int)≤8000) (hi:i<0∨(n:Int)<i):
 Calls Tryd.prog 13 #[.slice A n c,.int .i64 i] w fun e w'=>e= .returned (nextV (0,0,0,0,⟨#[]⟩,0,0,7))∧Below w.heap.size w w':=by
 have d:decide ((8000:Int)<n)=false:=decide_eq_false (by omega);by_cases h0:i<0
 · have d0:decide (i<0)=true:=decide_eq_true h0;clear h hi h0;go_enter Tryd.func13,Tryd.ntmps13
   go_wp2_with fail
   refine wp_scope_straight ?_
   go_wp2_with fail
   go_region
   all_goals go_wp2_with fail
   all_goals rw [Exit.noGoto_ret]
   all_goals exact bodyPost_ret (nx_ret _ _ _ _ 0 0 0 0 ⟨#[]⟩ 0 0 7 rfl rfl rfl (heap_two w _ _).1 (heap_two w _ _).2) rfl ⟨rfl,below_drew (below_alloc (below_alloc (Below.refl _ _) _) _)⟩
 · have d0:decide (i<0)=false:=decide_eq_false h0
   have h1:(n:Int)<i:=by omega
   have d1:decide ((n:Int)<i)=true:=decide_eq_true h1;clear h hi h0 h1;go_enter Tryd.func13,Tryd.ntmps13
   go_wp2_with fail
   refine wp_scope_straight ?_
   go_wp2_with fail
   go_region
   all_goals go_wp2_with fail
   all_goals rw [Exit.noGoto_ret]
   all_goals exact bodyPost_ret (nx_ret _ _ _ _ 0 0 0 0 ⟨#[]⟩ 0 0 7 rfl rfl rfl (heap_two w _ _).1 (heap_two w _ _).2) rfl ⟨rfl,below_drew (below_alloc (below_alloc (Below.refl _ _) _) _)⟩
end Go.Proofs.YtdffphkbidfejaaDoor.Q
end
section
namespace Go.Proofs.YtdffphkbidfejaaDoor.Q
open Go.RowKit Go.Proofs.YtdffphkbidfejaaDoorW.PrintWords
set_option linter.unusedSimpArgs false
set_option linter.unusedVariables false
theorem decN_small (n b0 b1 b2 b3 r m:Nat) (h:Lib.decodeN n b0 b1 b2 b3=(r,m)) (h1: ¬(r=65533∧m≤1)) (hr:r<128):b0=r∧m=1:=by
 unfold Lib.decodeN at h
 repeat' split at h
 all_goals obtain ⟨rfl,rfl⟩:=Prod.mk.inj h
 all_goals omega
theorem decN_cont (n b0 b1 b2 b3 r m:Nat) (h:Lib.decodeN n b0 b1 b2 b3=(r,m)) (h1: ¬(r=65533∧m≤1)):(1<m→128≤b1)∧(2<m→128≤b2)∧(3<m→128≤b3)∧m≤4:=by
 unfold Lib.decodeN at h
 repeat' split at h
 all_goals obtain ⟨rfl,rfl⟩:=Prod.mk.inj h
 all_goals refine ⟨fun _=>?_,fun _=>?_,fun _=>?_,?_⟩<;>omega
theorem decR_N {l:List Int} {r n:Int} (h:decR l=some (r,n)): ∃r' n':Nat,r=r'∧n=n'∧ ¬(r'=65533∧n'≤1)∧Lib.decodeN ((ofL l).size-0) ((ofL l).get! 0).toNat ((ofL l).get! 1).toNat ((ofL l).get! 2).toNat ((ofL l).get! 3).toNat=(r',n'):=by
 unfold decR at h
 by_cases h0:l=[]
 · rw [if_pos h0] at h;cases h
 · rw [if_neg h0] at h;by_cases h1:(dec l).1=65533∧(dec l).2≤1
   · rw [if_pos h1] at h;cases h
   · rw [if_neg h1] at h;have hl:0<l.length:=List.length_pos_iff.mpr h0;have hs:(ofL l).size=l.length:=ofL_size l
     have hd:Lib.decodeGo (ofL l)=Lib.decodeN ((ofL l).size-0) ((ofL l).get! 0).toNat ((ofL l).get! (0+1)).toNat ((ofL l).get! (0+2)).toNat ((ofL l).get! (0+3)).toNat:=by
       simp only [Lib.decodeGo];rw [if_neg (by omega),Lib.decode_at]
     obtain ⟨rfl,rfl⟩:=Prod.mk.inj (Option.some.inj h);simp only [dec] at h1;exact ⟨(Lib.decodeGo (ofL l)).1,(Lib.decodeGo (ofL l)).2,rfl,rfl,by omega,hd.symm⟩
theorem ofL_nat (l:List Int) (hb:Bytes l) (j:Nat) (hj:j<l.length):(((ofL l).get! j).toNat:Int)=rd l j:=ofL_get l hb j hj
theorem decR_small {l:List Int} {r n:Int} (hb:Bytes l) (h:decR l=some (r,n)) (hr:r<128): ∃t,l=r::t∧n=1:=by
 have hp:=dec_pos h;obtain ⟨r',n',rfl,rfl,h1,h2⟩:=decR_N h;obtain ⟨h3,rfl⟩:=decN_small _ _ _ _ _ _ _ h2 h1 (by omega);have h4:=ofL_nat l hb 0 (by omega)
 cases l with
 |nil=>simp at hp
 |cons x t=>
  refine ⟨t,?_,rfl⟩;have:rd (x::t) ((0:Nat):Int)=x:=rfl;rw [this,h3] at h4;rw [h4]
theorem decR_cont {l:List Int} {r n:Int} (hb:Bytes l) (h:decR l=some (r,n)) (j:Nat) (h0:0<j) (hj:(j:Int)<n):128≤rd l j:=by
 have hp:=dec_pos h;obtain ⟨r',n',rfl,rfl,h1,h2⟩:=decR_N h;obtain ⟨c1,c2,c3,c4⟩:=decN_cont _ _ _ _ _ _ _ h2 h1;have h4:=ofL_nat l hb j (by omega);rw [←h4]
 obtain rfl|rfl|rfl:j=1∨j=2∨j=3:=by omega
 · have:=c1 (by omega);omega
 · have:=c2 (by omega);omega
 · have:=c3 (by omega);omega
theorem decR_before {l:List Int} {b:Int} {m:List Int} {r n:Int} (hb:Bytes (l++b::m)) (hl:l≠[]) (h128:b<128) (h:decR (l++b::m)=some (r,n)):decR l=some (r,n):=by
 have hp:=dec_pos h;have hl':0<l.length:=List.length_pos_iff.mpr hl;refine decR_local h ?_;by_cases c:n≤l.length
 · exact c
 · exfalso
   have:=decR_cont hb h l.length hl' (by omega)
   have e:rd (l++b::m) (l.length:Nat)=b:=by unfold rd;simp
   rw [e] at this;omega
theorem decR_none_before {l:List Int} {b:Int} {m:List Int} (hb:Bytes (l++b::m)) (hl:l≠[]) (h128:b<128) (h:decR l=none):decR (l++b::m)=none:=by
 cases hc:decR (l++b::m) with
 |none=>rfl
 |some p=>
  obtain ⟨r,n⟩:=p;rw [decR_before hb hl h128 hc] at h;cases h
theorem decR_none_pre {l m:List Int} (h:decR (l++m)=none):decR l=none:=by
 cases hc:decR l with
 |none=>rfl
 |some p=>
  obtain ⟨r,n⟩:=p;rw [decR_app hc m] at h;cases h
theorem clsScan_ne (r:Int): ∀(L:List (List UInt8)) (k:Int),0<k→clsScan L k r≠0
 |[],k,h=>by simp [clsScan]
 |s::t,k,h=>by
  unfold clsScan
  split
  · omega
  · exact clsScan_ne r t (k+1) (by omega)
theorem clsOf_ne (r:Int):clsOf r≠0:=by
 unfold clsOf
 split
 · omega
 · split
   · omega
   · unfold clsList clsScan;rw [if_neg (by simp [hasB])];exact clsScan_ne _ _ _ (by omega)
theorem hasB_iff (L:List UInt8) (r:Int):hasB L r=true↔ ∃b∈L,(b.toNat:Int)=r:=by
 unfold hasB;simp
theorem clsOf_one {r:Int} (h:clsOf r=1):r=9∨r=10∨r=13∨r=32:=by
 unfold clsOf at h
 split at h
 · omega
 · split at h
   · omega
   · unfold clsList clsScan at h;rw [if_neg (by simp [hasB])] at h;unfold clsScan at h;by_cases c:hasB [9,10,13,32] r=true
     · rw [hasB_iff] at c;obtain ⟨b,hb,rfl⟩:=c;simp only [List.mem_cons,List.not_mem_nil,or_false] at hb
       rcases hb with rfl|rfl|rfl|rfl<;>simp
     · rw [if_neg c] at h
       exfalso
       have: ∀(L:List (List UInt8)) (k:Int),1<k→clsScan L k r≠1:=by
         intro L
         induction L with
         |nil=>intro k _;simp [clsScan]
         |cons s t ih=>
          intro k hk;unfold clsScan
          split
          · omega
          · exact ih (k+1) (by omega)
       exact this _ _ (by omega) h
theorem clsOf_six {r:Int} (h:clsOf r=6):r=59:=by
 unfold clsOf at h
 split at h
 · omega
 · split at h
   · omega
   · unfold clsList at h;simp only [clsScan] at h
     repeat' split at h
     all_goals first
        |omega
        |(rename_i c;rw [hasB_iff] at c
          obtain ⟨b,hb,rfl⟩:=c;simp only [List.mem_cons,List.not_mem_nil,or_false] at hb;subst hb
          rfl)
theorem cls_some {l:List Int} {r n:Int} (h:decR l=some (r,n)):clsR l 0=(clsOf r,n.toNat):=by
 unfold clsR;rw [List.drop_zero,h];simp
theorem cls_none {l:List Int} (h:decR l=none):clsR l 0=(0,1):=by
 unfold clsR;rw [List.drop_zero,h]
theorem cls_zero {l:List Int} (h:(clsR l 0).1=0):decR l=none:=by
 cases hc:decR l with
 |none=>rfl
 |some p=>
  obtain ⟨r,n⟩:=p;rw [cls_some hc] at h;exact absurd h (clsOf_ne r)
theorem cls_byte (b:Int) (l:List Int) (h:0≤b∧b<128):clsR (b::l) 0=(clsOf b,1):=by rw [cls_some (decR_one b l h)];rfl
theorem cls_is_one {l:List Int} (hb:Bytes l) (h:(clsR l 0).1=1): ∃b t,l=b::t∧(b=9∨b=10∨b=13∨b=32):=by
 cases hc:decR l with
 |none=>rw [cls_none hc] at h;simp at h
 |some p=>
  obtain ⟨r,n⟩:=p;rw [cls_some hc] at h;have h1:=clsOf_one h;obtain ⟨t,rfl,rfl⟩:=decR_small hb hc (by omega);exact ⟨r,t,rfl,h1⟩
theorem cls_is_six {l:List Int} (hb:Bytes l) (h:(clsR l 0).1=6): ∃t,l=59::t:=by
 cases hc:decR l with
 |none=>rw [cls_none hc] at h;simp at h
 |some p=>
  obtain ⟨r,n⟩:=p;rw [cls_some hc] at h;have h1:=clsOf_six h;obtain ⟨t,rfl,rfl⟩:=decR_small hb hc (by omega);exact ⟨t,by rw [h1]⟩
theorem cls_space {b:Int} (h:b=9∨b=10∨b=13∨b=32) (l:List Int):clsR (b::l) 0=(1,1):=by
 rw [cls_byte b l (by omega)]
 rcases h with rfl|rfl|rfl|rfl<;>rfl
theorem cls_semi (l:List Int):clsR (59::l) 0=(6,1):=by
 rw [cls_byte 59 l (by omega)];rfl
theorem clsR_shift (l:List Int) (i:Nat):clsR l i=((clsR (l.drop i) 0).1,i+(clsR (l.drop i) 0).2):=by
 unfold clsR;rw [List.drop_zero]
 cases decR (l.drop i) with
 |none=>rfl
 |some p=>simp
theorem whileR_shift (p:Int→Bool): ∀(k:Nat) (l:List Int) (i:Nat),l.length-i≤k→i≤l.length→whileR l p i=i+whileR (l.drop i) p 0:=by
 intro k
 induction k with
 |zero=>
  intro l i h hi;rw [whileR_end l p i (by omega),List.drop_eq_nil_of_le (by omega)];rfl
 |succ k ih=>
  intro l i h hi;by_cases hlt:i<l.length
  · have hs:=clsR_step l i hlt;have hc:=clsR_shift l i
    have hd:0<(l.drop i).length:=by rw [List.length_drop];omega
    have hs2:=clsR_step (l.drop i) 0 hd;rw [List.length_drop] at hs2;by_cases hp:p (clsR l i).1=true
    · rw [whileR_go l p i hlt hp,ih l _ (by omega) hs.2];rw [hc] at hp ⊢; rw [whileR_go (l.drop i) p 0 hd hp];have hcut:k+1≤k+1:=Nat.le_refl _;by_cases hk:i=0
      · subst hk;simp only [List.drop_zero,Nat.zero_add] at hs2 ⊢; rw [ih l (clsR l 0).2 (by omega) (by omega)]
      · rw [ih (l.drop i) (clsR (l.drop i) 0).2 (by rw [List.length_drop];omega) (by rw [List.length_drop];omega),List.drop_drop];simp only [];omega
    · have hp':p (clsR l i).1=false:=by simpa using hp
      rw [whileR_stop l p i hp'];rw [hc] at hp';rw [whileR_stop (l.drop i) p 0 hp',Nat.add_zero]
  · rw [whileR_end l p i hlt,List.drop_eq_nil_of_le (by omega)];rfl
theorem whileR_drop (l:List Int) (p:Int→Bool) (i:Nat) (hi:i≤l.length):whileR l p i=i+whileR (l.drop i) p 0:=whileR_shift p _ l i (Nat.le_refl _) hi
theorem cmtR_drop (l:List Int) (i j:Nat):cmtR l (i+j)=i+cmtR (l.drop i) j:=by
 unfold cmtR;rw [List.drop_drop];omega
theorem skipR_shift: ∀(k:Nat) (l:List Int) (i:Nat),l.length-i≤k→i≤l.length→skipR l i=i+skipR (l.drop i) 0:=by
 intro k
 induction k with
 |zero=>
  intro l i h hi;rw [skipR_end l i (by omega),List.drop_eq_nil_of_le (by omega)];rfl
 |succ k ih=>
  intro l i h hi;by_cases hlt:i<l.length
  · by_cases hk:i=0
    · subst hk;rw [List.drop_zero];omega
    · have hs:=clsR_step l i hlt;have hc:=clsR_shift l i
      have hd:0<(l.drop i).length:=by rw [List.length_drop];omega
      have hs2:=clsR_step (l.drop i) 0 hd;rw [List.length_drop] at hs2;have hlen:(l.drop i).length=l.length-i:=List.length_drop;by_cases h1:(clsR l i).1=1
      · rw [skipR_space l i hlt h1,ih l _ (by omega) hs.2];rw [hc] at h1 ⊢; rw [skipR_space (l.drop i) 0 hd h1,ih (l.drop i) _ (by omega) (by omega),List.drop_drop];simp only [];omega
      · by_cases h6:(clsR l i).1=6
        · have hm:=cmtR_in l (clsR l i).2 hs.2;rw [skipR_cmt l i hlt h6,ih l _ (by omega) hm.2];rw [hc] at h6 hm ⊢; simp only [] at h6 hm ⊢; rw [cmtR_drop] at hm ⊢; have hm2:=cmtR_in (l.drop i) (clsR (l.drop i) 0).2 (by omega);rw [skipR_cmt (l.drop i) 0 hd h6,ih (l.drop i) _ (by omega) (by omega),List.drop_drop];omega
        · rw [skipR_stop l i h1 h6];rw [hc] at h1 h6;rw [skipR_stop (l.drop i) 0 h1 h6,Nat.add_zero]
  · rw [skipR_end l i hlt,List.drop_eq_nil_of_le (by omega)];rfl
theorem skipR_drop (l:List Int) (i:Nat) (hi:i≤l.length):skipR l i=i+skipR (l.drop i) 0:=skipR_shift _ l i (Nat.le_refl _) hi
def VL (c:List Int):Prop:=lineR c=c∧whileR c commentP 0=c.length
inductive CG:List Int→Prop where
 |nil:CG []
 |space {b:Int} {g:List Int} (h:b=9∨b=10∨b=13∨b=32) (hg:CG g):CG (b::g)
 |cmt {c g:List Int} (h:VL c) (hg:CG g):CG (59::(c++10::g))
theorem CG.app {a b:List Int} (ha:CG a) (hb:CG b):CG (a++b):=by
 induction ha with
 |nil=>exact hb
 |space h _ ih=>exact .space h ih
 |cmt h _ ih=>
  rw [List.cons_append,List.append_assoc,List.cons_append];exact .cmt h ih
def OG (g:List Int):Prop:= ∃a c,CG a∧VL c∧g=a++59::c
theorem OG.close {g:List Int} (h:OG g):CG (g++[10]):=by
 obtain ⟨a,c,ha,hc,rfl⟩:=h;rw [List.append_assoc];exact ha.app (.cmt hc .nil)
theorem lineR_app {c:List Int} (h:lineR c=c) (m:List Int):lineR (c++m)=c++lineR m:=by
 unfold lineR at h ⊢; rw [List.takeWhile_append,h,if_pos rfl]
theorem lineR_ten (m:List Int):lineR (10::m)=[]:=rfl
theorem cmt_ten {c:List Int} (h:VL c) (x m:List Int):cmtR (x++(c++10::m)) x.length=x.length+c.length:=by
 unfold cmtR;rw [List.drop_left,lineR_app h.1,lineR_ten,List.append_nil,h.2]
theorem cmt_end {c:List Int} (h:VL c) (x:List Int):cmtR (x++c) x.length=x.length+c.length:=by
 unfold cmtR;rw [List.drop_left,h.1,h.2]
theorem skip_byte {b:Int} (h:b=9∨b=10∨b=13∨b=32) (l:List Int):skipR (b::l) 0=1+skipR l 0:=by
 have hc:=cls_space h l;rw [skipR_space (b::l) 0 (by simp) (by rw [hc]),hc,skipR_drop (b::l) 1 (by simp)];rfl
theorem skip_CG {g:List Int} (h:CG g) (m:List Int):skipR (g++m) 0=g.length+skipR m 0:=by
 induction h with
 |nil=>simp
 |space h _ ih=>
  rw [List.cons_append,skip_byte h,ih];simp only [List.length_cons];omega
 | @cmt c g h hg ih=>
   have hc:=cls_semi ((c++10::g)++m)
   have hm:cmtR (59::((c++10::g)++m)) 1=1+c.length:=by
    have:=cmt_ten h [59] (g++m);rw [List.length_singleton] at this;rw [←this]
    congr 1
    simp
   have hd:(59::((c++10::g)++m)).drop (1+c.length)=10::(g++m):=by
    rw [Nat.add_comm,List.drop_succ_cons,List.append_assoc,List.drop_left];rfl
   rw [List.cons_append,skipR_cmt _ 0 (by simp) (by rw [hc]),hc,hm,skipR_drop _ (1+c.length) (by simp;omega),hd,skip_byte (Or.inr (Or.inl rfl)),ih];simp only [List.length_cons,List.length_append];omega
theorem skip_OG {g:List Int} (h:OG g):skipR g 0=g.length:=by
 obtain ⟨a,c,ha,hc,rfl⟩:=h;have h6:=cls_semi c;have hm:cmtR (59::c) 1=1+c.length:=cmt_end hc [59];rw [skip_CG ha,skipR_cmt _ 0 (by simp) (by rw [h6]),h6,hm,skipR_end _ _ (by simp;omega)];simp only [List.length_append,List.length_cons];omega
theorem skip_CG0 {g:List Int} (h:CG g):skipR g 0=g.length:=by
 have:=skip_CG h [];rw [List.append_nil] at this;rw [this];rfl
theorem cls_app {u:List Int} (i:Nat) (hi:i≤u.length) (m:List Int) (h:(clsR u i).1≠0):clsR (u++m) i=clsR u i:=by
 have hd:(u++m).drop i=u.drop i++m:=List.drop_append_of_le_length hi;unfold clsR at h ⊢; rw [hd]
 cases hc:decR (u.drop i) with
 |none=>rw [hc] at h;exact absurd rfl h
 |some p=>
  obtain ⟨r,n⟩:=p;rw [decR_app hc m]
theorem cls_at_end (u m:List Int):(clsR (u++m) u.length).1=(clsR m 0).1:=by
 rw [clsR_shift,List.drop_left]
theorem while_app (p:Int→Bool) (hp:p 0=false) (u m:List Int) (hm:p (clsR m 0).1=false): ∀(k i:Nat),u.length-i≤k→i≤u.length→whileR u p i=u.length→whileR (u++m) p i=u.length:=by
 intro k
 induction k with
 |zero=>
  intro i h hi hw
  obtain rfl:i=u.length:=by omega
  exact whileR_stop _ _ _ (by rw [cls_at_end];exact hm)
 |succ k ih=>
  intro i h hi hw;by_cases hlt:i<u.length
  · cases hc:p (clsR u i).1 with
    |false=>rw [whileR_stop u p i hc] at hw;omega
    |true=>
     have hs:=clsR_step u i hlt
     have h0:(clsR u i).1≠0:=fun e=>by rw [e,hp] at hc;cases hc
     have e:=cls_app i hi m h0;rw [whileR_go u p i hlt hc] at hw;rw [whileR_go (u++m) p i (by rw [List.length_append];omega) (by rw [e];exact hc),e];exact ih _ (by omega) hs.2 hw
  · obtain rfl:i=u.length:=by omega
    exact whileR_stop _ _ _ (by rw [cls_at_end];exact hm)
theorem cls_take (l:List Int) (i z:Nat) (hz:z≤l.length) (h:(clsR l i).1≠0) (hd:(clsR l i).2≤z) (hi:i≤z):clsR (l.take z) i=clsR l i:=by
 have e:l.drop i=(l.take z).drop i++l.drop z:=by
  have:=congrArg (List.drop i) (List.take_append_drop z l);rw [List.drop_append_of_le_length (by rw [List.length_take];omega)] at this;exact this.symm
 unfold clsR at h hd ⊢
 cases hc:decR (l.drop i) with
 |none=>rw [hc] at h;exact absurd rfl h
 |some p=>
  obtain ⟨r,n⟩:=p;rw [hc] at hd;simp only [] at hd;have hp:=dec_pos hc;rw [e] at hc;have:=decR_local hc (by rw [List.length_drop,List.length_take];omega);rw [this]
theorem while_take (p:Int→Bool) (hp:p 0=false) (l:List Int): ∀(k i:Nat),l.length-i≤k→i≤l.length→whileR (l.take (whileR l p i)) p i=whileR l p i:=by
 intro k
 induction k with
 |zero=>
  intro i h hi;rw [whileR_end l p i (by omega)];exact whileR_end _ _ _ (by rw [List.length_take];omega)
 |succ k ih=>
  intro i h hi;by_cases hlt:i<l.length
  · cases hc:p (clsR l i).1 with
    |false=>
     rw [whileR_stop l p i hc];exact whileR_end _ _ _ (by rw [List.length_take];omega)
    |true=>
     have hs:=clsR_step l i hlt
     have h0:(clsR l i).1≠0:=fun e=>by rw [e,hp] at hc;cases hc
     rw [whileR_go l p i hlt hc];have hin:=whileR_in l p (clsR l i).2 hs.2;have e:=cls_take l i (whileR l p (clsR l i).2) hin.2 h0 hin.1 (by omega);rw [whileR_go (l.take (whileR l p (clsR l i).2)) p i (by rw [List.length_take];omega) (by rw [e];exact hc),e];exact ih _ (by omega) hs.2
  · rw [whileR_end l p i hlt];exact whileR_end _ _ _ (by rw [List.length_take];omega)
theorem while_then (p:Int→Bool) (hp:p 0=false) (l:List Int): ∀(k i:Nat),l.length-i≤k→i≤l.length→p (clsR (l.drop (whileR l p i)) 0).1=false:=by
 intro k
 induction k with
 |zero=>
  intro i h hi;rw [whileR_end l p i (by omega),List.drop_eq_nil_of_le (by omega)];exact hp
 |succ k ih=>
  intro i h hi;by_cases hlt:i<l.length
  · cases hc:p (clsR l i).1 with
    |false=>
     rw [whileR_stop l p i hc];rw [clsR_shift] at hc;exact hc
    |true=>
     have hs:=clsR_step l i hlt;rw [whileR_go l p i hlt hc];exact ih _ (by omega) hs.2
  · rw [whileR_end l p i hlt,List.drop_eq_nil_of_le (by omega)];exact hp
def NW (m:List Int):Prop:=wordP (clsR m 0).1=false
theorem NW.nil:NW []:=rfl
theorem NW.pre {a b:List Int} (h:NW (a++b)):NW a:=by
 unfold NW at h ⊢; by_cases h0:(clsR a 0).1=0
 · rw [h0];rfl
 · rw [cls_app 0 (Nat.zero_le _) b h0] at h;exact h
theorem hashR_cases (s:ByteArray) (h:(hashR s).2.2.2=0):(s.toList=[35,59]∧hashR s=(4,0,⟨#[]⟩,0))∨(s.toList=[35,116]∧hashR s=(6,1,⟨#[]⟩,0))∨(s.toList=[35,102]∧hashR s=(6,0,⟨#[]⟩,0)):=by
 unfold hashR lexer_hash.f at h ⊢
 by_cases c1:s.toList=[35,59]
 · rw [if_pos c1];exact Or.inl ⟨c1,rfl⟩
 · rw [if_neg c1] at h ⊢
   by_cases c2:s.toList=[35,116]
   · rw [if_pos c2];exact Or.inr (Or.inl ⟨c2,rfl⟩)
   · rw [if_neg c2] at h ⊢
     by_cases c3:s.toList=[35,102]
     · rw [if_pos c3];exact Or.inr (Or.inr ⟨c3,rfl⟩)
     · rw [if_neg c3] at h;exact absurd h (by decide)
theorem wordR_eq (s:ByteArray) (h:s.size≤1000000):wordR s=if (intF s.data.toList).2=0 then (5,(intF s.data.toList).1,⟨#[]⟩,0) else if (intF s.data.toList).2=7 then (0,0,⟨#[]⟩,7) else if s.size>24 then (0,0,⟨#[]⟩,3) else (7,0,s,0):=by
 have hI:lexer_Integer.f s=some (intF s.data.toList):=by unfold lexer_Integer.f;rw [if_pos h]
 unfold wordR lexer_token.f;rw [hI];simp only [Option.bind_some];by_cases c1:(intF s.data.toList).2=0
 · rw [if_pos c1,if_pos c1]
 · rw [if_neg c1,if_neg c1];by_cases c2:(intF s.data.toList).2=7
   · rw [if_pos c2,if_pos c2,c2]
   · rw [if_neg c2,if_neg c2];by_cases c3:s.size>24
     · rw [if_pos c3,if_pos (by omega)]
     · rw [if_neg c3,if_neg (by omega)]
theorem strOfNums_list {u:List Int} (hb:Bytes u) {v:List Nat} (hv: ∀x∈v,x<256) (h:(strOfNums u).toList=v.map UInt8.ofNat):u=v.map (fun x:Nat=>(x:Int)):=by
 rw [Lib.strOfNums_toList] at h;unfold Lib.bytesOf at h
 induction u generalizing v with
 |nil=>
  cases v with
  |nil=>rfl
  |cons y v=>simp at h
 |cons x u ih=>
  cases v with
  |nil=>simp at h
  |cons y v=>
   simp only [List.map_cons,List.cons.injEq] at h ⊢; obtain ⟨h1,h2⟩:=h;have hx:=hb x (List.mem_cons_self ..);have hy:=hv y (List.mem_cons_self ..);refine ⟨?_,ih (fun z hz=>hb z (List.mem_cons_of_mem _ hz)) (fun z hz=>hv z (List.mem_cons_of_mem _ hz)) h2⟩;have:=congrArg UInt8.toNat h1;rw [UInt8.toNat_ofNat',UInt8.toNat_ofNat'] at this;omega
theorem sub_whole (u m:List Int):sub (u++m) 0 u.length=u:=by
 unfold sub;simp
theorem sub_all (u:List Int):sub u 0 u.length=u:=by
 have:=sub_whole u []
 rwa [List.append_nil] at this
theorem sub_take (l:List Int) (z:Nat):sub l 0 z=l.take z:=by unfold sub;simp
theorem rd_app0 (u m:List Int) (h:0<u.length) (j:Nat) (hj:j<u.length):rd (u++m) j=rd u j:=by
 unfold rd;rw [List.getD_eq_getElem?_getD,List.getD_eq_getElem?_getD,List.getElem?_append_left (by simpa using hj)]
structure TK (u:List Int) (k n:Int) (s:ByteArray):Prop where
 kind:kindR u 0 (clsR u 0).1 (clsR u 0).2=(k,n,s,0)
 fin:endR u 0 (clsR u 0).1 (clsR u 0).2=u.length
 bytes:Bytes u
 small:u.length≤1000000
theorem TK.cls {u:List Int} {k n:Int} {s:ByteArray} (h:TK u k n s):(clsR u 0).1≠0∧(clsR u 0).1≠1∧(clsR u 0).1≠6:=by
 have hk:=h.kind
 refine ⟨fun e=>?_,fun e=>?_,fun e=>?_⟩<;>(rw [e] at hk;have:=congrArg (fun x=>x.2.2.2) hk;exact absurd (show (6:Int)=0 from this) (by decide))
theorem TK.ne {u:List Int} {k n:Int} {s:ByteArray} (h:TK u k n s):0<u.length:=by
 cases u with
 |nil=>exact absurd rfl h.cls.1
 |cons x t=>simp
def Wk (k:Int):Prop:=k=5∨k=6∨k=7
theorem wordP_cases {c:Int} (h:wordP c=true):c=9∨c=7∨c=8:=by
 unfold wordP at h;simpa using h
theorem kind_word {l:List Int} {i:Nat} {c:Int} {d:Nat} (h:wordP c=true):kindR l i c d=wordR (strOfNums (sub l i (endR l i c d)))∧endR l i c d=whileR l wordP i:=by
 have h2:c≠2∧c≠3∧c≠4∧c≠5:=by rcases wordP_cases h with rfl|rfl|rfl<;>decide
 refine ⟨?_,?_⟩
 · unfold kindR;rw [if_neg h2.1,if_neg h2.2.1,if_neg h2.2.2.1,if_neg h2.2.2.2,if_pos h]
 · unfold endR;rw [if_neg h2.2.2.2,if_pos h]
theorem kind_else {l:List Int} {i:Nat} {c:Int} {d:Nat} (h2:c≠2) (h3:c≠3) (h4:c≠4) (h5:c≠5) (hw:wordP c=false):kindR l i c d=(0,0,⟨#[]⟩,6):=by
 unfold kindR;rw [if_neg h2,if_neg h3,if_neg h4,if_neg h5,if_neg (by rw [hw];decide)]
theorem cls_five {l:List Int} (hb:Bytes l) (h:(clsR l 0).1=5): ∃t,l=35::t∧(clsR l 0).2=1:=by
 cases hc:decR l with
 |none=>rw [cls_none hc] at h;simp at h
 |some p=>
  obtain ⟨r,n⟩:=p;rw [cls_some hc] at h ⊢
  have h1:r=35:=by
   have h:clsOf r=5:=h;unfold clsOf at h
   split at h
   · omega
   · split at h
     · omega
     · unfold clsList at h;simp only [clsScan] at h
       repeat' split at h
       all_goals first
         |omega
         |(rename_i c;rw [hasB_iff] at c
           obtain ⟨b,hb,rfl⟩:=c;simp only [List.mem_cons,List.not_mem_nil,or_false] at hb;subst hb
           rfl)
  obtain ⟨t,rfl,rfl⟩:=decR_small hb hc (by omega);exact ⟨t,by rw [h1],rfl⟩
theorem hash_list {u:List Int} (hb:Bytes u) (h:(hashR (strOfNums u)).2.2.2=0):(u=[35,59]∧hashR (strOfNums u)=(4,0,⟨#[]⟩,0))∨(u=[35,116]∧hashR (strOfNums u)=(6,1,⟨#[]⟩,0))∨(u=[35,102]∧hashR (strOfNums u)=(6,0,⟨#[]⟩,0)):=by
 rcases hashR_cases _ h with ⟨h1,h2⟩|⟨h1,h2⟩|⟨h1,h2⟩
 · exact Or.inl ⟨strOfNums_list hb (v:=[35,59]) (by decide) (h1.trans (by decide)),h2⟩
 · exact Or.inr (Or.inl ⟨strOfNums_list hb (v:=[35,116]) (by decide) (h1.trans (by decide)),h2⟩)
 · exact Or.inr (Or.inr ⟨strOfNums_list hb (v:=[35,102]) (by decide) (h1.trans (by decide)),h2⟩)
theorem word_kind {s:ByteArray} (hs:s.size≤1000000) (h:(wordR s).2.2.2=0):(wordR s).1=5∨(wordR s).1=7:=by
 rw [wordR_eq s hs] at h ⊢
 split at h
 · rename_i c;rw [if_pos c];exact Or.inl rfl
 · rename_i c
   rw [if_neg c]
   split at h
   · exact absurd h (by decide)
   · rename_i c2
     rw [if_neg c2]
     split at h
     · exact absurd h (by decide)
     · rename_i c3
       rw [if_neg c3];exact Or.inr rfl
theorem endR_plain {l:List Int} {i:Nat} {c:Int} {d:Nat} (h5:c≠5) (hw:wordP c=false):endR l i c d=d:=by
 unfold endR;rw [if_neg h5,if_neg (by rw [hw];decide)]
theorem kind_two (l:List Int) (i d:Nat):kindR l i 2 d=(1,(if rd l i=40 then 1 else if rd l i=91 then 2 else 0),⟨#[]⟩,0):=by
 unfold kindR;rw [if_pos rfl]
theorem kind_three (l:List Int) (i d:Nat):kindR l i 3 d=(2,(if rd l i=41 then 1 else if rd l i=93 then 2 else 0),⟨#[]⟩,0):=by
 unfold kindR;rw [if_neg (by decide),if_pos rfl]
theorem kind_four (l:List Int) (i d:Nat):kindR l i 4 d=(3,0,⟨#[]⟩,0):=by
 unfold kindR;rw [if_neg (by decide),if_neg (by decide),if_pos rfl]
theorem kind_five (l:List Int) (i d:Nat):kindR l i 5 d=hashR (strOfNums (sub l i (endR l i 5 d))):=by
 unfold kindR;rw [if_neg (by decide),if_neg (by decide),if_neg (by decide),if_pos rfl]
theorem TK.app {u:List Int} {k n:Int} {s:ByteArray} (h:TK u k n s) (m:List Int) (hm:Wk k→NW m):
 clsR (u++m) 0=clsR u 0∧kindR (u++m) 0 (clsR u 0).1 (clsR u 0).2=(k,n,s,0)∧endR (u++m) 0 (clsR u 0).1 (clsR u 0).2=u.length:=by
 have hc:=h.cls;have hne:=h.ne;have hk:=h.kind;have hf:=h.fin;refine ⟨cls_app 0 (Nat.zero_le _) m hc.1,?_⟩;by_cases c2:(clsR u 0).1=2
 · rw [c2] at hk hf ⊢; have e:rd (u++m) ((0:Nat):Int)=rd u ((0:Nat):Int):=rd_app0 u m hne 0 hne;rw [endR_plain (by decide) rfl] at hf;rw [kind_two] at hk;rw [endR_plain (by decide) rfl,kind_two,e];exact ⟨hk,hf⟩
 by_cases c3:(clsR u 0).1=3
 · rw [c3] at hk hf ⊢; have e:rd (u++m) ((0:Nat):Int)=rd u ((0:Nat):Int):=rd_app0 u m hne 0 hne;rw [endR_plain (by decide) rfl] at hf;rw [kind_three] at hk;rw [endR_plain (by decide) rfl,kind_three,e];exact ⟨hk,hf⟩
 by_cases c4:(clsR u 0).1=4
 · rw [c4] at hk hf ⊢; rw [endR_plain (by decide) rfl] at hf;rw [kind_four] at hk;rw [endR_plain (by decide) rfl,kind_four];exact ⟨hk,hf⟩
 by_cases c5:(clsR u 0).1=5
 · obtain ⟨t,ht,hd1⟩:=cls_five h.bytes c5;rw [c5,hd1] at hk hf ⊢; have hkk:=kind_five u 0 1;rw [hf,sub_all] at hkk
   have hek:endR (u++m) 0 5 1=u.length:=by
    have he:(hashR (strOfNums u)).2.2.2=0:=by rw [←hkk,hk]
    rcases hash_list h.bytes he with ⟨rfl,e⟩|⟨rfl,e⟩|⟨rfl,e⟩
    · unfold endR;rw [if_pos rfl,if_pos ⟨by simp,rfl⟩];rfl
    · have hn:NW m:=hm (by rw [e,hk] at hkk;have:=congrArg Prod.fst hkk;exact Or.inr (Or.inl this));unfold endR at hf ⊢; rw [if_pos rfl,if_neg (fun hh=>absurd (show (116:Int)=59 from hh.2) (by decide))] at hf ⊢; exact while_app wordP rfl [35,116] m hn 2 1 (by decide) (by decide) hf
    · have hn:NW m:=hm (by rw [e,hk] at hkk;have:=congrArg Prod.fst hkk;exact Or.inr (Or.inl this));unfold endR at hf ⊢; rw [if_pos rfl,if_neg (fun hh=>absurd (show (102:Int)=59 from hh.2) (by decide))] at hf ⊢; exact while_app wordP rfl [35,102] m hn 2 1 (by decide) (by decide) hf
   refine ⟨?_,hek⟩;rw [kind_five,hek,sub_whole,←hkk,hk]
 · cases hw:wordP (clsR u 0).1 with
   |false=>
    rw [kind_else c2 c3 c4 c5 hw] at hk;exact absurd (congrArg (fun x=>x.2.2.2) hk) (show (6:Int)≠0 by decide)
   |true=>
    obtain ⟨e1,e2⟩:=kind_word (l:=u) (i:=0) (d:=(clsR u 0).2) hw;obtain ⟨e3,e4⟩:=kind_word (l:=u++m) (i:=0) (d:=(clsR u 0).2) hw;rw [hf,sub_all] at e1;rw [hf] at e2
    have hs:(strOfNums u).size≤1000000:=by rw [strOfNums_size];exact h.small
    have hkd:=word_kind hs (by rw [←e1,hk]);rw [←e1,hk] at hkd;have hn:NW m:=hm (by rcases hkd with e|e;exact Or.inl e;exact Or.inr (Or.inr e));have hwh:=while_app wordP rfl u m hn u.length 0 (by omega) (Nat.zero_le _) e2.symm;rw [hwh] at e4;refine ⟨?_,e4⟩;rw [e3,e4,sub_whole,←e1,hk]
theorem take_len {l:List Int} {z:Nat} (h:z≤l.length):(l.take z).length=z:=by rw [List.length_take];omega
theorem rd_take (l:List Int) (z j:Nat) (hj:j<z) (hz:z≤l.length):rd (l.take z) j=rd l j:=by
 unfold rd;rw [List.getD_eq_getElem?_getD,List.getD_eq_getElem?_getD,List.getElem?_take,if_pos (by simpa using hj)]
theorem tok_mk (r:List Int) (hb:Bytes r) (hsm:r.length≤1000000) (he:(kindR r 0 (clsR r 0).1 (clsR r 0).2).2.2.2=0) (h0:(clsR r 0).1≠0) (z:Nat) (hz0:z≤r.length) (hdz:(clsR r 0).2≤z)
 (hk:kindR (r.take z) 0 (clsR r 0).1 (clsR r 0).2=kindR r 0 (clsR r 0).1 (clsR r 0).2) (hf:endR (r.take z) 0 (clsR r 0).1 (clsR r 0).2=z) (hw:Wk (kindR r 0 (clsR r 0).1 (clsR r 0).2).1→NW (r.drop z)):
 ∃u m k n s,r=u++m∧TK u k n s∧(Wk k→NW m):=by
 have mk:clsR (r.take z) 0=clsR r 0:=cls_take r 0 z hz0 h0 hdz (Nat.zero_le _);refine ⟨r.take z,r.drop z,(kindR r 0 (clsR r 0).1 (clsR r 0).2).1,(kindR r 0 (clsR r 0).1 (clsR r 0).2).2.1,(kindR r 0 (clsR r 0).1 (clsR r 0).2).2.2.1,(List.take_append_drop z r).symm,⟨?_,by rw [mk,hf,take_len hz0],hb.take z,by rw [take_len hz0];omega⟩,hw⟩;rw [mk,hk,←he]
theorem tok_cut (r:List Int) (hb:Bytes r) (hsm:r.length≤1000000) (he:(kindR r 0 (clsR r 0).1 (clsR r 0).2).2.2.2=0):
 ∃u m k n s,r=u++m∧TK u k n s∧(Wk k→NW m):=by
 have h0:(clsR r 0).1≠0:=fun e=>by rw [e] at he;exact absurd (show (6:Int)=0 from he) (by decide)
 have hne:0<r.length:=by
  cases r with
  |nil=>exact absurd rfl h0
  |cons x t=>simp
 have hst:=clsR_step r 0 hne;have hmk:=tok_mk r hb hsm he h0;by_cases c2:(clsR r 0).1=2
 · refine hmk (clsR r 0).2 hst.2 (Nat.le_refl _) ?_ ?_ ?_
   · rw [c2,kind_two,kind_two,rd_take r (clsR r 0).2 0 hst.1 hst.2]
   · rw [c2,endR_plain (by decide) rfl]
   · rw [c2,kind_two];exact fun h=>absurd (show Wk 1 from h) (by unfold Wk;omega)
 by_cases c3:(clsR r 0).1=3
 · refine hmk (clsR r 0).2 hst.2 (Nat.le_refl _) ?_ ?_ ?_
   · rw [c3,kind_three,kind_three,rd_take r (clsR r 0).2 0 hst.1 hst.2]
   · rw [c3,endR_plain (by decide) rfl]
   · rw [c3,kind_three];exact fun h=>absurd (show Wk 2 from h) (by unfold Wk;omega)
 by_cases c4:(clsR r 0).1=4
 · refine hmk (clsR r 0).2 hst.2 (Nat.le_refl _) ?_ ?_ ?_
   · rw [c4,kind_four,kind_four]
   · rw [c4,endR_plain (by decide) rfl]
   · rw [c4,kind_four];exact fun h=>absurd (show Wk 3 from h) (by unfold Wk;omega)
 by_cases c5:(clsR r 0).1=5
 · obtain ⟨t,ht,hd1⟩:=cls_five hb c5;rw [c5,hd1] at he;rw [hd1] at hst;by_cases hs:1<r.length∧rd r (1:Nat)=59
   · have ez:endR r 0 5 1=2:=by unfold endR;rw [if_pos rfl,if_pos hs]
     have eu:endR (r.take 2) 0 5 1=2:=by unfold endR;rw [if_pos rfl,if_pos ⟨by rw [take_len (by omega)];omega,by rw [rd_take r 2 1 (by omega) (by omega)];exact hs.2⟩]
     have ek:kindR (r.take 2) 0 5 1=kindR r 0 5 1:=by rw [kind_five,kind_five,eu,ez,sub_take,sub_take,List.take_take,Nat.min_self]
     refine hmk 2 (by omega) (by rw [hd1];omega) (by rw [c5,hd1];exact ek) (by rw [c5,hd1];exact eu) ?_;rw [c5,hd1];intro hw
     exfalso
     have he2:(hashR (strOfNums (r.take 2))).2.2.2=0:=by rw [kind_five,ez,sub_take] at he;exact he
     have hk2:kindR r 0 5 1=hashR (strOfNums (r.take 2)):=by rw [kind_five,ez,sub_take]
     have h59:=rd_take r 2 1 (by omega) (by omega);rw [hs.2] at h59
     rcases hash_list (hb.take 2) he2 with ⟨e,e3⟩|⟨e,e3⟩|⟨e,e3⟩
     · rw [hk2,e3] at hw;exact absurd (show Wk 4 from hw) (by unfold Wk;omega)
     · rw [e] at h59;exact absurd h59 (by decide)
     · rw [e] at h59;exact absurd h59 (by decide)
   · have ez:endR r 0 5 1=whileR r wordP 1:=by unfold endR;rw [if_pos rfl,if_neg hs]
     have hin:=whileR_in r wordP 1 (by omega)
     have eu:endR (r.take (whileR r wordP 1)) 0 5 1=whileR r wordP 1:=by
        unfold endR;rw [if_pos rfl,if_neg (fun h=>hs ⟨by rw [take_len hin.2] at h;omega,by rw [take_len hin.2] at h;rw [rd_take r _ 1 h.1 hin.2] at h;exact h.2⟩)];exact while_take wordP rfl r r.length 1 (by omega) (by omega)
     have ek:kindR (r.take (whileR r wordP 1)) 0 5 1=kindR r 0 5 1:=by rw [kind_five,kind_five,eu,ez,sub_take,sub_take,List.take_take,Nat.min_self]
     exact hmk (whileR r wordP 1) hin.2 (by rw [hd1];exact hin.1) (by rw [c5,hd1];exact ek) (by rw [c5,hd1];exact eu) (fun _=>while_then wordP rfl r r.length 1 (by omega) (by omega))
 · cases hw:wordP (clsR r 0).1 with
   |false=>
    rw [kind_else c2 c3 c4 c5 hw] at he;exact absurd he (show (6:Int)≠0 by decide)
   |true=>
    obtain ⟨e1,e2⟩:=kind_word (l:=r) (i:=0) (d:=(clsR r 0).2) hw;have hin:=whileR_in r wordP 0 (Nat.zero_le _);have hgo:=whileR_go r wordP 0 hne hw;have hin2:=whileR_in r wordP (clsR r 0).2 hst.2;obtain ⟨e3,e4⟩:=kind_word (l:=r.take (whileR r wordP 0)) (i:=0) (d:=(clsR r 0).2) hw;have hwt:=while_take wordP rfl r r.length 0 (by omega) (Nat.zero_le _);rw [hwt] at e4;refine hmk (whileR r wordP 0) hin.2 (by rw [hgo];exact hin2.1) ?_ e4 (fun _=>while_then wordP rfl r r.length 0 (by omega) (Nat.zero_le _));rw [e3,e1,e4,e2,sub_take,sub_take,List.take_take,Nat.min_self]
theorem lineR_all: ∀(l:List Int),∀x∈lineR l,x≠10
 |[],x,h=>by cases h
 |y::l,x,h=>by
  unfold lineR at h;by_cases c:y=10
  · subst c;rw [List.takeWhile_cons_of_neg (by decide)] at h;cases h
  · rw [List.takeWhile_cons_of_pos (by simpa using c)] at h
    rcases List.mem_cons.1 h with rfl|h
    · exact c
    · exact lineR_all l x h
theorem lineR_self: ∀(c:List Int),(∀x∈c,x≠10)→lineR c=c
 |[],_=>rfl
 |y::c,h=>by
  have hy:=h y (List.mem_cons_self ..);have ih:=lineR_self c (fun x hx=>h x (List.mem_cons_of_mem _ hx));unfold lineR at ih ⊢; rw [List.takeWhile_cons_of_pos (by simpa using hy),ih]
theorem line_split: ∀(t:List Int),∃rest,t=lineR t++rest∧(rest=[]∨ ∃r',rest=10::r')
 |[]=>⟨[],rfl,Or.inl rfl⟩
 |y::t=>by
  by_cases c:y=10
  · subst c;exact ⟨10::t,by rw [lineR_ten];rfl,Or.inr ⟨t,rfl⟩⟩
  · obtain ⟨rest,h1,h2⟩:=line_split t;refine ⟨rest,?_,h2⟩
    have:lineR (y::t)=y::lineR t:=by unfold lineR;rw [List.takeWhile_cons_of_pos (by simpa using c)]
    rw [this,List.cons_append,←h1]
theorem VL_take (t:List Int):VL ((lineR t).take (whileR (lineR t) commentP 0)):=by
 refine ⟨lineR_self _ (fun x hx=>lineR_all t x (List.mem_of_mem_take hx)),?_⟩;have:=while_take commentP rfl (lineR t) (lineR t).length 0 (by omega) (Nat.zero_le _);rw [this,take_len (whileR_in _ _ _ (Nat.zero_le _)).2]
theorem gap_cut: ∀(k:Nat) (l:List Int),l.length≤k→Bytes l→ ∃g r,l=g++r∧((CG g∧(r=[]∨((clsR r 0).1≠1∧(clsR r 0).1≠6)))∨(OG g∧(r=[]∨decR r=none))):=by
 intro k
 induction k with
 |zero=>
  intro l h hb;obtain rfl:l=[]:=List.eq_nil_of_length_eq_zero (by omega);exact ⟨[],[],rfl,Or.inl ⟨.nil,Or.inl rfl⟩⟩
 |succ k ih=>
  intro l h hb;by_cases c1:(clsR l 0).1=1
  · obtain ⟨b,t,rfl,hbt⟩:=cls_is_one hb c1;obtain ⟨g,r,rfl,hg⟩:=ih t (by simpa using h) (fun x hx=>hb x (List.mem_cons_of_mem _ hx));refine ⟨b::g,r,rfl,?_⟩
    rcases hg with ⟨h1,h2⟩|⟨⟨a,c,ha,hc,rfl⟩,h2⟩
    · exact Or.inl ⟨.space hbt h1,h2⟩
    · exact Or.inr ⟨⟨b::a,c,.space hbt ha,hc,rfl⟩,h2⟩
  · by_cases c6:(clsR l 0).1=6
    · obtain ⟨t,rfl⟩:=cls_is_six hb c6
      have hbt:Bytes t:=fun x hx=>hb x (List.mem_cons_of_mem _ hx)
      obtain ⟨rest,h1,h2⟩:=line_split t;have hV:=VL_take t;have hin:=(whileR_in (lineR t) commentP 0 (Nat.zero_le _)).2;have hth:=while_then commentP rfl (lineR t) (lineR t).length 0 (by omega) (Nat.zero_le _);generalize lineR t=line at *; generalize whileR line commentP 0=e at *; by_cases hlt:e<line.length
      · have hz:decR (line.drop e)=none:=cls_zero (by unfold commentP at hth;simpa using hth);refine ⟨59::line.take e,line.drop e++rest,by rw [h1,List.cons_append,←List.append_assoc,List.take_append_drop],Or.inr ⟨⟨[],line.take e,.nil,hV,rfl⟩,Or.inr ?_⟩⟩
        rcases h2 with rfl|⟨r',rfl⟩
        · rw [List.append_nil];exact hz
        · refine decR_none_before ?_ (fun hh=>by have:=congrArg List.length hh;rw [List.length_drop] at this;simp at this;omega) (by decide) hz;intro x hx;refine hbt x ?_;rw [h1]
          rcases List.mem_append.1 hx with hx|hx
          · exact List.mem_append.2 (Or.inl (List.mem_of_mem_drop hx))
          · exact List.mem_append.2 (Or.inr hx)
      · have ee:line.take e=line:=List.take_of_length_le (by omega);rw [ee] at hV
        rcases h2 with rfl|⟨r',rfl⟩
        · rw [List.append_nil] at h1;subst h1;exact ⟨59::t,[],by simp,Or.inr ⟨⟨[],t,.nil,hV,rfl⟩,Or.inl rfl⟩⟩
        · have hlen:=congrArg List.length h1;rw [List.length_append,List.length_cons] at hlen;simp only [List.length_cons] at h;obtain ⟨g,r,rfl,hg⟩:=ih r' (by omega) (fun x hx=>hbt x (by rw [h1];exact List.mem_append.2 (Or.inr (List.mem_cons_of_mem _ hx))));refine ⟨59::(line++10::g),r,by rw [h1];simp,?_⟩
          rcases hg with ⟨h3,h4⟩|⟨⟨a,c,ha,hc,rfl⟩,h4⟩
          · exact Or.inl ⟨.cmt hV h3,h4⟩
          · exact Or.inr ⟨⟨59::(line++10::a),c,.cmt hV ha,hc,by simp⟩,h4⟩
    · exact ⟨[],l,rfl,Or.inl ⟨.nil,Or.inr ⟨c1,c6⟩⟩⟩
end Go.Proofs.YtdffphkbidfejaaDoor.Q
end
