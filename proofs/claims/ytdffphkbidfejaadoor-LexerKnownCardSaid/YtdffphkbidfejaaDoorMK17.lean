import Derived.BigRegion
import Derived.Deep.Cut
import Derived.LoopTactic
import Derived.Test.YtdffphkbidfejaaDoorMK16
import Derived.Test.YtdffphkbidfejaaDoorMK5
import Derived.Test.YtdffphkbidfejaaDoorMK8
section
namespace Go.Proofs.YtdffphkbidfejaaDoor.Q
open Go.RowKit Go.Proofs.YtdffphkbidfejaaDoorW.PrintWords Go.Proofs.YtdffphkbidfejaaDoorW.PrintLast Go.Proofs.YtdffphkbidfejaaDoorW.PrintMore
set_option linter.unusedVariables false
set_option linter.unusedSimpArgs false
theorem lcmt_any (b off c n:Nat) (l:List Int) (i:Nat) (w:World) (hn:n=l.length) (hi:i≤n) (hcap:n≤c) (hsz:n≤1000000) (hc:BC w b off l) (hb:Bytes l) (hG:G0 w):
 Calls Tryd.prog 25 #[.slice (some ⟨b,off,none⟩) n c,.int .i64 i] w fun e w'=>e= .returned (.int .i64 (cmtR l i:Nat))∧Below w.heap.size w w':=by
 by_cases h:i<n
 · exact lcmt_in b off c n l i w hn h hcap hsz hc hb hG
 · obtain rfl:i=n:=by omega
   have e:cmtR l i=i:=by
    unfold cmtR;rw [List.drop_eq_nil_of_le (by omega)];rfl
   rw [e];exact lcmt_end b off c i w hcap hsz hG
theorem conv_sub (b off c:Nat) (l:List Int) (i j:Nat) (W:World) (hij:i≤j) (hj:j≤l.length) (hc:BC W b off l):
 (convert 23 9 (.slice (some ⟨b,off+i,none⟩) (j-i) (c-i))).run Tryd.prog W= .ok (.string (strOfNums (sub l i j))) W:=by
 have hl:(sub l i j).length=j-i:=by unfold sub;rw [List.length_take,List.length_drop];omega
 refine run_convert_bytes_arg W 23 5 Tryd.underlying23 Tryd.underlying5 b (off+i) (j-i) (c-i) (sub l i j) hl (fun k hk=>?_) 9 Tryd.underlying9;have:=hc (i+k) (by omega);rw [Nat.add_assoc,this]
 congr 2
 unfold sub rd;rw [List.getD_eq_getElem?_getD,List.getD_eq_getElem?_getD,List.getElem?_take,if_pos hk,List.getElem?_drop];rfl
theorem blk_five0 {w:World} {g:Nat} {t:TypeId} {a b c d e u:Value} (h:w.heap[g]? =some (.cells #[a,b,c,d,e] t (0,0))):(w.setCell ⟨g,0,none⟩ u).heap[g]? =some (.cells #[u,b,c,d,e] t (0,0)):=blk_set h 0 u
theorem blk_five1 {w:World} {g:Nat} {t:TypeId} {a b c d e u:Value} (h:w.heap[g]? =some (.cells #[a,b,c,d,e] t (0,0))):(w.setCell ⟨g,1,none⟩ u).heap[g]? =some (.cells #[a,u,c,d,e] t (0,0)):=blk_set h 1 u
theorem blk_five2 {w:World} {g:Nat} {t:TypeId} {a b c d e u:Value} (h:w.heap[g]? =some (.cells #[a,b,c,d,e] t (0,0))):(w.setCell ⟨g,2,none⟩ u).heap[g]? =some (.cells #[a,b,u,d,e] t (0,0)):=blk_set h 2 u
theorem blk_five3 {w:World} {g:Nat} {t:TypeId} {a b c d e u:Value} (h:w.heap[g]? =some (.cells #[a,b,c,d,e] t (0,0))):(w.setCell ⟨g,3,none⟩ u).heap[g]? =some (.cells #[a,b,c,u,e] t (0,0)):=blk_set h 3 u
theorem blk_five4 {w:World} {g:Nat} {t:TypeId} {a b c d e u:Value} (h:w.heap[g]? =some (.cells #[a,b,c,d,e] t (0,0))):(w.setCell ⟨g,4,none⟩ u).heap[g]? =some (.cells #[a,b,c,d,u] t (0,0)):=blk_set h 4 u
theorem blk_two0 {w:World} {g:Nat} {t:TypeId} {a b u:Value} (h:w.heap[g]? =some (.cells #[a,b] t (0,0))):(w.setCell ⟨g,0,none⟩ u).heap[g]? =some (.cells #[u,b] t (0,0)):=blk_set h 0 u
theorem blk_two1 {w:World} {g:Nat} {t:TypeId} {a b u:Value} (h:w.heap[g]? =some (.cells #[a,b] t (0,0))):(w.setCell ⟨g,1,none⟩ u).heap[g]? =some (.cells #[a,u] t (0,0)):=blk_set h 1 u
theorem blk_f {w:World} {g g':Nat} {t:TypeId} {cs:Array Value} {i:Nat} {u:Value} (h:w.heap[g]? =some (.cells cs t (0,0))) (hp:g≠g'):(w.setCell ⟨g',i,none⟩ u).heap[g]? =some (.cells cs t (0,0)):=blk_far h hp u
theorem first_err {l:List Int} {i:Nat} (h:(kindR l i (clsR l i).1 (clsR l i).2).2.2.2≠0):firstR l i=((0:Int),(0:Int),(0:Int),(0:Int),(⟨#[]⟩:ByteArray),(i:Int),((endR l i (clsR l i).1 (clsR l i).2:Nat):Int),(kindR l i (clsR l i).1 (clsR l i).2).2.2.2):=by
 unfold firstR;simp only [];rw [if_neg h]
theorem first_ok {l:List Int} {i:Nat} (h:(kindR l i (clsR l i).1 (clsR l i).2).2.2.2=0):firstR l i=((kindR l i (clsR l i).1 (clsR l i).2).1,(i:Int),((endR l i (clsR l i).1 (clsR l i).2:Nat):Int),(kindR l i (clsR l i).1 (clsR l i).2).2.1,(kindR l i (clsR l i).1 (clsR l i).2).2.2.1,(0:Int),(0:Int),(0:Int)):=by
 unfold firstR;simp only [];rw [if_pos h]
def openN (x:Int):Int:=if x=40 then 1 else if x=91 then 2 else 0
def closeN (x:Int):Int:=if x=41 then 1 else if x=93 then 2 else 0
theorem u8_of (x:Int) (hx:0≤x∧x<256) (m:Nat) (hm:m<256):(UInt8.ofNat m==x.toNat.toUInt8)=decide (x=(m:Int)):=by
 by_cases c:x=(m:Int)
 · subst c;rw [decide_eq_true rfl,beq_iff_eq];rfl
 · rw [decide_eq_false c,beq_eq_false_iff_ne];intro hh;have:=congrArg UInt8.toNat hh;rw [UInt8.toNat_ofNat',Nat.toUInt8_eq,UInt8.toNat_ofNat'] at this;omega
theorem idx_two (p q:Nat) (hp:p<256) (hq:q<256) (x:Int) (hx:0≤x∧x<256):Lib.indexByte [UInt8.ofNat p,UInt8.ofNat q] x.toNat.toUInt8=if x=(p:Int) then 0 else if x=(q:Int) then 1 else-1:=by
 have e1:=u8_of x hx p hp;have e2:=u8_of x hx q hq
 by_cases c:x=(p:Int)
 · rw [decide_eq_true c] at e1;rw [if_pos c];simp [Lib.indexByte,e1]
 · rw [decide_eq_false c] at e1;rw [if_neg c]
   by_cases d:x=(q:Int)
   · rw [decide_eq_true d] at e2;rw [if_pos d];simp [Lib.indexByte,e1,e2]
   · rw [decide_eq_false d] at e2;rw [if_neg d];simp [Lib.indexByte,e1,e2]
theorem idx_open (x:Int) (hx:0≤x∧x<256): ∃ix:Int, -1≤ix∧ix≤1∧1+ix=openN x∧ ∀W:World,Calls Tryd.prog 26 #[.string ⟨#[40,91]⟩,.int .u8 x] W fun e w'=>e= .returned (.int .i64 ix)∧w'=W:=by
 have h:=idx_two 40 91 (by decide) (by decide) x hx;refine ⟨_,?_,?_,?_,fun W=>Any.strings_IndexByte Tryd.lays137 ⟨#[40,91]⟩ x W⟩
 all_goals
  have h':Lib.indexByte (⟨#[40,91]⟩:ByteArray).data.toList x.toNat.toUInt8=if x=((40:Nat):Int) then 0 else if x=((91:Nat):Int) then 1 else-1:=h
  rw [h']
  try unfold openN
  repeat' split
 all_goals first|omega|rfl
theorem idx_close (x:Int) (hx:0≤x∧x<256): ∃ix:Int, -1≤ix∧ix≤1∧1+ix=closeN x∧ ∀W:World,Calls Tryd.prog 26 #[.string ⟨#[41,93]⟩,.int .u8 x] W fun e w'=>e= .returned (.int .i64 ix)∧w'=W:=by
 have h:=idx_two 41 93 (by decide) (by decide) x hx;refine ⟨_,?_,?_,?_,fun W=>Any.strings_IndexByte Tryd.lays137 ⟨#[41,93]⟩ x W⟩
 all_goals
  have h':Lib.indexByte (⟨#[41,93]⟩:ByteArray).data.toList x.toNat.toUInt8=if x=((41:Nat):Int) then 0 else if x=((93:Nat):Int) then 1 else-1:=h
  rw [h']
  try unfold closeN
  repeat' split
 all_goals first|omega|rfl
theorem hash_some (s:ByteArray):lexer_hash.f s=some ((hashR s).1,0,0,(hashR s).2.1,(hashR s).2.2.1,(hashR s).2.2.2):=by
 have h: ∃(a n:Int) (t:ByteArray) (e:Int),lexer_hash.f s=some (a,0,0,n,t,e):=by
  unfold lexer_hash.f
  repeat' split
  all_goals exact ⟨_,_,_,_,rfl⟩
 obtain ⟨a,n,t,e,h⟩:=h;unfold hashR;rw [h]
theorem word_some (s:ByteArray) (h:s.size≤1000000):lexer_token.f s=some ((wordR s).1,0,0,(wordR s).2.1,(wordR s).2.2.1,(wordR s).2.2.2):=by
 have hI:lexer_Integer.f s=some (intF s.data.toList):=by unfold lexer_Integer.f;rw [if_pos h]
 unfold wordR lexer_token.f;rw [hI];simp only [Option.bind_some];by_cases c1:(intF s.data.toList).2=0
 · rw [if_pos c1]
 · rw [if_neg c1];by_cases c2:(intF s.data.toList).2=7
   · rw [if_pos c2]
   · rw [if_neg c2];by_cases c3:(s.size:Int)>24
     · rw [if_pos c3]
     · rw [if_neg c3]
theorem gen_world {c:Code} {P:Program} {Q:Exit→Act→World→Prop} {a:Act} {W:World} (F:World→Prop) (h:F W) (k: ∀W',F W'→c.wp P Q a W'):c.wp P Q a W:=k W h
structure NxSt (w W:World) (x1 x4:Int) (x5:ByteArray) (p q:Int):Prop where
 t:W.heap[w.heap.size]? =some (.cells #[.int .i64 x1,.int .i64 0,.int .i64 0,.int .i64 x4,.string x5] 36 (0,0))
 a:W.heap[w.heap.size+1]? =some (.cells #[.int .i64 p,.int .i64 q] 27 (0,0))
 below:Below w.heap.size w W
structure NxBox (w wr:World):Prop where
 t:wr.heap[w.heap.size]? =some (.cells #[.int .i64 0,.int .i64 0,.int .i64 0,.int .i64 0,.string ⟨#[]⟩] 36 (0,0))
 a:wr.heap[w.heap.size+1]? =some (.cells #[.int .i64 0,.int .i64 0] 27 (0,0))
 below:Below w.heap.size w wr
set_option maxRecDepth 100000 in
set_option maxHeartbeats 4000000 in
theorem nx_in (b off c n:Nat) (l:List Int) (i:Nat) (w:World) (hn:n=l.length) (hi:i≤n) (hcap:n≤c) (hsz:n≤8000) (hc:BC w b off l) (hb:Bytes l) (hG:G5 w):
 Calls Tryd.prog 13 #[.slice (some ⟨b,off,none⟩) n c,.int .i64 i] w fun e w'=>e= .returned (nextV (nextR l i))∧Below w.heap.size w w':=by
 have HCL:=Aside0.mk fun (k:Nat) (W:World) (hk:k<n) (hW:Below w.heap.size w W)=>lcls_in b off c n l k W hn hk hcap (by omega) (hc.below hW) hb (G0_keep hG.g0 hW)
 have HWD:=Aside0.mk fun (k:Nat) (W:World) (hk:k≤n) (hW:Below w.heap.size w W)=>lword_in b off c n l k W hn hk hcap (by omega) (hc.below hW) hb (G0_keep hG.g0 hW)
 have HCM:=Aside0.mk fun (k:Nat) (W:World) (hk:k≤n) (hW:Below w.heap.size w W)=>lcmt_any b off c n l k W hn hk hcap (by omega) (hc.below hW) hb (G0_keep hG.g0 hW)
 have HCV:=Aside0.mk fun (p q:Nat) (W:World) (hpq:p≤q) (hq:q≤n) (hW:Below w.heap.size w W)=>conv_sub b off c l p q W hpq (by omega) (hc.below hW)
 have HCE:=Aside0.mk fun (k:Nat) (W:World) (hk:k<n) (hW:Below w.heap.size w W)=>(hc.below hW) k (by omega)
 have HGG:=Aside0.mk fun (W:World) (hW:Below w.heap.size w W)=>G5_keep hG hW
 have HN:=Aside0.mk hn
 have HBY:=Aside0.mk fun (k:Nat)=>hb.at_ (k:Int)
 have d8:decide ((8000:Int)<n)=false:=decide_eq_false (by omega);have d9:decide ((i:Int)<0)=false:=decide_eq_false (by omega);have d10:decide (n<i)=false:=decide_eq_false (by omega);have d11:decide ((n:Int)<i)=false:=decide_eq_false (by omega);clear hc hb hG hn;generalize hR:nextR l i=R;have HR:=Aside0.mk hR;clear hR;go_enter Tryd.func13,Tryd.ntmps13
 go_wp2_with fail
 refine wp_scope_straight ?_
 go_wp2_with fail
 refine wp_label ?_
 go_wp2_with fail
 go_loopw [1,6] (fun v v6 wr=> ∃k:Nat,v= .int .i64 k∧v6= .int .i64 4∧k≤n∧Aside0 (skipR l k=skipR l i)∧Aside0 (NxBox w wr)) (fun v _ _=>n-(intOf v).toNat)
 case atStart=>exact ⟨i,rfl,rfl,hi,⟨rfl⟩,⟨⟨(heap_two w _ _).1,(heap_two w _ _).2,below_alloc (below_alloc (Below.refl _ _) _) _⟩⟩⟩
 case round=>
  obtain ⟨k,rfl,rfl,hk,HS,HB⟩:=hrel;have ha0:=(blk_cell HB.out.a 0).trans rfl;have ha1:=(blk_cell HB.out.a 1).trans rfl;have hf0:=blk_frozen HB.out.a 0;have hf1:=blk_frozen HB.out.a 1;have ht0:=(blk_cell HB.out.t 0).trans rfl;have ht1:=(blk_cell HB.out.t 1).trans rfl;have ht2:=(blk_cell HB.out.t 2).trans rfl;have ht3:=(blk_cell HB.out.t 3).trans rfl;have ht4:=(blk_cell HB.out.t 4).trans rfl;have hg0:=blk_frozen HB.out.t 0;have hg1:=blk_frozen HB.out.t 1;have hg2:=blk_frozen HB.out.t 2;have hg3:=blk_frozen HB.out.t 3;have hg4:=blk_frozen HB.out.t 4;by_cases hlt:k<n
  · have hltI:(k:Int)<n:=by omega
    have hcl:=HCL.out k wr hlt HB.out.below;have hst:=clsR_step l k (by have:=HN.out;omega);have hsp:=skipR_space l k (by have:=HN.out;omega);have hcm:=skipR_cmt l k (by have:=HN.out;omega);have hno:=skipR_stop l k
    have hwg:wordP (clsR l k).1=true→k<whileR l wordP k:=fun h=>by
        rw [whileR_go l wordP k (by have:=HN.out;omega) h];have:=whileR_in l wordP (clsR l k).2 hst.2;omega
    have hci:=cmtR_in l (clsR l k).2 hst.2;have hfe:= @first_err l k;have hfo:= @first_ok l k;have HCE1:=HCE.out;rw [←HN.out] at hst hci;generalize hcc:(clsR l k).1=a at hcl hsp hcm hno hfe hfo hwg;generalize hdd:(clsR l k).2=d at hcl hst hsp hcm hci hfe hfo;obtain ⟨hd1,hd2⟩:=hst;have HC:=Aside0.mk hcl;have HFE:=Aside0.mk hfe;have HFO:=Aside0.mk hfo;have HCI:=Aside0.mk hci;clear hcl HCL hcc hdd hfe hfo hci HCE1 ha0 ha1 hf0 hf1 ht0 ht1 ht2 ht3 ht4 hg0 hg1 hg2 hg3 hg4;by_cases a1:a=1
    · subst a1;have HS2:=Aside0.mk ((hsp rfl).symm.trans HS.out);clear hsp hcm hno HS HR HFE HFO HCI HCV HCE HGG HWD HCM HN
      go_wp2_with (first
       |(go_at_call 24;refine HC.out.mono ?_;rintro e w1 ⟨rfl,hb1⟩
         have HB1:=Aside0.mk (NxBox.mk (blk_below HB.out.t hb1) (blk_below HB.out.a hb1) (below_step HB.out.below hb1));have h1a0:=(blk_cell HB1.out.a 0).trans rfl;have h1a1:=(blk_cell HB1.out.a 1).trans rfl;have g1a0:=blk_frozen HB1.out.a 0;have g1a1:=blk_frozen HB1.out.a 1;have h1t0:=(blk_cell HB1.out.t 0).trans rfl;have h1t1:=(blk_cell HB1.out.t 1).trans rfl;have h1t2:=(blk_cell HB1.out.t 2).trans rfl;have h1t3:=(blk_cell HB1.out.t 3).trans rfl;have h1t4:=(blk_cell HB1.out.t 4).trans rfl;have g1t0:=blk_frozen HB1.out.t 0;have g1t1:=blk_frozen HB1.out.t 1;have g1t2:=blk_frozen HB1.out.t 2;have g1t3:=blk_frozen HB1.out.t 3;have g1t4:=blk_frozen HB1.out.t 4
         clear hb1 HB))
      go_roundw
      case rel=>
       refine ⟨d,rfl,rfl,hd2,HS2,⟨⟨?_,?_,?_⟩⟩⟩
       · (repeat (with_reducible first|exact HB1.out.t|apply blk_two0|apply blk_two1|apply blk_five0|apply blk_five1|apply blk_five2|apply blk_five3|apply blk_five4|apply blk_f))<;>omega
       · (repeat (with_reducible first|exact HB1.out.a|apply blk_two0|apply blk_two1|apply blk_five0|apply blk_five1|apply blk_five2|apply blk_five3|apply blk_five4|apply blk_f))<;>omega
       · (repeat (with_reducible first|exact HB1.out.below|apply below_set))<;>omega
      case measure=>simp [intOf];omega
    · by_cases a6:a=6
      · subst a6;have HS2:=Aside0.mk ((hcm rfl).symm.trans HS.out);obtain ⟨m1,m2⟩:=HCI.out
        have HM:=Aside0.mk fun (W:World) (hW:Below w.heap.size w W)=>HCM.out d W hd2 hW
        clear hsp hcm hno HS HR HFE HFO HCI HCV HCE HGG HWD HCM HN a1;generalize cmtR l d=m at*
        go_wp2_with (first
         |(go_at_call 24;refine HC.out.mono ?_;rintro e w1 ⟨rfl,hb1⟩
           have HB1:=Aside0.mk (NxBox.mk (blk_below HB.out.t hb1) (blk_below HB.out.a hb1) (below_step HB.out.below hb1));have h1a0:=(blk_cell HB1.out.a 0).trans rfl;have h1a1:=(blk_cell HB1.out.a 1).trans rfl;have g1a0:=blk_frozen HB1.out.a 0;have g1a1:=blk_frozen HB1.out.a 1;have h1t0:=(blk_cell HB1.out.t 0).trans rfl;have h1t1:=(blk_cell HB1.out.t 1).trans rfl;have h1t2:=(blk_cell HB1.out.t 2).trans rfl;have h1t3:=(blk_cell HB1.out.t 3).trans rfl;have h1t4:=(blk_cell HB1.out.t 4).trans rfl;have g1t0:=blk_frozen HB1.out.t 0;have g1t1:=blk_frozen HB1.out.t 1;have g1t2:=blk_frozen HB1.out.t 2;have g1t3:=blk_frozen HB1.out.t 3;have g1t4:=blk_frozen HB1.out.t 4
           clear hb1 HB)
         |(go_at_call 25;refine (HM.out _ (by (repeat (with_reducible first|exact HB1.out.below|apply below_set))<;>omega)).mono ?_;rintro e w2 ⟨rfl,hb2⟩
           have A2:=Aside0.mk (blk_below (g:=w.heap.size+1) (o:=Obj.cells #[.int .i64 k,.int .i64 d] 27 (0,0)) (by (repeat (with_reducible first|exact HB1.out.a|apply blk_two0|apply blk_two1|apply blk_five0|apply blk_five1|apply blk_five2|apply blk_five3|apply blk_five4|apply blk_f))<;>omega) hb2);have T2:=Aside0.mk (blk_below (g:=w.heap.size) (o:=Obj.cells #[.int .i64 0,.int .i64 0,.int .i64 0,.int .i64 0,.string ⟨#[]⟩] 36 (0,0)) (by (repeat (with_reducible first|exact HB1.out.t|apply blk_two0|apply blk_two1|apply blk_five0|apply blk_five1|apply blk_five2|apply blk_five3|apply blk_five4|apply blk_f))<;>omega) hb2);have B2:=Aside0.mk (below_step (by (repeat (with_reducible first|exact HB1.out.below|apply below_set))<;>omega) hb2);have h2a0:=(blk_cell A2.out 0).trans rfl;have h2a1:=(blk_cell A2.out 1).trans rfl;have g2a0:=blk_frozen A2.out 0;have g2a1:=blk_frozen A2.out 1
           clear hb2 HB1))
        go_roundw
        case rel=>
         refine ⟨m,rfl,rfl,m2,HS2,⟨⟨?_,?_,?_⟩⟩⟩
         · (repeat (with_reducible first|exact T2.out|apply blk_two0|apply blk_two1|apply blk_five0|apply blk_five1|apply blk_five2|apply blk_five3|apply blk_five4|apply blk_f))<;>omega
         · (repeat (with_reducible first|exact A2.out|apply blk_two0|apply blk_two1|apply blk_five0|apply blk_five1|apply blk_five2|apply blk_five3|apply blk_five4|apply blk_f))<;>omega
         · (repeat (with_reducible first|exact B2.out|apply below_set))<;>omega
        case measure=>simp [intOf];omega
      · skip
        have hR:R=firstR l k:=by rw [←HR.out];unfold nextR;rw [←HS.out,hno a1 a6,if_pos (by have:=HN.out;omega)]
        clear HR HS hno hsp hcm HCI HCM;have hbyte:=HBY.out k;by_cases a2:a=2
        · subst a2;have e:=hR.trans (HFO.out rfl)
          have HX:=Aside0.mk fun (W:World) (hW:Below w.heap.size w W)=>HCE.out k W hlt hW
          have e2:R=(1,(k:Int),(d:Int),(openN (rd l k)),⟨#[]⟩,0,0,0):=e;clear e hR HFE HFO HCV HCE HGG HWD HN a1 a6;generalize rd l k=x at *; obtain ⟨ix,hi0,hi1,hi2,hix⟩:=idx_open x hbyte;rw [←hi2] at e2;subst e2;have HI:=Aside0.mk hix;clear hix hbyte hi2
          go_upto_region 31 with (first
              |(go_at_call 24;refine HC.out.mono ?_;rintro e w1 ⟨rfl,hb1⟩
                have HB1:=Aside0.mk (NxBox.mk (blk_below HB.out.t hb1) (blk_below HB.out.a hb1) (below_step HB.out.below hb1));have h1a0:=(blk_cell HB1.out.a 0).trans rfl;have h1a1:=(blk_cell HB1.out.a 1).trans rfl;have g1a0:=blk_frozen HB1.out.a 0;have g1a1:=blk_frozen HB1.out.a 1;have h1t0:=(blk_cell HB1.out.t 0).trans rfl;have h1t1:=(blk_cell HB1.out.t 1).trans rfl;have h1t2:=(blk_cell HB1.out.t 2).trans rfl;have h1t3:=(blk_cell HB1.out.t 3).trans rfl;have h1t4:=(blk_cell HB1.out.t 4).trans rfl;have g1t0:=blk_frozen HB1.out.t 0;have g1t1:=blk_frozen HB1.out.t 1;have g1t2:=blk_frozen HB1.out.t 2;have g1t3:=blk_frozen HB1.out.t 3;have g1t4:=blk_frozen HB1.out.t 4
                have hbc: ∀u v,((w1.setCell ⟨w.heap.size+1,0,none⟩ u).setCell ⟨w.heap.size+1,1,none⟩ v).cell? ⟨b,off+k,none⟩=some (.int .u8 x):=fun u v=>HX.out _ (by (repeat (with_reducible first|exact HB1.out.below|apply below_set))<;>omega)
                clear hb1 HB)
              |(go_at_call 26;refine (HI.out _).mono ?_;rintro e w2 ⟨rfl,rfl⟩))
          refine gen_world (fun W=>NxSt w W 1 (1+ix) ⟨#[]⟩ k d) ⟨?_,?_,?_⟩ ?_
          · (repeat (with_reducible first|exact HB1.out.t|apply blk_two0|apply blk_two1|apply blk_five0|apply blk_five1|apply blk_five2|apply blk_five3|apply blk_five4|apply blk_f))<;>omega
          · (repeat (with_reducible first|exact HB1.out.a|apply blk_two0|apply blk_two1|apply blk_five0|apply blk_five1|apply blk_five2|apply blk_five3|apply blk_five4|apply blk_f))<;>omega
          · (repeat (with_reducible first|exact HB1.out.below|apply below_set))<;>omega
          intro W3 h3;have H3:=Aside0.mk h3;have h3a0:=(blk_cell h3.a 0).trans rfl;have h3a1:=(blk_cell h3.a 1).trans rfl;have g3a0:=blk_frozen h3.a 0;have g3a1:=blk_frozen h3.a 1;have h3t0:=(blk_cell h3.t 0).trans rfl;have h3t1:=(blk_cell h3.t 1).trans rfl;have h3t2:=(blk_cell h3.t 2).trans rfl;have h3t3:=(blk_cell h3.t 3).trans rfl;have h3t4:=(blk_cell h3.t 4).trans rfl;have g3t0:=blk_frozen h3.t 0;have g3t1:=blk_frozen h3.t 1;have g3t2:=blk_frozen h3.t 2;have g3t3:=blk_frozen h3.t 3;have g3t4:=blk_frozen h3.t 4;clear h3
          go_wp2_with fail
          rw [Exit.noGoto_ret];refine bodyPost_ret (nx_ret _ _ _ _ 1 k d (1+ix) ⟨#[]⟩ 0 0 0 rfl rfl rfl ?_ ?_) rfl ⟨rfl,?_⟩
          · (repeat (with_reducible first|exact H3.out.t|apply blk_two0|apply blk_two1|apply blk_five0|apply blk_five1|apply blk_five2|apply blk_five3|apply blk_five4|apply blk_f))<;>omega
          · (repeat (with_reducible first|exact H3.out.a|apply blk_two0|apply blk_two1|apply blk_five0|apply blk_five1|apply blk_five2|apply blk_five3|apply blk_five4|apply blk_f))<;>omega
          · (repeat (with_reducible first|exact H3.out.below|apply below_set))<;>omega
        · skip
          by_cases a3:a=3
          · subst a3;have e:=hR.trans (HFO.out rfl)
            have HX:=Aside0.mk fun (W:World) (hW:Below w.heap.size w W)=>HCE.out k W hlt hW
            have e2:R=(2,(k:Int),(d:Int),(closeN (rd l k)),⟨#[]⟩,0,0,0):=e;clear e hR HFE HFO HCV HCE HGG HWD HN a1 a6;generalize rd l k=x at *; obtain ⟨ix,hi0,hi1,hi2,hix⟩:=idx_close x hbyte;rw [←hi2] at e2;subst e2;have HI:=Aside0.mk hix;clear hix hbyte hi2
            go_upto_region 31 with (first
             |(go_at_call 24;refine HC.out.mono ?_;rintro e w1 ⟨rfl,hb1⟩
               have HB1:=Aside0.mk (NxBox.mk (blk_below HB.out.t hb1) (blk_below HB.out.a hb1) (below_step HB.out.below hb1));have h1a0:=(blk_cell HB1.out.a 0).trans rfl;have h1a1:=(blk_cell HB1.out.a 1).trans rfl;have g1a0:=blk_frozen HB1.out.a 0;have g1a1:=blk_frozen HB1.out.a 1;have h1t0:=(blk_cell HB1.out.t 0).trans rfl;have h1t1:=(blk_cell HB1.out.t 1).trans rfl;have h1t2:=(blk_cell HB1.out.t 2).trans rfl;have h1t3:=(blk_cell HB1.out.t 3).trans rfl;have h1t4:=(blk_cell HB1.out.t 4).trans rfl;have g1t0:=blk_frozen HB1.out.t 0;have g1t1:=blk_frozen HB1.out.t 1;have g1t2:=blk_frozen HB1.out.t 2;have g1t3:=blk_frozen HB1.out.t 3;have g1t4:=blk_frozen HB1.out.t 4
               have hbc: ∀u v,((w1.setCell ⟨w.heap.size+1,0,none⟩ u).setCell ⟨w.heap.size+1,1,none⟩ v).cell? ⟨b,off+k,none⟩=some (.int .u8 x):=fun u v=>HX.out _ (by (repeat (with_reducible first|exact HB1.out.below|apply below_set))<;>omega)
               clear hb1 HB)
             |(go_at_call 26;refine (HI.out _).mono ?_;rintro e w2 ⟨rfl,rfl⟩))
            refine gen_world (fun W=>NxSt w W 2 (1+ix) ⟨#[]⟩ k d) ⟨?_,?_,?_⟩ ?_
            · (repeat (with_reducible first|exact HB1.out.t|apply blk_two0|apply blk_two1|apply blk_five0|apply blk_five1|apply blk_five2|apply blk_five3|apply blk_five4|apply blk_f))<;>omega
            · (repeat (with_reducible first|exact HB1.out.a|apply blk_two0|apply blk_two1|apply blk_five0|apply blk_five1|apply blk_five2|apply blk_five3|apply blk_five4|apply blk_f))<;>omega
            · (repeat (with_reducible first|exact HB1.out.below|apply below_set))<;>omega
            intro W3 h3;have H3:=Aside0.mk h3;have h3a0:=(blk_cell h3.a 0).trans rfl;have h3a1:=(blk_cell h3.a 1).trans rfl;have g3a0:=blk_frozen h3.a 0;have g3a1:=blk_frozen h3.a 1;have h3t0:=(blk_cell h3.t 0).trans rfl;have h3t1:=(blk_cell h3.t 1).trans rfl;have h3t2:=(blk_cell h3.t 2).trans rfl;have h3t3:=(blk_cell h3.t 3).trans rfl;have h3t4:=(blk_cell h3.t 4).trans rfl;have g3t0:=blk_frozen h3.t 0;have g3t1:=blk_frozen h3.t 1;have g3t2:=blk_frozen h3.t 2;have g3t3:=blk_frozen h3.t 3;have g3t4:=blk_frozen h3.t 4;clear h3
            go_wp2_with fail
            rw [Exit.noGoto_ret];refine bodyPost_ret (nx_ret _ _ _ _ 2 k d (1+ix) ⟨#[]⟩ 0 0 0 rfl rfl rfl ?_ ?_) rfl ⟨rfl,?_⟩
            · (repeat (with_reducible first|exact H3.out.t|apply blk_two0|apply blk_two1|apply blk_five0|apply blk_five1|apply blk_five2|apply blk_five3|apply blk_five4|apply blk_f))<;>omega
            · (repeat (with_reducible first|exact H3.out.a|apply blk_two0|apply blk_two1|apply blk_five0|apply blk_five1|apply blk_five2|apply blk_five3|apply blk_five4|apply blk_f))<;>omega
            · (repeat (with_reducible first|exact H3.out.below|apply below_set))<;>omega
          · skip
            by_cases a4:a=4
            · subst a4;have e2:R=(3,(k:Int),(d:Int),0,⟨#[]⟩,0,0,0):=hR.trans (HFO.out rfl);clear hR HFE HFO HCV HCE HGG HWD HN a1 a6 hbyte;subst e2
              go_upto_region 31 with (first
               |(go_at_call 24;refine HC.out.mono ?_;rintro e w1 ⟨rfl,hb1⟩
                 have HB1:=Aside0.mk (NxBox.mk (blk_below HB.out.t hb1) (blk_below HB.out.a hb1) (below_step HB.out.below hb1));have h1a0:=(blk_cell HB1.out.a 0).trans rfl;have h1a1:=(blk_cell HB1.out.a 1).trans rfl;have g1a0:=blk_frozen HB1.out.a 0;have g1a1:=blk_frozen HB1.out.a 1;have h1t0:=(blk_cell HB1.out.t 0).trans rfl;have h1t1:=(blk_cell HB1.out.t 1).trans rfl;have h1t2:=(blk_cell HB1.out.t 2).trans rfl;have h1t3:=(blk_cell HB1.out.t 3).trans rfl;have h1t4:=(blk_cell HB1.out.t 4).trans rfl;have g1t0:=blk_frozen HB1.out.t 0;have g1t1:=blk_frozen HB1.out.t 1;have g1t2:=blk_frozen HB1.out.t 2;have g1t3:=blk_frozen HB1.out.t 3;have g1t4:=blk_frozen HB1.out.t 4
                 clear hb1 HB))
              refine gen_world (fun W=>NxSt w W 3 0 ⟨#[]⟩ k d) ⟨?_,?_,?_⟩ ?_
              · (repeat (with_reducible first|exact HB1.out.t|apply blk_two0|apply blk_two1|apply blk_five0|apply blk_five1|apply blk_five2|apply blk_five3|apply blk_five4|apply blk_f))<;>omega
              · (repeat (with_reducible first|exact HB1.out.a|apply blk_two0|apply blk_two1|apply blk_five0|apply blk_five1|apply blk_five2|apply blk_five3|apply blk_five4|apply blk_f))<;>omega
              · (repeat (with_reducible first|exact HB1.out.below|apply below_set))<;>omega
              intro W3 h3;have H3:=Aside0.mk h3;have h3a0:=(blk_cell h3.a 0).trans rfl;have h3a1:=(blk_cell h3.a 1).trans rfl;have g3a0:=blk_frozen h3.a 0;have g3a1:=blk_frozen h3.a 1;have h3t0:=(blk_cell h3.t 0).trans rfl;have h3t1:=(blk_cell h3.t 1).trans rfl;have h3t2:=(blk_cell h3.t 2).trans rfl;have h3t3:=(blk_cell h3.t 3).trans rfl;have h3t4:=(blk_cell h3.t 4).trans rfl;have g3t0:=blk_frozen h3.t 0;have g3t1:=blk_frozen h3.t 1;have g3t2:=blk_frozen h3.t 2;have g3t3:=blk_frozen h3.t 3;have g3t4:=blk_frozen h3.t 4;clear h3
              go_wp2_with fail
              rw [Exit.noGoto_ret];refine bodyPost_ret (nx_ret _ _ _ _ 3 k d 0 ⟨#[]⟩ 0 0 0 rfl rfl rfl ?_ ?_) rfl ⟨rfl,?_⟩
              · (repeat (with_reducible first|exact H3.out.t|apply blk_two0|apply blk_two1|apply blk_five0|apply blk_five1|apply blk_five2|apply blk_five3|apply blk_five4|apply blk_f))<;>omega
              · (repeat (with_reducible first|exact H3.out.a|apply blk_two0|apply blk_two1|apply blk_five0|apply blk_five1|apply blk_five2|apply blk_five3|apply blk_five4|apply blk_f))<;>omega
              · (repeat (with_reducible first|exact H3.out.below|apply below_set))<;>omega
            · skip
              have HWK:=Aside0.mk fun (W:World) (hW:Below w.heap.size w W)=>HWD.out k W hk hW
              have HWE:=Aside0.mk fun (W:World) (hW:Below w.heap.size w W)=>HWD.out d W hd2 hW
              by_cases aw:a=9∨a=7∨a=8
              · skip
                have hwp:wordP a=true:=by rcases aw with rfl|rfl|rfl<;>rfl
                have hz:=whileR_in l wordP k (by have:=HN.out;omega)
                have hz1:k<whileR l wordP k:=by
                 exact hwg hwp
                rw [←HN.out] at hz
                have hke:kindR l k a d=wordR (strOfNums (sub l k (whileR l wordP k))):=by rcases aw with rfl|rfl|rfl<;>rfl
                have hen:endR l k a d=whileR l wordP k:=by rcases aw with rfl|rfl|rfl<;>rfl
                have hS:=word_some (strOfNums (sub l k (whileR l wordP k))) (by rw [strOfNums_size];unfold sub;rw [List.length_take];omega);have hFE:=HFE.out;have hFO:=HFO.out;rw [hke,hen] at hFE hFO
                have hcv1:=fun (W:World) (hW:Below w.heap.size w W)=>HCV.out k (whileR l wordP k) W (by omega) hz.2 hW
                have hwk:=HWK.out;clear HFE HFO hke hen HCV HCE HWD HWK HWE HN hbyte a1 a2 a3 a4 a6 hwp hwg;generalize strOfNums (sub l k (whileR l wordP k))=S at *; generalize whileR l wordP k=z at *; generalize wordR S=x at *; obtain ⟨x1,x4,x5,x8⟩:=x;simp only at hS hFE hFO;have HFE:=Aside0.mk hFE;have HFO:=Aside0.mk hFO;have HV:=Aside0.mk hcv1;have HW:=Aside0.mk hwk
                have HT:=Aside0.mk fun (W:World) (hW:Below w.heap.size w W)=>lexer_token.calls S x1 0 0 x4 x5 x8 W (HGG.out W hW) hS
                obtain ⟨hz2,hz3⟩:=hz
                have hzI:(k:Int)≤z:=by omega
                have hzc:(z:Int)≤c:=by omega
                have hzN:z≤c:=by omega
                clear hFE hFO hcv1 hwk hS HGG
                rcases aw with rfl|rfl|rfl
                · skip
                  by_cases hx8:x8=0
                  · subst hx8;have e2:R=(x1,(k:Int),(z:Int),x4,x5,0,0,0):=hR.trans (HFO.out rfl);subst e2;clear hR HFO HFE
                    go_upto_region 31 with (first
                     |(go_at_call 24;refine HC.out.mono ?_;rintro e w1 ⟨rfl,hb1⟩
                       have HB1:=Aside0.mk (NxBox.mk (blk_below HB.out.t hb1) (blk_below HB.out.a hb1) (below_step HB.out.below hb1));have h1a0:=(blk_cell HB1.out.a 0).trans rfl;have h1a1:=(blk_cell HB1.out.a 1).trans rfl;have g1a0:=blk_frozen HB1.out.a 0;have g1a1:=blk_frozen HB1.out.a 1;have h1t0:=(blk_cell HB1.out.t 0).trans rfl;have h1t1:=(blk_cell HB1.out.t 1).trans rfl;have h1t2:=(blk_cell HB1.out.t 2).trans rfl;have h1t3:=(blk_cell HB1.out.t 3).trans rfl;have h1t4:=(blk_cell HB1.out.t 4).trans rfl;have g1t0:=blk_frozen HB1.out.t 0;have g1t1:=blk_frozen HB1.out.t 1;have g1t2:=blk_frozen HB1.out.t 2;have g1t3:=blk_frozen HB1.out.t 3;have g1t4:=blk_frozen HB1.out.t 4
                       skip
                       clear hb1 HB)
                     |(go_at_call 27;refine (HW.out _ (by (repeat (with_reducible first|exact HB1.out.below|apply below_set))<;>omega)).mono ?_;rintro e w2 ⟨rfl,hb2⟩
                       have A2:=Aside0.mk (blk_below (g:=w.heap.size+1) (o:=Obj.cells #[.int .i64 k,.int .i64 d] 27 (0,0)) (by (repeat (with_reducible first|exact HB1.out.a|apply blk_two0|apply blk_two1|apply blk_five0|apply blk_five1|apply blk_five2|apply blk_five3|apply blk_five4|apply blk_f))<;>omega) hb2);have T2:=Aside0.mk (blk_below (g:=w.heap.size) (o:=Obj.cells #[.int .i64 0,.int .i64 0,.int .i64 0,.int .i64 0,.string ⟨#[]⟩] 36 (0,0)) (by (repeat (with_reducible first|exact HB1.out.t|apply blk_two0|apply blk_two1|apply blk_five0|apply blk_five1|apply blk_five2|apply blk_five3|apply blk_five4|apply blk_f))<;>omega) hb2);have B2:=Aside0.mk (below_step (by (repeat (with_reducible first|exact HB1.out.below|apply below_set))<;>omega) hb2);have h2a0:=(blk_cell A2.out 0).trans rfl;have h2a1:=(blk_cell A2.out 1).trans rfl;have g2a0:=blk_frozen A2.out 0;have g2a1:=blk_frozen A2.out 1;have h2t0:=(blk_cell T2.out 0).trans rfl;have h2t1:=(blk_cell T2.out 1).trans rfl;have h2t2:=(blk_cell T2.out 2).trans rfl;have h2t3:=(blk_cell T2.out 3).trans rfl;have h2t4:=(blk_cell T2.out 4).trans rfl;have g2t0:=blk_frozen T2.out 0;have g2t1:=blk_frozen T2.out 1;have g2t2:=blk_frozen T2.out 2;have g2t3:=blk_frozen T2.out 3;have g2t4:=blk_frozen T2.out 4
                       have hcv: ∀v,(convert 23 9 (.slice (some ⟨b,off+k,none⟩) (z-k) (c-k))).run Tryd.prog (w2.setCell ⟨w.heap.size+1,1,none⟩ v)= .ok (.string S) (w2.setCell ⟨w.heap.size+1,1,none⟩ v):=fun v=>HV.out _ (by (repeat (with_reducible first|exact B2.out|apply below_set))<;>omega)
                       clear hb2)
                     |(go_at_call 29;refine (HT.out _ (by (repeat (with_reducible first|exact B2.out|apply below_set))<;>omega)).mono ?_;rintro e w4 ⟨rfl,hb4⟩
                       have A4:=Aside0.mk (blk_below (g:=w.heap.size+1) (o:=Obj.cells #[.int .i64 k,.int .i64 z] 27 (0,0)) (by (repeat (with_reducible first|exact A2.out|apply blk_two0|apply blk_two1|apply blk_five0|apply blk_five1|apply blk_five2|apply blk_five3|apply blk_five4|apply blk_f))<;>omega) hb4);have T4:=Aside0.mk (blk_below (g:=w.heap.size) (o:=Obj.cells #[.int .i64 0,.int .i64 0,.int .i64 0,.int .i64 0,.string ⟨#[]⟩] 36 (0,0)) (by (repeat (with_reducible first|exact T2.out|apply blk_two0|apply blk_two1|apply blk_five0|apply blk_five1|apply blk_five2|apply blk_five3|apply blk_five4|apply blk_f))<;>omega) hb4);have B4:=Aside0.mk (below_step (by (repeat (with_reducible first|exact B2.out|apply below_set))<;>omega) hb4);have h4a0:=(blk_cell A4.out 0).trans rfl;have h4a1:=(blk_cell A4.out 1).trans rfl;have g4a0:=blk_frozen A4.out 0;have g4a1:=blk_frozen A4.out 1;have h4t0:=(blk_cell T4.out 0).trans rfl;have h4t1:=(blk_cell T4.out 1).trans rfl;have h4t2:=(blk_cell T4.out 2).trans rfl;have h4t3:=(blk_cell T4.out 3).trans rfl;have h4t4:=(blk_cell T4.out 4).trans rfl;have g4t0:=blk_frozen T4.out 0;have g4t1:=blk_frozen T4.out 1;have g4t2:=blk_frozen T4.out 2;have g4t3:=blk_frozen T4.out 3;have g4t4:=blk_frozen T4.out 4
                       clear hb4))
                    refine gen_world (fun W=>NxSt w W x1 x4 x5 k z) ⟨?_,?_,?_⟩ ?_
                    · (repeat (with_reducible first|exact T4.out|apply blk_two0|apply blk_two1|apply blk_five0|apply blk_five1|apply blk_five2|apply blk_five3|apply blk_five4|apply blk_f))<;>omega
                    · (repeat (with_reducible first|exact A4.out|apply blk_two0|apply blk_two1|apply blk_five0|apply blk_five1|apply blk_five2|apply blk_five3|apply blk_five4|apply blk_f))<;>omega
                    · (repeat (with_reducible first|exact B4.out|apply below_set))<;>omega
                    intro W3 h3;have H3:=Aside0.mk h3;have h3a0:=(blk_cell h3.a 0).trans rfl;have h3a1:=(blk_cell h3.a 1).trans rfl;have g3a0:=blk_frozen h3.a 0;have g3a1:=blk_frozen h3.a 1;have h3t0:=(blk_cell h3.t 0).trans rfl;have h3t1:=(blk_cell h3.t 1).trans rfl;have h3t2:=(blk_cell h3.t 2).trans rfl;have h3t3:=(blk_cell h3.t 3).trans rfl;have h3t4:=(blk_cell h3.t 4).trans rfl;have g3t0:=blk_frozen h3.t 0;have g3t1:=blk_frozen h3.t 1;have g3t2:=blk_frozen h3.t 2;have g3t3:=blk_frozen h3.t 3;have g3t4:=blk_frozen h3.t 4;clear h3
                    go_wp2_with fail
                    rw [Exit.noGoto_ret];refine bodyPost_ret (nx_ret _ _ _ _ x1 k z x4 x5 0 0 0 rfl rfl rfl ?_ ?_) rfl ⟨rfl,?_⟩
                    · (repeat (with_reducible first|exact H3.out.t|apply blk_two0|apply blk_two1|apply blk_five0|apply blk_five1|apply blk_five2|apply blk_five3|apply blk_five4|apply blk_f))<;>omega
                    · (repeat (with_reducible first|exact H3.out.a|apply blk_two0|apply blk_two1|apply blk_five0|apply blk_five1|apply blk_five2|apply blk_five3|apply blk_five4|apply blk_f))<;>omega
                    · (repeat (with_reducible first|exact H3.out.below|apply below_set))<;>omega
                  · have q8:(x8 != 0)=true:=bne_iff_ne.mpr hx8;have e2:R=(0,0,0,0,⟨#[]⟩,(k:Int),(z:Int),x8):=hR.trans (HFE.out hx8);subst e2;clear hR HFO HFE hx8
                    go_upto_region 31 with (first
                     |(go_at_call 24;refine HC.out.mono ?_;rintro e w1 ⟨rfl,hb1⟩
                       have HB1:=Aside0.mk (NxBox.mk (blk_below HB.out.t hb1) (blk_below HB.out.a hb1) (below_step HB.out.below hb1));have h1a0:=(blk_cell HB1.out.a 0).trans rfl;have h1a1:=(blk_cell HB1.out.a 1).trans rfl;have g1a0:=blk_frozen HB1.out.a 0;have g1a1:=blk_frozen HB1.out.a 1;have h1t0:=(blk_cell HB1.out.t 0).trans rfl;have h1t1:=(blk_cell HB1.out.t 1).trans rfl;have h1t2:=(blk_cell HB1.out.t 2).trans rfl;have h1t3:=(blk_cell HB1.out.t 3).trans rfl;have h1t4:=(blk_cell HB1.out.t 4).trans rfl;have g1t0:=blk_frozen HB1.out.t 0;have g1t1:=blk_frozen HB1.out.t 1;have g1t2:=blk_frozen HB1.out.t 2;have g1t3:=blk_frozen HB1.out.t 3;have g1t4:=blk_frozen HB1.out.t 4
                       skip
                       clear hb1 HB)
                     |(go_at_call 27;refine (HW.out _ (by (repeat (with_reducible first|exact HB1.out.below|apply below_set))<;>omega)).mono ?_;rintro e w2 ⟨rfl,hb2⟩
                       have A2:=Aside0.mk (blk_below (g:=w.heap.size+1) (o:=Obj.cells #[.int .i64 k,.int .i64 d] 27 (0,0)) (by (repeat (with_reducible first|exact HB1.out.a|apply blk_two0|apply blk_two1|apply blk_five0|apply blk_five1|apply blk_five2|apply blk_five3|apply blk_five4|apply blk_f))<;>omega) hb2);have T2:=Aside0.mk (blk_below (g:=w.heap.size) (o:=Obj.cells #[.int .i64 0,.int .i64 0,.int .i64 0,.int .i64 0,.string ⟨#[]⟩] 36 (0,0)) (by (repeat (with_reducible first|exact HB1.out.t|apply blk_two0|apply blk_two1|apply blk_five0|apply blk_five1|apply blk_five2|apply blk_five3|apply blk_five4|apply blk_f))<;>omega) hb2);have B2:=Aside0.mk (below_step (by (repeat (with_reducible first|exact HB1.out.below|apply below_set))<;>omega) hb2);have h2a0:=(blk_cell A2.out 0).trans rfl;have h2a1:=(blk_cell A2.out 1).trans rfl;have g2a0:=blk_frozen A2.out 0;have g2a1:=blk_frozen A2.out 1;have h2t0:=(blk_cell T2.out 0).trans rfl;have h2t1:=(blk_cell T2.out 1).trans rfl;have h2t2:=(blk_cell T2.out 2).trans rfl;have h2t3:=(blk_cell T2.out 3).trans rfl;have h2t4:=(blk_cell T2.out 4).trans rfl;have g2t0:=blk_frozen T2.out 0;have g2t1:=blk_frozen T2.out 1;have g2t2:=blk_frozen T2.out 2;have g2t3:=blk_frozen T2.out 3;have g2t4:=blk_frozen T2.out 4
                       have hcv: ∀v,(convert 23 9 (.slice (some ⟨b,off+k,none⟩) (z-k) (c-k))).run Tryd.prog (w2.setCell ⟨w.heap.size+1,1,none⟩ v)= .ok (.string S) (w2.setCell ⟨w.heap.size+1,1,none⟩ v):=fun v=>HV.out _ (by (repeat (with_reducible first|exact B2.out|apply below_set))<;>omega)
                       clear hb2)
                     |(go_at_call 29;refine (HT.out _ (by (repeat (with_reducible first|exact B2.out|apply below_set))<;>omega)).mono ?_;rintro e w4 ⟨rfl,hb4⟩
                       have A4:=Aside0.mk (blk_below (g:=w.heap.size+1) (o:=Obj.cells #[.int .i64 k,.int .i64 z] 27 (0,0)) (by (repeat (with_reducible first|exact A2.out|apply blk_two0|apply blk_two1|apply blk_five0|apply blk_five1|apply blk_five2|apply blk_five3|apply blk_five4|apply blk_f))<;>omega) hb4);have T4:=Aside0.mk (blk_below (g:=w.heap.size) (o:=Obj.cells #[.int .i64 0,.int .i64 0,.int .i64 0,.int .i64 0,.string ⟨#[]⟩] 36 (0,0)) (by (repeat (with_reducible first|exact T2.out|apply blk_two0|apply blk_two1|apply blk_five0|apply blk_five1|apply blk_five2|apply blk_five3|apply blk_five4|apply blk_f))<;>omega) hb4);have B4:=Aside0.mk (below_step (by (repeat (with_reducible first|exact B2.out|apply below_set))<;>omega) hb4);have h4a0:=(blk_cell A4.out 0).trans rfl;have h4a1:=(blk_cell A4.out 1).trans rfl;have g4a0:=blk_frozen A4.out 0;have g4a1:=blk_frozen A4.out 1;have h4t0:=(blk_cell T4.out 0).trans rfl;have h4t1:=(blk_cell T4.out 1).trans rfl;have h4t2:=(blk_cell T4.out 2).trans rfl;have h4t3:=(blk_cell T4.out 3).trans rfl;have h4t4:=(blk_cell T4.out 4).trans rfl;have g4t0:=blk_frozen T4.out 0;have g4t1:=blk_frozen T4.out 1;have g4t2:=blk_frozen T4.out 2;have g4t3:=blk_frozen T4.out 3;have g4t4:=blk_frozen T4.out 4
                       clear hb4))
                    refine gen_world (fun W=>NxSt w W x1 x4 x5 k z) ⟨?_,?_,?_⟩ ?_
                    · (repeat (with_reducible first|exact T4.out|apply blk_two0|apply blk_two1|apply blk_five0|apply blk_five1|apply blk_five2|apply blk_five3|apply blk_five4|apply blk_f))<;>omega
                    · (repeat (with_reducible first|exact A4.out|apply blk_two0|apply blk_two1|apply blk_five0|apply blk_five1|apply blk_five2|apply blk_five3|apply blk_five4|apply blk_f))<;>omega
                    · (repeat (with_reducible first|exact B4.out|apply below_set))<;>omega
                    intro W3 h3;have H3:=Aside0.mk h3;have h3a0:=(blk_cell h3.a 0).trans rfl;have h3a1:=(blk_cell h3.a 1).trans rfl;have g3a0:=blk_frozen h3.a 0;have g3a1:=blk_frozen h3.a 1;have h3t0:=(blk_cell h3.t 0).trans rfl;have h3t1:=(blk_cell h3.t 1).trans rfl;have h3t2:=(blk_cell h3.t 2).trans rfl;have h3t3:=(blk_cell h3.t 3).trans rfl;have h3t4:=(blk_cell h3.t 4).trans rfl;have g3t0:=blk_frozen h3.t 0;have g3t1:=blk_frozen h3.t 1;have g3t2:=blk_frozen h3.t 2;have g3t3:=blk_frozen h3.t 3;have g3t4:=blk_frozen h3.t 4;clear h3
                    go_wp2_with fail
                    go_region
                    all_goals go_wp2_with fail
                    all_goals rw [Exit.noGoto_ret]
                    all_goals refine bodyPost_ret (nx_ret _ _ _ _ 0 0 0 0 ⟨#[]⟩ k z x8 rfl rfl rfl ?_ ?_) rfl ⟨rfl,?_⟩
                    · refine blk_drew ?_
                      (repeat (with_reducible first|exact H3.out.t|apply blk_two0|apply blk_two1|apply blk_five0|apply blk_five1|apply blk_five2|apply blk_five3|apply blk_five4|apply blk_f))<;>omega
                    · refine blk_drew ?_
                      (repeat (with_reducible first|exact H3.out.a|apply blk_two0|apply blk_two1|apply blk_five0|apply blk_five1|apply blk_five2|apply blk_five3|apply blk_five4|apply blk_f))<;>omega
                    · refine below_drew ?_
                      (repeat (with_reducible first|exact H3.out.below|apply below_set))<;>omega
                · skip
                  by_cases hx8:x8=0
                  · subst hx8;have e2:R=(x1,(k:Int),(z:Int),x4,x5,0,0,0):=hR.trans (HFO.out rfl);subst e2;clear hR HFO HFE
                    go_upto_region 31 with (first
                     |(go_at_call 24;refine HC.out.mono ?_;rintro e w1 ⟨rfl,hb1⟩
                       have HB1:=Aside0.mk (NxBox.mk (blk_below HB.out.t hb1) (blk_below HB.out.a hb1) (below_step HB.out.below hb1));have h1a0:=(blk_cell HB1.out.a 0).trans rfl;have h1a1:=(blk_cell HB1.out.a 1).trans rfl;have g1a0:=blk_frozen HB1.out.a 0;have g1a1:=blk_frozen HB1.out.a 1;have h1t0:=(blk_cell HB1.out.t 0).trans rfl;have h1t1:=(blk_cell HB1.out.t 1).trans rfl;have h1t2:=(blk_cell HB1.out.t 2).trans rfl;have h1t3:=(blk_cell HB1.out.t 3).trans rfl;have h1t4:=(blk_cell HB1.out.t 4).trans rfl;have g1t0:=blk_frozen HB1.out.t 0;have g1t1:=blk_frozen HB1.out.t 1;have g1t2:=blk_frozen HB1.out.t 2;have g1t3:=blk_frozen HB1.out.t 3;have g1t4:=blk_frozen HB1.out.t 4
                       skip
                       clear hb1 HB)
                     |(go_at_call 27;refine (HW.out _ (by (repeat (with_reducible first|exact HB1.out.below|apply below_set))<;>omega)).mono ?_;rintro e w2 ⟨rfl,hb2⟩
                       have A2:=Aside0.mk (blk_below (g:=w.heap.size+1) (o:=Obj.cells #[.int .i64 k,.int .i64 d] 27 (0,0)) (by (repeat (with_reducible first|exact HB1.out.a|apply blk_two0|apply blk_two1|apply blk_five0|apply blk_five1|apply blk_five2|apply blk_five3|apply blk_five4|apply blk_f))<;>omega) hb2);have T2:=Aside0.mk (blk_below (g:=w.heap.size) (o:=Obj.cells #[.int .i64 0,.int .i64 0,.int .i64 0,.int .i64 0,.string ⟨#[]⟩] 36 (0,0)) (by (repeat (with_reducible first|exact HB1.out.t|apply blk_two0|apply blk_two1|apply blk_five0|apply blk_five1|apply blk_five2|apply blk_five3|apply blk_five4|apply blk_f))<;>omega) hb2);have B2:=Aside0.mk (below_step (by (repeat (with_reducible first|exact HB1.out.below|apply below_set))<;>omega) hb2);have h2a0:=(blk_cell A2.out 0).trans rfl;have h2a1:=(blk_cell A2.out 1).trans rfl;have g2a0:=blk_frozen A2.out 0;have g2a1:=blk_frozen A2.out 1;have h2t0:=(blk_cell T2.out 0).trans rfl;have h2t1:=(blk_cell T2.out 1).trans rfl;have h2t2:=(blk_cell T2.out 2).trans rfl;have h2t3:=(blk_cell T2.out 3).trans rfl;have h2t4:=(blk_cell T2.out 4).trans rfl;have g2t0:=blk_frozen T2.out 0;have g2t1:=blk_frozen T2.out 1;have g2t2:=blk_frozen T2.out 2;have g2t3:=blk_frozen T2.out 3;have g2t4:=blk_frozen T2.out 4
                       have hcv: ∀v,(convert 23 9 (.slice (some ⟨b,off+k,none⟩) (z-k) (c-k))).run Tryd.prog (w2.setCell ⟨w.heap.size+1,1,none⟩ v)= .ok (.string S) (w2.setCell ⟨w.heap.size+1,1,none⟩ v):=fun v=>HV.out _ (by (repeat (with_reducible first|exact B2.out|apply below_set))<;>omega)
                       clear hb2)
                     |(go_at_call 29;refine (HT.out _ (by (repeat (with_reducible first|exact B2.out|apply below_set))<;>omega)).mono ?_;rintro e w4 ⟨rfl,hb4⟩
                       have A4:=Aside0.mk (blk_below (g:=w.heap.size+1) (o:=Obj.cells #[.int .i64 k,.int .i64 z] 27 (0,0)) (by (repeat (with_reducible first|exact A2.out|apply blk_two0|apply blk_two1|apply blk_five0|apply blk_five1|apply blk_five2|apply blk_five3|apply blk_five4|apply blk_f))<;>omega) hb4);have T4:=Aside0.mk (blk_below (g:=w.heap.size) (o:=Obj.cells #[.int .i64 0,.int .i64 0,.int .i64 0,.int .i64 0,.string ⟨#[]⟩] 36 (0,0)) (by (repeat (with_reducible first|exact T2.out|apply blk_two0|apply blk_two1|apply blk_five0|apply blk_five1|apply blk_five2|apply blk_five3|apply blk_five4|apply blk_f))<;>omega) hb4);have B4:=Aside0.mk (below_step (by (repeat (with_reducible first|exact B2.out|apply below_set))<;>omega) hb4);have h4a0:=(blk_cell A4.out 0).trans rfl;have h4a1:=(blk_cell A4.out 1).trans rfl;have g4a0:=blk_frozen A4.out 0;have g4a1:=blk_frozen A4.out 1;have h4t0:=(blk_cell T4.out 0).trans rfl;have h4t1:=(blk_cell T4.out 1).trans rfl;have h4t2:=(blk_cell T4.out 2).trans rfl;have h4t3:=(blk_cell T4.out 3).trans rfl;have h4t4:=(blk_cell T4.out 4).trans rfl;have g4t0:=blk_frozen T4.out 0;have g4t1:=blk_frozen T4.out 1;have g4t2:=blk_frozen T4.out 2;have g4t3:=blk_frozen T4.out 3;have g4t4:=blk_frozen T4.out 4
                       clear hb4))
                    refine gen_world (fun W=>NxSt w W x1 x4 x5 k z) ⟨?_,?_,?_⟩ ?_
                    · (repeat (with_reducible first|exact T4.out|apply blk_two0|apply blk_two1|apply blk_five0|apply blk_five1|apply blk_five2|apply blk_five3|apply blk_five4|apply blk_f))<;>omega
                    · (repeat (with_reducible first|exact A4.out|apply blk_two0|apply blk_two1|apply blk_five0|apply blk_five1|apply blk_five2|apply blk_five3|apply blk_five4|apply blk_f))<;>omega
                    · (repeat (with_reducible first|exact B4.out|apply below_set))<;>omega
                    intro W3 h3;have H3:=Aside0.mk h3;have h3a0:=(blk_cell h3.a 0).trans rfl;have h3a1:=(blk_cell h3.a 1).trans rfl;have g3a0:=blk_frozen h3.a 0;have g3a1:=blk_frozen h3.a 1;have h3t0:=(blk_cell h3.t 0).trans rfl;have h3t1:=(blk_cell h3.t 1).trans rfl;have h3t2:=(blk_cell h3.t 2).trans rfl;have h3t3:=(blk_cell h3.t 3).trans rfl;have h3t4:=(blk_cell h3.t 4).trans rfl;have g3t0:=blk_frozen h3.t 0;have g3t1:=blk_frozen h3.t 1;have g3t2:=blk_frozen h3.t 2;have g3t3:=blk_frozen h3.t 3;have g3t4:=blk_frozen h3.t 4;clear h3
                    go_wp2_with fail
                    rw [Exit.noGoto_ret];refine bodyPost_ret (nx_ret _ _ _ _ x1 k z x4 x5 0 0 0 rfl rfl rfl ?_ ?_) rfl ⟨rfl,?_⟩
                    · (repeat (with_reducible first|exact H3.out.t|apply blk_two0|apply blk_two1|apply blk_five0|apply blk_five1|apply blk_five2|apply blk_five3|apply blk_five4|apply blk_f))<;>omega
                    · (repeat (with_reducible first|exact H3.out.a|apply blk_two0|apply blk_two1|apply blk_five0|apply blk_five1|apply blk_five2|apply blk_five3|apply blk_five4|apply blk_f))<;>omega
                    · (repeat (with_reducible first|exact H3.out.below|apply below_set))<;>omega
                  · have q8:(x8 != 0)=true:=bne_iff_ne.mpr hx8;have e2:R=(0,0,0,0,⟨#[]⟩,(k:Int),(z:Int),x8):=hR.trans (HFE.out hx8);subst e2;clear hR HFO HFE hx8
                    go_upto_region 31 with (first
                     |(go_at_call 24;refine HC.out.mono ?_;rintro e w1 ⟨rfl,hb1⟩
                       have HB1:=Aside0.mk (NxBox.mk (blk_below HB.out.t hb1) (blk_below HB.out.a hb1) (below_step HB.out.below hb1));have h1a0:=(blk_cell HB1.out.a 0).trans rfl;have h1a1:=(blk_cell HB1.out.a 1).trans rfl;have g1a0:=blk_frozen HB1.out.a 0;have g1a1:=blk_frozen HB1.out.a 1;have h1t0:=(blk_cell HB1.out.t 0).trans rfl;have h1t1:=(blk_cell HB1.out.t 1).trans rfl;have h1t2:=(blk_cell HB1.out.t 2).trans rfl;have h1t3:=(blk_cell HB1.out.t 3).trans rfl;have h1t4:=(blk_cell HB1.out.t 4).trans rfl;have g1t0:=blk_frozen HB1.out.t 0;have g1t1:=blk_frozen HB1.out.t 1;have g1t2:=blk_frozen HB1.out.t 2;have g1t3:=blk_frozen HB1.out.t 3;have g1t4:=blk_frozen HB1.out.t 4
                       skip
                       clear hb1 HB)
                     |(go_at_call 27;refine (HW.out _ (by (repeat (with_reducible first|exact HB1.out.below|apply below_set))<;>omega)).mono ?_;rintro e w2 ⟨rfl,hb2⟩
                       have A2:=Aside0.mk (blk_below (g:=w.heap.size+1) (o:=Obj.cells #[.int .i64 k,.int .i64 d] 27 (0,0)) (by (repeat (with_reducible first|exact HB1.out.a|apply blk_two0|apply blk_two1|apply blk_five0|apply blk_five1|apply blk_five2|apply blk_five3|apply blk_five4|apply blk_f))<;>omega) hb2);have T2:=Aside0.mk (blk_below (g:=w.heap.size) (o:=Obj.cells #[.int .i64 0,.int .i64 0,.int .i64 0,.int .i64 0,.string ⟨#[]⟩] 36 (0,0)) (by (repeat (with_reducible first|exact HB1.out.t|apply blk_two0|apply blk_two1|apply blk_five0|apply blk_five1|apply blk_five2|apply blk_five3|apply blk_five4|apply blk_f))<;>omega) hb2);have B2:=Aside0.mk (below_step (by (repeat (with_reducible first|exact HB1.out.below|apply below_set))<;>omega) hb2);have h2a0:=(blk_cell A2.out 0).trans rfl;have h2a1:=(blk_cell A2.out 1).trans rfl;have g2a0:=blk_frozen A2.out 0;have g2a1:=blk_frozen A2.out 1;have h2t0:=(blk_cell T2.out 0).trans rfl;have h2t1:=(blk_cell T2.out 1).trans rfl;have h2t2:=(blk_cell T2.out 2).trans rfl;have h2t3:=(blk_cell T2.out 3).trans rfl;have h2t4:=(blk_cell T2.out 4).trans rfl;have g2t0:=blk_frozen T2.out 0;have g2t1:=blk_frozen T2.out 1;have g2t2:=blk_frozen T2.out 2;have g2t3:=blk_frozen T2.out 3;have g2t4:=blk_frozen T2.out 4
                       have hcv: ∀v,(convert 23 9 (.slice (some ⟨b,off+k,none⟩) (z-k) (c-k))).run Tryd.prog (w2.setCell ⟨w.heap.size+1,1,none⟩ v)= .ok (.string S) (w2.setCell ⟨w.heap.size+1,1,none⟩ v):=fun v=>HV.out _ (by (repeat (with_reducible first|exact B2.out|apply below_set))<;>omega)
                       clear hb2)
                     |(go_at_call 29;refine (HT.out _ (by (repeat (with_reducible first|exact B2.out|apply below_set))<;>omega)).mono ?_;rintro e w4 ⟨rfl,hb4⟩
                       have A4:=Aside0.mk (blk_below (g:=w.heap.size+1) (o:=Obj.cells #[.int .i64 k,.int .i64 z] 27 (0,0)) (by (repeat (with_reducible first|exact A2.out|apply blk_two0|apply blk_two1|apply blk_five0|apply blk_five1|apply blk_five2|apply blk_five3|apply blk_five4|apply blk_f))<;>omega) hb4);have T4:=Aside0.mk (blk_below (g:=w.heap.size) (o:=Obj.cells #[.int .i64 0,.int .i64 0,.int .i64 0,.int .i64 0,.string ⟨#[]⟩] 36 (0,0)) (by (repeat (with_reducible first|exact T2.out|apply blk_two0|apply blk_two1|apply blk_five0|apply blk_five1|apply blk_five2|apply blk_five3|apply blk_five4|apply blk_f))<;>omega) hb4);have B4:=Aside0.mk (below_step (by (repeat (with_reducible first|exact B2.out|apply below_set))<;>omega) hb4);have h4a0:=(blk_cell A4.out 0).trans rfl;have h4a1:=(blk_cell A4.out 1).trans rfl;have g4a0:=blk_frozen A4.out 0;have g4a1:=blk_frozen A4.out 1;have h4t0:=(blk_cell T4.out 0).trans rfl;have h4t1:=(blk_cell T4.out 1).trans rfl;have h4t2:=(blk_cell T4.out 2).trans rfl;have h4t3:=(blk_cell T4.out 3).trans rfl;have h4t4:=(blk_cell T4.out 4).trans rfl;have g4t0:=blk_frozen T4.out 0;have g4t1:=blk_frozen T4.out 1;have g4t2:=blk_frozen T4.out 2;have g4t3:=blk_frozen T4.out 3;have g4t4:=blk_frozen T4.out 4
                       clear hb4))
                    refine gen_world (fun W=>NxSt w W x1 x4 x5 k z) ⟨?_,?_,?_⟩ ?_
                    · (repeat (with_reducible first|exact T4.out|apply blk_two0|apply blk_two1|apply blk_five0|apply blk_five1|apply blk_five2|apply blk_five3|apply blk_five4|apply blk_f))<;>omega
                    · (repeat (with_reducible first|exact A4.out|apply blk_two0|apply blk_two1|apply blk_five0|apply blk_five1|apply blk_five2|apply blk_five3|apply blk_five4|apply blk_f))<;>omega
                    · (repeat (with_reducible first|exact B4.out|apply below_set))<;>omega
                    intro W3 h3;have H3:=Aside0.mk h3;have h3a0:=(blk_cell h3.a 0).trans rfl;have h3a1:=(blk_cell h3.a 1).trans rfl;have g3a0:=blk_frozen h3.a 0;have g3a1:=blk_frozen h3.a 1;have h3t0:=(blk_cell h3.t 0).trans rfl;have h3t1:=(blk_cell h3.t 1).trans rfl;have h3t2:=(blk_cell h3.t 2).trans rfl;have h3t3:=(blk_cell h3.t 3).trans rfl;have h3t4:=(blk_cell h3.t 4).trans rfl;have g3t0:=blk_frozen h3.t 0;have g3t1:=blk_frozen h3.t 1;have g3t2:=blk_frozen h3.t 2;have g3t3:=blk_frozen h3.t 3;have g3t4:=blk_frozen h3.t 4;clear h3
                    go_wp2_with fail
                    go_region
                    all_goals go_wp2_with fail
                    all_goals rw [Exit.noGoto_ret]
                    all_goals refine bodyPost_ret (nx_ret _ _ _ _ 0 0 0 0 ⟨#[]⟩ k z x8 rfl rfl rfl ?_ ?_) rfl ⟨rfl,?_⟩
                    · refine blk_drew ?_
                      (repeat (with_reducible first|exact H3.out.t|apply blk_two0|apply blk_two1|apply blk_five0|apply blk_five1|apply blk_five2|apply blk_five3|apply blk_five4|apply blk_f))<;>omega
                    · refine blk_drew ?_
                      (repeat (with_reducible first|exact H3.out.a|apply blk_two0|apply blk_two1|apply blk_five0|apply blk_five1|apply blk_five2|apply blk_five3|apply blk_five4|apply blk_f))<;>omega
                    · refine below_drew ?_
                      (repeat (with_reducible first|exact H3.out.below|apply below_set))<;>omega
                · skip
                  by_cases hx8:x8=0
                  · subst hx8;have e2:R=(x1,(k:Int),(z:Int),x4,x5,0,0,0):=hR.trans (HFO.out rfl);subst e2;clear hR HFO HFE
                    go_upto_region 31 with (first
                     |(go_at_call 24;refine HC.out.mono ?_;rintro e w1 ⟨rfl,hb1⟩
                       have HB1:=Aside0.mk (NxBox.mk (blk_below HB.out.t hb1) (blk_below HB.out.a hb1) (below_step HB.out.below hb1));have h1a0:=(blk_cell HB1.out.a 0).trans rfl;have h1a1:=(blk_cell HB1.out.a 1).trans rfl;have g1a0:=blk_frozen HB1.out.a 0;have g1a1:=blk_frozen HB1.out.a 1;have h1t0:=(blk_cell HB1.out.t 0).trans rfl;have h1t1:=(blk_cell HB1.out.t 1).trans rfl;have h1t2:=(blk_cell HB1.out.t 2).trans rfl;have h1t3:=(blk_cell HB1.out.t 3).trans rfl;have h1t4:=(blk_cell HB1.out.t 4).trans rfl;have g1t0:=blk_frozen HB1.out.t 0;have g1t1:=blk_frozen HB1.out.t 1;have g1t2:=blk_frozen HB1.out.t 2;have g1t3:=blk_frozen HB1.out.t 3;have g1t4:=blk_frozen HB1.out.t 4
                       skip
                       clear hb1 HB)
                     |(go_at_call 27;refine (HW.out _ (by (repeat (with_reducible first|exact HB1.out.below|apply below_set))<;>omega)).mono ?_;rintro e w2 ⟨rfl,hb2⟩
                       have A2:=Aside0.mk (blk_below (g:=w.heap.size+1) (o:=Obj.cells #[.int .i64 k,.int .i64 d] 27 (0,0)) (by (repeat (with_reducible first|exact HB1.out.a|apply blk_two0|apply blk_two1|apply blk_five0|apply blk_five1|apply blk_five2|apply blk_five3|apply blk_five4|apply blk_f))<;>omega) hb2);have T2:=Aside0.mk (blk_below (g:=w.heap.size) (o:=Obj.cells #[.int .i64 0,.int .i64 0,.int .i64 0,.int .i64 0,.string ⟨#[]⟩] 36 (0,0)) (by (repeat (with_reducible first|exact HB1.out.t|apply blk_two0|apply blk_two1|apply blk_five0|apply blk_five1|apply blk_five2|apply blk_five3|apply blk_five4|apply blk_f))<;>omega) hb2);have B2:=Aside0.mk (below_step (by (repeat (with_reducible first|exact HB1.out.below|apply below_set))<;>omega) hb2);have h2a0:=(blk_cell A2.out 0).trans rfl;have h2a1:=(blk_cell A2.out 1).trans rfl;have g2a0:=blk_frozen A2.out 0;have g2a1:=blk_frozen A2.out 1;have h2t0:=(blk_cell T2.out 0).trans rfl;have h2t1:=(blk_cell T2.out 1).trans rfl;have h2t2:=(blk_cell T2.out 2).trans rfl;have h2t3:=(blk_cell T2.out 3).trans rfl;have h2t4:=(blk_cell T2.out 4).trans rfl;have g2t0:=blk_frozen T2.out 0;have g2t1:=blk_frozen T2.out 1;have g2t2:=blk_frozen T2.out 2;have g2t3:=blk_frozen T2.out 3;have g2t4:=blk_frozen T2.out 4
                       have hcv: ∀v,(convert 23 9 (.slice (some ⟨b,off+k,none⟩) (z-k) (c-k))).run Tryd.prog (w2.setCell ⟨w.heap.size+1,1,none⟩ v)= .ok (.string S) (w2.setCell ⟨w.heap.size+1,1,none⟩ v):=fun v=>HV.out _ (by (repeat (with_reducible first|exact B2.out|apply below_set))<;>omega)
                       clear hb2)
                     |(go_at_call 29;refine (HT.out _ (by (repeat (with_reducible first|exact B2.out|apply below_set))<;>omega)).mono ?_;rintro e w4 ⟨rfl,hb4⟩
                       have A4:=Aside0.mk (blk_below (g:=w.heap.size+1) (o:=Obj.cells #[.int .i64 k,.int .i64 z] 27 (0,0)) (by (repeat (with_reducible first|exact A2.out|apply blk_two0|apply blk_two1|apply blk_five0|apply blk_five1|apply blk_five2|apply blk_five3|apply blk_five4|apply blk_f))<;>omega) hb4);have T4:=Aside0.mk (blk_below (g:=w.heap.size) (o:=Obj.cells #[.int .i64 0,.int .i64 0,.int .i64 0,.int .i64 0,.string ⟨#[]⟩] 36 (0,0)) (by (repeat (with_reducible first|exact T2.out|apply blk_two0|apply blk_two1|apply blk_five0|apply blk_five1|apply blk_five2|apply blk_five3|apply blk_five4|apply blk_f))<;>omega) hb4);have B4:=Aside0.mk (below_step (by (repeat (with_reducible first|exact B2.out|apply below_set))<;>omega) hb4);have h4a0:=(blk_cell A4.out 0).trans rfl;have h4a1:=(blk_cell A4.out 1).trans rfl;have g4a0:=blk_frozen A4.out 0;have g4a1:=blk_frozen A4.out 1;have h4t0:=(blk_cell T4.out 0).trans rfl;have h4t1:=(blk_cell T4.out 1).trans rfl;have h4t2:=(blk_cell T4.out 2).trans rfl;have h4t3:=(blk_cell T4.out 3).trans rfl;have h4t4:=(blk_cell T4.out 4).trans rfl;have g4t0:=blk_frozen T4.out 0;have g4t1:=blk_frozen T4.out 1;have g4t2:=blk_frozen T4.out 2;have g4t3:=blk_frozen T4.out 3;have g4t4:=blk_frozen T4.out 4
                       clear hb4))
                    refine gen_world (fun W=>NxSt w W x1 x4 x5 k z) ⟨?_,?_,?_⟩ ?_
                    · (repeat (with_reducible first|exact T4.out|apply blk_two0|apply blk_two1|apply blk_five0|apply blk_five1|apply blk_five2|apply blk_five3|apply blk_five4|apply blk_f))<;>omega
                    · (repeat (with_reducible first|exact A4.out|apply blk_two0|apply blk_two1|apply blk_five0|apply blk_five1|apply blk_five2|apply blk_five3|apply blk_five4|apply blk_f))<;>omega
                    · (repeat (with_reducible first|exact B4.out|apply below_set))<;>omega
                    intro W3 h3;have H3:=Aside0.mk h3;have h3a0:=(blk_cell h3.a 0).trans rfl;have h3a1:=(blk_cell h3.a 1).trans rfl;have g3a0:=blk_frozen h3.a 0;have g3a1:=blk_frozen h3.a 1;have h3t0:=(blk_cell h3.t 0).trans rfl;have h3t1:=(blk_cell h3.t 1).trans rfl;have h3t2:=(blk_cell h3.t 2).trans rfl;have h3t3:=(blk_cell h3.t 3).trans rfl;have h3t4:=(blk_cell h3.t 4).trans rfl;have g3t0:=blk_frozen h3.t 0;have g3t1:=blk_frozen h3.t 1;have g3t2:=blk_frozen h3.t 2;have g3t3:=blk_frozen h3.t 3;have g3t4:=blk_frozen h3.t 4;clear h3
                    go_wp2_with fail
                    rw [Exit.noGoto_ret];refine bodyPost_ret (nx_ret _ _ _ _ x1 k z x4 x5 0 0 0 rfl rfl rfl ?_ ?_) rfl ⟨rfl,?_⟩
                    · (repeat (with_reducible first|exact H3.out.t|apply blk_two0|apply blk_two1|apply blk_five0|apply blk_five1|apply blk_five2|apply blk_five3|apply blk_five4|apply blk_f))<;>omega
                    · (repeat (with_reducible first|exact H3.out.a|apply blk_two0|apply blk_two1|apply blk_five0|apply blk_five1|apply blk_five2|apply blk_five3|apply blk_five4|apply blk_f))<;>omega
                    · (repeat (with_reducible first|exact H3.out.below|apply below_set))<;>omega
                  · have q8:(x8 != 0)=true:=bne_iff_ne.mpr hx8;have e2:R=(0,0,0,0,⟨#[]⟩,(k:Int),(z:Int),x8):=hR.trans (HFE.out hx8);subst e2;clear hR HFO HFE hx8
                    go_upto_region 31 with (first
                     |(go_at_call 24;refine HC.out.mono ?_;rintro e w1 ⟨rfl,hb1⟩
                       have HB1:=Aside0.mk (NxBox.mk (blk_below HB.out.t hb1) (blk_below HB.out.a hb1) (below_step HB.out.below hb1));have h1a0:=(blk_cell HB1.out.a 0).trans rfl;have h1a1:=(blk_cell HB1.out.a 1).trans rfl;have g1a0:=blk_frozen HB1.out.a 0;have g1a1:=blk_frozen HB1.out.a 1;have h1t0:=(blk_cell HB1.out.t 0).trans rfl;have h1t1:=(blk_cell HB1.out.t 1).trans rfl;have h1t2:=(blk_cell HB1.out.t 2).trans rfl;have h1t3:=(blk_cell HB1.out.t 3).trans rfl;have h1t4:=(blk_cell HB1.out.t 4).trans rfl;have g1t0:=blk_frozen HB1.out.t 0;have g1t1:=blk_frozen HB1.out.t 1;have g1t2:=blk_frozen HB1.out.t 2;have g1t3:=blk_frozen HB1.out.t 3;have g1t4:=blk_frozen HB1.out.t 4
                       skip
                       clear hb1 HB)
                     |(go_at_call 27;refine (HW.out _ (by (repeat (with_reducible first|exact HB1.out.below|apply below_set))<;>omega)).mono ?_;rintro e w2 ⟨rfl,hb2⟩
                       have A2:=Aside0.mk (blk_below (g:=w.heap.size+1) (o:=Obj.cells #[.int .i64 k,.int .i64 d] 27 (0,0)) (by (repeat (with_reducible first|exact HB1.out.a|apply blk_two0|apply blk_two1|apply blk_five0|apply blk_five1|apply blk_five2|apply blk_five3|apply blk_five4|apply blk_f))<;>omega) hb2);have T2:=Aside0.mk (blk_below (g:=w.heap.size) (o:=Obj.cells #[.int .i64 0,.int .i64 0,.int .i64 0,.int .i64 0,.string ⟨#[]⟩] 36 (0,0)) (by (repeat (with_reducible first|exact HB1.out.t|apply blk_two0|apply blk_two1|apply blk_five0|apply blk_five1|apply blk_five2|apply blk_five3|apply blk_five4|apply blk_f))<;>omega) hb2);have B2:=Aside0.mk (below_step (by (repeat (with_reducible first|exact HB1.out.below|apply below_set))<;>omega) hb2);have h2a0:=(blk_cell A2.out 0).trans rfl;have h2a1:=(blk_cell A2.out 1).trans rfl;have g2a0:=blk_frozen A2.out 0;have g2a1:=blk_frozen A2.out 1;have h2t0:=(blk_cell T2.out 0).trans rfl;have h2t1:=(blk_cell T2.out 1).trans rfl;have h2t2:=(blk_cell T2.out 2).trans rfl;have h2t3:=(blk_cell T2.out 3).trans rfl;have h2t4:=(blk_cell T2.out 4).trans rfl;have g2t0:=blk_frozen T2.out 0;have g2t1:=blk_frozen T2.out 1;have g2t2:=blk_frozen T2.out 2;have g2t3:=blk_frozen T2.out 3;have g2t4:=blk_frozen T2.out 4
                       have hcv: ∀v,(convert 23 9 (.slice (some ⟨b,off+k,none⟩) (z-k) (c-k))).run Tryd.prog (w2.setCell ⟨w.heap.size+1,1,none⟩ v)= .ok (.string S) (w2.setCell ⟨w.heap.size+1,1,none⟩ v):=fun v=>HV.out _ (by (repeat (with_reducible first|exact B2.out|apply below_set))<;>omega)
                       clear hb2)
                     |(go_at_call 29;refine (HT.out _ (by (repeat (with_reducible first|exact B2.out|apply below_set))<;>omega)).mono ?_;rintro e w4 ⟨rfl,hb4⟩
                       have A4:=Aside0.mk (blk_below (g:=w.heap.size+1) (o:=Obj.cells #[.int .i64 k,.int .i64 z] 27 (0,0)) (by (repeat (with_reducible first|exact A2.out|apply blk_two0|apply blk_two1|apply blk_five0|apply blk_five1|apply blk_five2|apply blk_five3|apply blk_five4|apply blk_f))<;>omega) hb4);have T4:=Aside0.mk (blk_below (g:=w.heap.size) (o:=Obj.cells #[.int .i64 0,.int .i64 0,.int .i64 0,.int .i64 0,.string ⟨#[]⟩] 36 (0,0)) (by (repeat (with_reducible first|exact T2.out|apply blk_two0|apply blk_two1|apply blk_five0|apply blk_five1|apply blk_five2|apply blk_five3|apply blk_five4|apply blk_f))<;>omega) hb4);have B4:=Aside0.mk (below_step (by (repeat (with_reducible first|exact B2.out|apply below_set))<;>omega) hb4);have h4a0:=(blk_cell A4.out 0).trans rfl;have h4a1:=(blk_cell A4.out 1).trans rfl;have g4a0:=blk_frozen A4.out 0;have g4a1:=blk_frozen A4.out 1;have h4t0:=(blk_cell T4.out 0).trans rfl;have h4t1:=(blk_cell T4.out 1).trans rfl;have h4t2:=(blk_cell T4.out 2).trans rfl;have h4t3:=(blk_cell T4.out 3).trans rfl;have h4t4:=(blk_cell T4.out 4).trans rfl;have g4t0:=blk_frozen T4.out 0;have g4t1:=blk_frozen T4.out 1;have g4t2:=blk_frozen T4.out 2;have g4t3:=blk_frozen T4.out 3;have g4t4:=blk_frozen T4.out 4
                       clear hb4))
                    refine gen_world (fun W=>NxSt w W x1 x4 x5 k z) ⟨?_,?_,?_⟩ ?_
                    · (repeat (with_reducible first|exact T4.out|apply blk_two0|apply blk_two1|apply blk_five0|apply blk_five1|apply blk_five2|apply blk_five3|apply blk_five4|apply blk_f))<;>omega
                    · (repeat (with_reducible first|exact A4.out|apply blk_two0|apply blk_two1|apply blk_five0|apply blk_five1|apply blk_five2|apply blk_five3|apply blk_five4|apply blk_f))<;>omega
                    · (repeat (with_reducible first|exact B4.out|apply below_set))<;>omega
                    intro W3 h3;have H3:=Aside0.mk h3;have h3a0:=(blk_cell h3.a 0).trans rfl;have h3a1:=(blk_cell h3.a 1).trans rfl;have g3a0:=blk_frozen h3.a 0;have g3a1:=blk_frozen h3.a 1;have h3t0:=(blk_cell h3.t 0).trans rfl;have h3t1:=(blk_cell h3.t 1).trans rfl;have h3t2:=(blk_cell h3.t 2).trans rfl;have h3t3:=(blk_cell h3.t 3).trans rfl;have h3t4:=(blk_cell h3.t 4).trans rfl;have g3t0:=blk_frozen h3.t 0;have g3t1:=blk_frozen h3.t 1;have g3t2:=blk_frozen h3.t 2;have g3t3:=blk_frozen h3.t 3;have g3t4:=blk_frozen h3.t 4;clear h3
                    go_wp2_with fail
                    go_region
                    all_goals go_wp2_with fail
                    all_goals rw [Exit.noGoto_ret]
                    all_goals refine bodyPost_ret (nx_ret _ _ _ _ 0 0 0 0 ⟨#[]⟩ k z x8 rfl rfl rfl ?_ ?_) rfl ⟨rfl,?_⟩
                    · refine blk_drew ?_
                      (repeat (with_reducible first|exact H3.out.t|apply blk_two0|apply blk_two1|apply blk_five0|apply blk_five1|apply blk_five2|apply blk_five3|apply blk_five4|apply blk_f))<;>omega
                    · refine blk_drew ?_
                      (repeat (with_reducible first|exact H3.out.a|apply blk_two0|apply blk_two1|apply blk_five0|apply blk_five1|apply blk_five2|apply blk_five3|apply blk_five4|apply blk_f))<;>omega
                    · refine below_drew ?_
                      (repeat (with_reducible first|exact H3.out.below|apply below_set))<;>omega
              · skip
                have aw9:a≠9:=fun h=>aw (Or.inl h)
                have aw7:a≠7:=fun h=>aw (Or.inr (Or.inl h))
                have aw8:a≠8:=fun h=>aw (Or.inr (Or.inr h))
                clear aw hwg;by_cases a5:a=5
                · subst a5;have hz:=whileR_in l wordP d (by have:=HN.out;omega);rw [←HN.out] at hz;obtain ⟨hz1,hz2⟩:=hz;by_cases hdn:d<n
                  · have hdI:(d:Int)<n:=by omega
                    by_cases hy:rd l d=59
                    · skip
                      have hen:endR l k 5 d=d+1:=by unfold endR;rw [if_pos rfl,if_pos ⟨by have:=HN.out;omega,hy⟩]
                      have hke:kindR l k 5 d=hashR (strOfNums (sub l k (endR l k 5 d))):=rfl;rw [hen] at hke;have hS:=hash_some (strOfNums (sub l k (d+1)));have hFE:=HFE.out;have hFO:=HFO.out;rw [hke,hen] at hFE hFO
                      have hcv1:=fun (W:World) (hW:Below w.heap.size w W)=>HCV.out k (d+1) W (by omega) (by omega) hW
                      have hby:=fun (W:World) (hW:Below w.heap.size w W)=>HCE.out d W hdn hW
                      rw [hy] at hby;have hyB:((59:Int)==59)=true:=rfl;have hwk:=HWE.out;clear HFE HFO hke hen HCV HCE HWD HWK HWE HN hbyte HGG a1 a2 a3 a4 a6 aw9 aw7 aw8;generalize strOfNums (sub l k (d+1))=S at *; clear hz1 hz2;generalize whileR l wordP d=zz at*
                      obtain ⟨z,hz⟩: ∃z,d+1=z:=⟨_,rfl⟩
                      have hq:(d:Int)+1=(z:Int):=by omega
                      rw [hz] at hcv1;rw [hz] at hFO hFE;have HY:=Aside0.mk hby;have HZ:=Aside0.mk hz
                      have hzk:k≤z:=by omega
                      have hzc0:z≤n:=by omega
                      clear hby hz hy;generalize hashR S=x at *; obtain ⟨x1,x4,x5,x8⟩:=x;simp only at hS hFE hFO;have HFE:=Aside0.mk hFE;have HFO:=Aside0.mk hFO;have HV:=Aside0.mk hcv1;have HW:=Aside0.mk hwk
                      have HT:=Aside0.mk fun (W:World) (hW:Below w.heap.size w W)=>lexer_hash.calls S x1 0 0 x4 x5 x8 W hS
                      have hzI:(k:Int)≤z:=by omega
                      have hzc:(z:Int)≤c:=by omega
                      have hzN:z≤c:=by omega
                      clear hFE hFO hcv1 hwk hS;by_cases hx8:x8=0
                      · subst hx8;have e2:R=(x1,(k:Int),(z:Int),x4,x5,0,0,0):=hR.trans (HFO.out rfl);subst e2;clear hR HFO HFE
                        go_upto_region 31 with (first
                         |(go_at_call 24;refine HC.out.mono ?_;rintro e w1 ⟨rfl,hb1⟩
                           have HB1:=Aside0.mk (NxBox.mk (blk_below HB.out.t hb1) (blk_below HB.out.a hb1) (below_step HB.out.below hb1));have h1a0:=(blk_cell HB1.out.a 0).trans rfl;have h1a1:=(blk_cell HB1.out.a 1).trans rfl;have g1a0:=blk_frozen HB1.out.a 0;have g1a1:=blk_frozen HB1.out.a 1;have h1t0:=(blk_cell HB1.out.t 0).trans rfl;have h1t1:=(blk_cell HB1.out.t 1).trans rfl;have h1t2:=(blk_cell HB1.out.t 2).trans rfl;have h1t3:=(blk_cell HB1.out.t 3).trans rfl;have h1t4:=(blk_cell HB1.out.t 4).trans rfl;have g1t0:=blk_frozen HB1.out.t 0;have g1t1:=blk_frozen HB1.out.t 1;have g1t2:=blk_frozen HB1.out.t 2;have g1t3:=blk_frozen HB1.out.t 3;have g1t4:=blk_frozen HB1.out.t 4
                           skip
                           clear hb1 HB)
                         |(go_at_call 27;refine (HW.out _ (by (repeat (with_reducible first|exact HB1.out.below|apply below_set))<;>omega)).mono ?_;rintro e w2 ⟨rfl,hb2⟩
                           have A2:=Aside0.mk (blk_below (g:=w.heap.size+1) (o:=Obj.cells #[.int .i64 k,.int .i64 d] 27 (0,0)) (by (repeat (with_reducible first|exact HB1.out.a|apply blk_two0|apply blk_two1|apply blk_five0|apply blk_five1|apply blk_five2|apply blk_five3|apply blk_five4|apply blk_f))<;>omega) hb2);have T2:=Aside0.mk (blk_below (g:=w.heap.size) (o:=Obj.cells #[.int .i64 0,.int .i64 0,.int .i64 0,.int .i64 0,.string ⟨#[]⟩] 36 (0,0)) (by (repeat (with_reducible first|exact HB1.out.t|apply blk_two0|apply blk_two1|apply blk_five0|apply blk_five1|apply blk_five2|apply blk_five3|apply blk_five4|apply blk_f))<;>omega) hb2);have B2:=Aside0.mk (below_step (by (repeat (with_reducible first|exact HB1.out.below|apply below_set))<;>omega) hb2);have h2a0:=(blk_cell A2.out 0).trans rfl;have h2a1:=(blk_cell A2.out 1).trans rfl;have g2a0:=blk_frozen A2.out 0;have g2a1:=blk_frozen A2.out 1;have h2t0:=(blk_cell T2.out 0).trans rfl;have h2t1:=(blk_cell T2.out 1).trans rfl;have h2t2:=(blk_cell T2.out 2).trans rfl;have h2t3:=(blk_cell T2.out 3).trans rfl;have h2t4:=(blk_cell T2.out 4).trans rfl;have g2t0:=blk_frozen T2.out 0;have g2t1:=blk_frozen T2.out 1;have g2t2:=blk_frozen T2.out 2;have g2t3:=blk_frozen T2.out 3;have g2t4:=blk_frozen T2.out 4
                           have hcv: ∀v,(convert 23 9 (.slice (some ⟨b,off+k,none⟩) (z-k) (c-k))).run Tryd.prog (w2.setCell ⟨w.heap.size+1,1,none⟩ v)= .ok (.string S) (w2.setCell ⟨w.heap.size+1,1,none⟩ v):=fun v=>HV.out _ (by (repeat (with_reducible first|exact B2.out|apply below_set))<;>omega)
                           have hcv2: ∀u v,(convert 23 9 (.slice (some ⟨b,off+k,none⟩) (z-k) (c-k))).run Tryd.prog ((w2.setCell ⟨w.heap.size+1,1,none⟩ u).setCell ⟨w.heap.size+1,1,none⟩ v)= .ok (.string S) ((w2.setCell ⟨w.heap.size+1,1,none⟩ u).setCell ⟨w.heap.size+1,1,none⟩ v):=fun u v=>HV.out _ (by (repeat (with_reducible first|exact B2.out|apply below_set))<;>omega)
                           have hbd: ∀v,(w2.setCell ⟨w.heap.size+1,1,none⟩ v).cell? ⟨b,off+d,none⟩=some (.int .u8 59):=fun v=>HY.out _ (by (repeat (with_reducible first|exact B2.out|apply below_set))<;>omega)
                           clear hb2)
                         |(go_at_call 28;refine (HT.out _ (by (repeat (with_reducible first|exact B2.out|apply below_set))<;>omega)).mono ?_;rintro e w4 ⟨rfl,hb4⟩
                           have A4:=Aside0.mk (blk_below (g:=w.heap.size+1) (o:=Obj.cells #[.int .i64 k,.int .i64 z] 27 (0,0)) (by (repeat (with_reducible first|exact A2.out|apply blk_two0|apply blk_two1|apply blk_five0|apply blk_five1|apply blk_five2|apply blk_five3|apply blk_five4|apply blk_f))<;>omega) hb4);have T4:=Aside0.mk (blk_below (g:=w.heap.size) (o:=Obj.cells #[.int .i64 0,.int .i64 0,.int .i64 0,.int .i64 0,.string ⟨#[]⟩] 36 (0,0)) (by (repeat (with_reducible first|exact T2.out|apply blk_two0|apply blk_two1|apply blk_five0|apply blk_five1|apply blk_five2|apply blk_five3|apply blk_five4|apply blk_f))<;>omega) hb4);have B4:=Aside0.mk (below_step (by (repeat (with_reducible first|exact B2.out|apply below_set))<;>omega) hb4);have h4a0:=(blk_cell A4.out 0).trans rfl;have h4a1:=(blk_cell A4.out 1).trans rfl;have g4a0:=blk_frozen A4.out 0;have g4a1:=blk_frozen A4.out 1;have h4t0:=(blk_cell T4.out 0).trans rfl;have h4t1:=(blk_cell T4.out 1).trans rfl;have h4t2:=(blk_cell T4.out 2).trans rfl;have h4t3:=(blk_cell T4.out 3).trans rfl;have h4t4:=(blk_cell T4.out 4).trans rfl;have g4t0:=blk_frozen T4.out 0;have g4t1:=blk_frozen T4.out 1;have g4t2:=blk_frozen T4.out 2;have g4t3:=blk_frozen T4.out 3;have g4t4:=blk_frozen T4.out 4
                           clear hb4))
                        refine gen_world (fun W=>NxSt w W x1 x4 x5 k z) ⟨?_,?_,?_⟩ ?_
                        · (repeat (with_reducible first|exact T4.out|apply blk_two0|apply blk_two1|apply blk_five0|apply blk_five1|apply blk_five2|apply blk_five3|apply blk_five4|apply blk_f))<;>omega
                        · (repeat (with_reducible first|exact A4.out|apply blk_two0|apply blk_two1|apply blk_five0|apply blk_five1|apply blk_five2|apply blk_five3|apply blk_five4|apply blk_f))<;>omega
                        · (repeat (with_reducible first|exact B4.out|apply below_set))<;>omega
                        intro W3 h3;have H3:=Aside0.mk h3;have h3a0:=(blk_cell h3.a 0).trans rfl;have h3a1:=(blk_cell h3.a 1).trans rfl;have g3a0:=blk_frozen h3.a 0;have g3a1:=blk_frozen h3.a 1;have h3t0:=(blk_cell h3.t 0).trans rfl;have h3t1:=(blk_cell h3.t 1).trans rfl;have h3t2:=(blk_cell h3.t 2).trans rfl;have h3t3:=(blk_cell h3.t 3).trans rfl;have h3t4:=(blk_cell h3.t 4).trans rfl;have g3t0:=blk_frozen h3.t 0;have g3t1:=blk_frozen h3.t 1;have g3t2:=blk_frozen h3.t 2;have g3t3:=blk_frozen h3.t 3;have g3t4:=blk_frozen h3.t 4;clear h3
                        go_wp2_with fail
                        rw [Exit.noGoto_ret];refine bodyPost_ret (nx_ret _ _ _ _ x1 k z x4 x5 0 0 0 rfl rfl rfl ?_ ?_) rfl ⟨rfl,?_⟩
                        · (repeat (with_reducible first|exact H3.out.t|apply blk_two0|apply blk_two1|apply blk_five0|apply blk_five1|apply blk_five2|apply blk_five3|apply blk_five4|apply blk_f))<;>omega
                        · (repeat (with_reducible first|exact H3.out.a|apply blk_two0|apply blk_two1|apply blk_five0|apply blk_five1|apply blk_five2|apply blk_five3|apply blk_five4|apply blk_f))<;>omega
                        · (repeat (with_reducible first|exact H3.out.below|apply below_set))<;>omega
                      · have q8:(x8 != 0)=true:=bne_iff_ne.mpr hx8;have e2:R=(0,0,0,0,⟨#[]⟩,(k:Int),(z:Int),x8):=hR.trans (HFE.out hx8);subst e2;clear hR HFO HFE hx8
                        go_upto_region 31 with (first
                         |(go_at_call 24;refine HC.out.mono ?_;rintro e w1 ⟨rfl,hb1⟩
                           have HB1:=Aside0.mk (NxBox.mk (blk_below HB.out.t hb1) (blk_below HB.out.a hb1) (below_step HB.out.below hb1));have h1a0:=(blk_cell HB1.out.a 0).trans rfl;have h1a1:=(blk_cell HB1.out.a 1).trans rfl;have g1a0:=blk_frozen HB1.out.a 0;have g1a1:=blk_frozen HB1.out.a 1;have h1t0:=(blk_cell HB1.out.t 0).trans rfl;have h1t1:=(blk_cell HB1.out.t 1).trans rfl;have h1t2:=(blk_cell HB1.out.t 2).trans rfl;have h1t3:=(blk_cell HB1.out.t 3).trans rfl;have h1t4:=(blk_cell HB1.out.t 4).trans rfl;have g1t0:=blk_frozen HB1.out.t 0;have g1t1:=blk_frozen HB1.out.t 1;have g1t2:=blk_frozen HB1.out.t 2;have g1t3:=blk_frozen HB1.out.t 3;have g1t4:=blk_frozen HB1.out.t 4
                           skip
                           clear hb1 HB)
                         |(go_at_call 27;refine (HW.out _ (by (repeat (with_reducible first|exact HB1.out.below|apply below_set))<;>omega)).mono ?_;rintro e w2 ⟨rfl,hb2⟩
                           have A2:=Aside0.mk (blk_below (g:=w.heap.size+1) (o:=Obj.cells #[.int .i64 k,.int .i64 d] 27 (0,0)) (by (repeat (with_reducible first|exact HB1.out.a|apply blk_two0|apply blk_two1|apply blk_five0|apply blk_five1|apply blk_five2|apply blk_five3|apply blk_five4|apply blk_f))<;>omega) hb2);have T2:=Aside0.mk (blk_below (g:=w.heap.size) (o:=Obj.cells #[.int .i64 0,.int .i64 0,.int .i64 0,.int .i64 0,.string ⟨#[]⟩] 36 (0,0)) (by (repeat (with_reducible first|exact HB1.out.t|apply blk_two0|apply blk_two1|apply blk_five0|apply blk_five1|apply blk_five2|apply blk_five3|apply blk_five4|apply blk_f))<;>omega) hb2);have B2:=Aside0.mk (below_step (by (repeat (with_reducible first|exact HB1.out.below|apply below_set))<;>omega) hb2);have h2a0:=(blk_cell A2.out 0).trans rfl;have h2a1:=(blk_cell A2.out 1).trans rfl;have g2a0:=blk_frozen A2.out 0;have g2a1:=blk_frozen A2.out 1;have h2t0:=(blk_cell T2.out 0).trans rfl;have h2t1:=(blk_cell T2.out 1).trans rfl;have h2t2:=(blk_cell T2.out 2).trans rfl;have h2t3:=(blk_cell T2.out 3).trans rfl;have h2t4:=(blk_cell T2.out 4).trans rfl;have g2t0:=blk_frozen T2.out 0;have g2t1:=blk_frozen T2.out 1;have g2t2:=blk_frozen T2.out 2;have g2t3:=blk_frozen T2.out 3;have g2t4:=blk_frozen T2.out 4
                           have hcv: ∀v,(convert 23 9 (.slice (some ⟨b,off+k,none⟩) (z-k) (c-k))).run Tryd.prog (w2.setCell ⟨w.heap.size+1,1,none⟩ v)= .ok (.string S) (w2.setCell ⟨w.heap.size+1,1,none⟩ v):=fun v=>HV.out _ (by (repeat (with_reducible first|exact B2.out|apply below_set))<;>omega)
                           have hcv2: ∀u v,(convert 23 9 (.slice (some ⟨b,off+k,none⟩) (z-k) (c-k))).run Tryd.prog ((w2.setCell ⟨w.heap.size+1,1,none⟩ u).setCell ⟨w.heap.size+1,1,none⟩ v)= .ok (.string S) ((w2.setCell ⟨w.heap.size+1,1,none⟩ u).setCell ⟨w.heap.size+1,1,none⟩ v):=fun u v=>HV.out _ (by (repeat (with_reducible first|exact B2.out|apply below_set))<;>omega)
                           have hbd: ∀v,(w2.setCell ⟨w.heap.size+1,1,none⟩ v).cell? ⟨b,off+d,none⟩=some (.int .u8 59):=fun v=>HY.out _ (by (repeat (with_reducible first|exact B2.out|apply below_set))<;>omega)
                           clear hb2)
                         |(go_at_call 28;refine (HT.out _ (by (repeat (with_reducible first|exact B2.out|apply below_set))<;>omega)).mono ?_;rintro e w4 ⟨rfl,hb4⟩
                           have A4:=Aside0.mk (blk_below (g:=w.heap.size+1) (o:=Obj.cells #[.int .i64 k,.int .i64 z] 27 (0,0)) (by (repeat (with_reducible first|exact A2.out|apply blk_two0|apply blk_two1|apply blk_five0|apply blk_five1|apply blk_five2|apply blk_five3|apply blk_five4|apply blk_f))<;>omega) hb4);have T4:=Aside0.mk (blk_below (g:=w.heap.size) (o:=Obj.cells #[.int .i64 0,.int .i64 0,.int .i64 0,.int .i64 0,.string ⟨#[]⟩] 36 (0,0)) (by (repeat (with_reducible first|exact T2.out|apply blk_two0|apply blk_two1|apply blk_five0|apply blk_five1|apply blk_five2|apply blk_five3|apply blk_five4|apply blk_f))<;>omega) hb4);have B4:=Aside0.mk (below_step (by (repeat (with_reducible first|exact B2.out|apply below_set))<;>omega) hb4);have h4a0:=(blk_cell A4.out 0).trans rfl;have h4a1:=(blk_cell A4.out 1).trans rfl;have g4a0:=blk_frozen A4.out 0;have g4a1:=blk_frozen A4.out 1;have h4t0:=(blk_cell T4.out 0).trans rfl;have h4t1:=(blk_cell T4.out 1).trans rfl;have h4t2:=(blk_cell T4.out 2).trans rfl;have h4t3:=(blk_cell T4.out 3).trans rfl;have h4t4:=(blk_cell T4.out 4).trans rfl;have g4t0:=blk_frozen T4.out 0;have g4t1:=blk_frozen T4.out 1;have g4t2:=blk_frozen T4.out 2;have g4t3:=blk_frozen T4.out 3;have g4t4:=blk_frozen T4.out 4
                           clear hb4))
                        refine gen_world (fun W=>NxSt w W x1 x4 x5 k z) ⟨?_,?_,?_⟩ ?_
                        · (repeat (with_reducible first|exact T4.out|apply blk_two0|apply blk_two1|apply blk_five0|apply blk_five1|apply blk_five2|apply blk_five3|apply blk_five4|apply blk_f))<;>omega
                        · (repeat (with_reducible first|exact A4.out|apply blk_two0|apply blk_two1|apply blk_five0|apply blk_five1|apply blk_five2|apply blk_five3|apply blk_five4|apply blk_f))<;>omega
                        · (repeat (with_reducible first|exact B4.out|apply below_set))<;>omega
                        intro W3 h3;have H3:=Aside0.mk h3;have h3a0:=(blk_cell h3.a 0).trans rfl;have h3a1:=(blk_cell h3.a 1).trans rfl;have g3a0:=blk_frozen h3.a 0;have g3a1:=blk_frozen h3.a 1;have h3t0:=(blk_cell h3.t 0).trans rfl;have h3t1:=(blk_cell h3.t 1).trans rfl;have h3t2:=(blk_cell h3.t 2).trans rfl;have h3t3:=(blk_cell h3.t 3).trans rfl;have h3t4:=(blk_cell h3.t 4).trans rfl;have g3t0:=blk_frozen h3.t 0;have g3t1:=blk_frozen h3.t 1;have g3t2:=blk_frozen h3.t 2;have g3t3:=blk_frozen h3.t 3;have g3t4:=blk_frozen h3.t 4;clear h3
                        go_wp2_with fail
                        go_region
                        all_goals go_wp2_with fail
                        all_goals rw [Exit.noGoto_ret]
                        all_goals refine bodyPost_ret (nx_ret _ _ _ _ 0 0 0 0 ⟨#[]⟩ k z x8 rfl rfl rfl ?_ ?_) rfl ⟨rfl,?_⟩
                        · refine blk_drew ?_
                          (repeat (with_reducible first|exact H3.out.t|apply blk_two0|apply blk_two1|apply blk_five0|apply blk_five1|apply blk_five2|apply blk_five3|apply blk_five4|apply blk_f))<;>omega
                        · refine blk_drew ?_
                          (repeat (with_reducible first|exact H3.out.a|apply blk_two0|apply blk_two1|apply blk_five0|apply blk_five1|apply blk_five2|apply blk_five3|apply blk_five4|apply blk_f))<;>omega
                        · refine below_drew ?_
                          (repeat (with_reducible first|exact H3.out.below|apply below_set))<;>omega
                    · skip
                      have hen:endR l k 5 d=whileR l wordP d:=by unfold endR;rw [if_pos rfl,if_neg (fun h=>hy h.2)]
                      have hke:kindR l k 5 d=hashR (strOfNums (sub l k (endR l k 5 d))):=rfl;rw [hen] at hke;have hS:=hash_some (strOfNums (sub l k (whileR l wordP d)));have hFE:=HFE.out;have hFO:=HFO.out;rw [hke,hen] at hFE hFO
                      have hcv1:=fun (W:World) (hW:Below w.heap.size w W)=>HCV.out k (whileR l wordP d) W (by omega) (by omega) hW
                      have hby:=fun (W:World) (hW:Below w.heap.size w W)=>HCE.out d W hdn hW
                      have hyB:(rd l d==59)=false:=beq_eq_false_iff_ne.mpr hy;have hwk:=HWE.out;clear HFE HFO hke hen HCV HCE HWD HWK HWE HN hbyte HGG a1 a2 a3 a4 a6 aw9 aw7 aw8;generalize strOfNums (sub l k (whileR l wordP d))=S at *; clear hy;generalize whileR l wordP d=z at *; generalize rd l d=y at *; have HY:=Aside0.mk hby;clear hby;generalize hashR S=x at *; obtain ⟨x1,x4,x5,x8⟩:=x;simp only at hS hFE hFO;have HFE:=Aside0.mk hFE;have HFO:=Aside0.mk hFO;have HV:=Aside0.mk hcv1;have HW:=Aside0.mk hwk
                      have HT:=Aside0.mk fun (W:World) (hW:Below w.heap.size w W)=>lexer_hash.calls S x1 0 0 x4 x5 x8 W hS
                      have hzI:(k:Int)≤z:=by omega
                      have hzc:(z:Int)≤c:=by omega
                      have hzN:z≤c:=by omega
                      clear hFE hFO hcv1 hwk hS;by_cases hx8:x8=0
                      · subst hx8;have e2:R=(x1,(k:Int),(z:Int),x4,x5,0,0,0):=hR.trans (HFO.out rfl);subst e2;clear hR HFO HFE
                        go_upto_region 31 with (first
                         |(go_at_call 24;refine HC.out.mono ?_;rintro e w1 ⟨rfl,hb1⟩
                           have HB1:=Aside0.mk (NxBox.mk (blk_below HB.out.t hb1) (blk_below HB.out.a hb1) (below_step HB.out.below hb1));have h1a0:=(blk_cell HB1.out.a 0).trans rfl;have h1a1:=(blk_cell HB1.out.a 1).trans rfl;have g1a0:=blk_frozen HB1.out.a 0;have g1a1:=blk_frozen HB1.out.a 1;have h1t0:=(blk_cell HB1.out.t 0).trans rfl;have h1t1:=(blk_cell HB1.out.t 1).trans rfl;have h1t2:=(blk_cell HB1.out.t 2).trans rfl;have h1t3:=(blk_cell HB1.out.t 3).trans rfl;have h1t4:=(blk_cell HB1.out.t 4).trans rfl;have g1t0:=blk_frozen HB1.out.t 0;have g1t1:=blk_frozen HB1.out.t 1;have g1t2:=blk_frozen HB1.out.t 2;have g1t3:=blk_frozen HB1.out.t 3;have g1t4:=blk_frozen HB1.out.t 4
                           skip
                           clear hb1 HB)
                         |(go_at_call 27;refine (HW.out _ (by (repeat (with_reducible first|exact HB1.out.below|apply below_set))<;>omega)).mono ?_;rintro e w2 ⟨rfl,hb2⟩
                           have A2:=Aside0.mk (blk_below (g:=w.heap.size+1) (o:=Obj.cells #[.int .i64 k,.int .i64 d] 27 (0,0)) (by (repeat (with_reducible first|exact HB1.out.a|apply blk_two0|apply blk_two1|apply blk_five0|apply blk_five1|apply blk_five2|apply blk_five3|apply blk_five4|apply blk_f))<;>omega) hb2);have T2:=Aside0.mk (blk_below (g:=w.heap.size) (o:=Obj.cells #[.int .i64 0,.int .i64 0,.int .i64 0,.int .i64 0,.string ⟨#[]⟩] 36 (0,0)) (by (repeat (with_reducible first|exact HB1.out.t|apply blk_two0|apply blk_two1|apply blk_five0|apply blk_five1|apply blk_five2|apply blk_five3|apply blk_five4|apply blk_f))<;>omega) hb2);have B2:=Aside0.mk (below_step (by (repeat (with_reducible first|exact HB1.out.below|apply below_set))<;>omega) hb2);have h2a0:=(blk_cell A2.out 0).trans rfl;have h2a1:=(blk_cell A2.out 1).trans rfl;have g2a0:=blk_frozen A2.out 0;have g2a1:=blk_frozen A2.out 1;have h2t0:=(blk_cell T2.out 0).trans rfl;have h2t1:=(blk_cell T2.out 1).trans rfl;have h2t2:=(blk_cell T2.out 2).trans rfl;have h2t3:=(blk_cell T2.out 3).trans rfl;have h2t4:=(blk_cell T2.out 4).trans rfl;have g2t0:=blk_frozen T2.out 0;have g2t1:=blk_frozen T2.out 1;have g2t2:=blk_frozen T2.out 2;have g2t3:=blk_frozen T2.out 3;have g2t4:=blk_frozen T2.out 4
                           have hcv: ∀v,(convert 23 9 (.slice (some ⟨b,off+k,none⟩) (z-k) (c-k))).run Tryd.prog (w2.setCell ⟨w.heap.size+1,1,none⟩ v)= .ok (.string S) (w2.setCell ⟨w.heap.size+1,1,none⟩ v):=fun v=>HV.out _ (by (repeat (with_reducible first|exact B2.out|apply below_set))<;>omega)
                           have hbd: ∀v,(w2.setCell ⟨w.heap.size+1,1,none⟩ v).cell? ⟨b,off+d,none⟩=some (.int .u8 y):=fun v=>HY.out _ (by (repeat (with_reducible first|exact B2.out|apply below_set))<;>omega)
                           clear hb2)
                         |(go_at_call 28;refine (HT.out _ (by (repeat (with_reducible first|exact B2.out|apply below_set))<;>omega)).mono ?_;rintro e w4 ⟨rfl,hb4⟩
                           have A4:=Aside0.mk (blk_below (g:=w.heap.size+1) (o:=Obj.cells #[.int .i64 k,.int .i64 z] 27 (0,0)) (by (repeat (with_reducible first|exact A2.out|apply blk_two0|apply blk_two1|apply blk_five0|apply blk_five1|apply blk_five2|apply blk_five3|apply blk_five4|apply blk_f))<;>omega) hb4);have T4:=Aside0.mk (blk_below (g:=w.heap.size) (o:=Obj.cells #[.int .i64 0,.int .i64 0,.int .i64 0,.int .i64 0,.string ⟨#[]⟩] 36 (0,0)) (by (repeat (with_reducible first|exact T2.out|apply blk_two0|apply blk_two1|apply blk_five0|apply blk_five1|apply blk_five2|apply blk_five3|apply blk_five4|apply blk_f))<;>omega) hb4);have B4:=Aside0.mk (below_step (by (repeat (with_reducible first|exact B2.out|apply below_set))<;>omega) hb4);have h4a0:=(blk_cell A4.out 0).trans rfl;have h4a1:=(blk_cell A4.out 1).trans rfl;have g4a0:=blk_frozen A4.out 0;have g4a1:=blk_frozen A4.out 1;have h4t0:=(blk_cell T4.out 0).trans rfl;have h4t1:=(blk_cell T4.out 1).trans rfl;have h4t2:=(blk_cell T4.out 2).trans rfl;have h4t3:=(blk_cell T4.out 3).trans rfl;have h4t4:=(blk_cell T4.out 4).trans rfl;have g4t0:=blk_frozen T4.out 0;have g4t1:=blk_frozen T4.out 1;have g4t2:=blk_frozen T4.out 2;have g4t3:=blk_frozen T4.out 3;have g4t4:=blk_frozen T4.out 4
                           clear hb4))
                        refine gen_world (fun W=>NxSt w W x1 x4 x5 k z) ⟨?_,?_,?_⟩ ?_
                        · (repeat (with_reducible first|exact T4.out|apply blk_two0|apply blk_two1|apply blk_five0|apply blk_five1|apply blk_five2|apply blk_five3|apply blk_five4|apply blk_f))<;>omega
                        · (repeat (with_reducible first|exact A4.out|apply blk_two0|apply blk_two1|apply blk_five0|apply blk_five1|apply blk_five2|apply blk_five3|apply blk_five4|apply blk_f))<;>omega
                        · (repeat (with_reducible first|exact B4.out|apply below_set))<;>omega
                        intro W3 h3;have H3:=Aside0.mk h3;have h3a0:=(blk_cell h3.a 0).trans rfl;have h3a1:=(blk_cell h3.a 1).trans rfl;have g3a0:=blk_frozen h3.a 0;have g3a1:=blk_frozen h3.a 1;have h3t0:=(blk_cell h3.t 0).trans rfl;have h3t1:=(blk_cell h3.t 1).trans rfl;have h3t2:=(blk_cell h3.t 2).trans rfl;have h3t3:=(blk_cell h3.t 3).trans rfl;have h3t4:=(blk_cell h3.t 4).trans rfl;have g3t0:=blk_frozen h3.t 0;have g3t1:=blk_frozen h3.t 1;have g3t2:=blk_frozen h3.t 2;have g3t3:=blk_frozen h3.t 3;have g3t4:=blk_frozen h3.t 4;clear h3
                        go_wp2_with fail
                        rw [Exit.noGoto_ret];refine bodyPost_ret (nx_ret _ _ _ _ x1 k z x4 x5 0 0 0 rfl rfl rfl ?_ ?_) rfl ⟨rfl,?_⟩
                        · (repeat (with_reducible first|exact H3.out.t|apply blk_two0|apply blk_two1|apply blk_five0|apply blk_five1|apply blk_five2|apply blk_five3|apply blk_five4|apply blk_f))<;>omega
                        · (repeat (with_reducible first|exact H3.out.a|apply blk_two0|apply blk_two1|apply blk_five0|apply blk_five1|apply blk_five2|apply blk_five3|apply blk_five4|apply blk_f))<;>omega
                        · (repeat (with_reducible first|exact H3.out.below|apply below_set))<;>omega
                      · have q8:(x8 != 0)=true:=bne_iff_ne.mpr hx8;have e2:R=(0,0,0,0,⟨#[]⟩,(k:Int),(z:Int),x8):=hR.trans (HFE.out hx8);subst e2;clear hR HFO HFE hx8
                        go_upto_region 31 with (first
                         |(go_at_call 24;refine HC.out.mono ?_;rintro e w1 ⟨rfl,hb1⟩
                           have HB1:=Aside0.mk (NxBox.mk (blk_below HB.out.t hb1) (blk_below HB.out.a hb1) (below_step HB.out.below hb1));have h1a0:=(blk_cell HB1.out.a 0).trans rfl;have h1a1:=(blk_cell HB1.out.a 1).trans rfl;have g1a0:=blk_frozen HB1.out.a 0;have g1a1:=blk_frozen HB1.out.a 1;have h1t0:=(blk_cell HB1.out.t 0).trans rfl;have h1t1:=(blk_cell HB1.out.t 1).trans rfl;have h1t2:=(blk_cell HB1.out.t 2).trans rfl;have h1t3:=(blk_cell HB1.out.t 3).trans rfl;have h1t4:=(blk_cell HB1.out.t 4).trans rfl;have g1t0:=blk_frozen HB1.out.t 0;have g1t1:=blk_frozen HB1.out.t 1;have g1t2:=blk_frozen HB1.out.t 2;have g1t3:=blk_frozen HB1.out.t 3;have g1t4:=blk_frozen HB1.out.t 4
                           skip
                           clear hb1 HB)
                         |(go_at_call 27;refine (HW.out _ (by (repeat (with_reducible first|exact HB1.out.below|apply below_set))<;>omega)).mono ?_;rintro e w2 ⟨rfl,hb2⟩
                           have A2:=Aside0.mk (blk_below (g:=w.heap.size+1) (o:=Obj.cells #[.int .i64 k,.int .i64 d] 27 (0,0)) (by (repeat (with_reducible first|exact HB1.out.a|apply blk_two0|apply blk_two1|apply blk_five0|apply blk_five1|apply blk_five2|apply blk_five3|apply blk_five4|apply blk_f))<;>omega) hb2);have T2:=Aside0.mk (blk_below (g:=w.heap.size) (o:=Obj.cells #[.int .i64 0,.int .i64 0,.int .i64 0,.int .i64 0,.string ⟨#[]⟩] 36 (0,0)) (by (repeat (with_reducible first|exact HB1.out.t|apply blk_two0|apply blk_two1|apply blk_five0|apply blk_five1|apply blk_five2|apply blk_five3|apply blk_five4|apply blk_f))<;>omega) hb2);have B2:=Aside0.mk (below_step (by (repeat (with_reducible first|exact HB1.out.below|apply below_set))<;>omega) hb2);have h2a0:=(blk_cell A2.out 0).trans rfl;have h2a1:=(blk_cell A2.out 1).trans rfl;have g2a0:=blk_frozen A2.out 0;have g2a1:=blk_frozen A2.out 1;have h2t0:=(blk_cell T2.out 0).trans rfl;have h2t1:=(blk_cell T2.out 1).trans rfl;have h2t2:=(blk_cell T2.out 2).trans rfl;have h2t3:=(blk_cell T2.out 3).trans rfl;have h2t4:=(blk_cell T2.out 4).trans rfl;have g2t0:=blk_frozen T2.out 0;have g2t1:=blk_frozen T2.out 1;have g2t2:=blk_frozen T2.out 2;have g2t3:=blk_frozen T2.out 3;have g2t4:=blk_frozen T2.out 4
                           have hcv: ∀v,(convert 23 9 (.slice (some ⟨b,off+k,none⟩) (z-k) (c-k))).run Tryd.prog (w2.setCell ⟨w.heap.size+1,1,none⟩ v)= .ok (.string S) (w2.setCell ⟨w.heap.size+1,1,none⟩ v):=fun v=>HV.out _ (by (repeat (with_reducible first|exact B2.out|apply below_set))<;>omega)
                           have hbd: ∀v,(w2.setCell ⟨w.heap.size+1,1,none⟩ v).cell? ⟨b,off+d,none⟩=some (.int .u8 y):=fun v=>HY.out _ (by (repeat (with_reducible first|exact B2.out|apply below_set))<;>omega)
                           clear hb2)
                         |(go_at_call 28;refine (HT.out _ (by (repeat (with_reducible first|exact B2.out|apply below_set))<;>omega)).mono ?_;rintro e w4 ⟨rfl,hb4⟩
                           have A4:=Aside0.mk (blk_below (g:=w.heap.size+1) (o:=Obj.cells #[.int .i64 k,.int .i64 z] 27 (0,0)) (by (repeat (with_reducible first|exact A2.out|apply blk_two0|apply blk_two1|apply blk_five0|apply blk_five1|apply blk_five2|apply blk_five3|apply blk_five4|apply blk_f))<;>omega) hb4);have T4:=Aside0.mk (blk_below (g:=w.heap.size) (o:=Obj.cells #[.int .i64 0,.int .i64 0,.int .i64 0,.int .i64 0,.string ⟨#[]⟩] 36 (0,0)) (by (repeat (with_reducible first|exact T2.out|apply blk_two0|apply blk_two1|apply blk_five0|apply blk_five1|apply blk_five2|apply blk_five3|apply blk_five4|apply blk_f))<;>omega) hb4);have B4:=Aside0.mk (below_step (by (repeat (with_reducible first|exact B2.out|apply below_set))<;>omega) hb4);have h4a0:=(blk_cell A4.out 0).trans rfl;have h4a1:=(blk_cell A4.out 1).trans rfl;have g4a0:=blk_frozen A4.out 0;have g4a1:=blk_frozen A4.out 1;have h4t0:=(blk_cell T4.out 0).trans rfl;have h4t1:=(blk_cell T4.out 1).trans rfl;have h4t2:=(blk_cell T4.out 2).trans rfl;have h4t3:=(blk_cell T4.out 3).trans rfl;have h4t4:=(blk_cell T4.out 4).trans rfl;have g4t0:=blk_frozen T4.out 0;have g4t1:=blk_frozen T4.out 1;have g4t2:=blk_frozen T4.out 2;have g4t3:=blk_frozen T4.out 3;have g4t4:=blk_frozen T4.out 4
                           clear hb4))
                        refine gen_world (fun W=>NxSt w W x1 x4 x5 k z) ⟨?_,?_,?_⟩ ?_
                        · (repeat (with_reducible first|exact T4.out|apply blk_two0|apply blk_two1|apply blk_five0|apply blk_five1|apply blk_five2|apply blk_five3|apply blk_five4|apply blk_f))<;>omega
                        · (repeat (with_reducible first|exact A4.out|apply blk_two0|apply blk_two1|apply blk_five0|apply blk_five1|apply blk_five2|apply blk_five3|apply blk_five4|apply blk_f))<;>omega
                        · (repeat (with_reducible first|exact B4.out|apply below_set))<;>omega
                        intro W3 h3;have H3:=Aside0.mk h3;have h3a0:=(blk_cell h3.a 0).trans rfl;have h3a1:=(blk_cell h3.a 1).trans rfl;have g3a0:=blk_frozen h3.a 0;have g3a1:=blk_frozen h3.a 1;have h3t0:=(blk_cell h3.t 0).trans rfl;have h3t1:=(blk_cell h3.t 1).trans rfl;have h3t2:=(blk_cell h3.t 2).trans rfl;have h3t3:=(blk_cell h3.t 3).trans rfl;have h3t4:=(blk_cell h3.t 4).trans rfl;have g3t0:=blk_frozen h3.t 0;have g3t1:=blk_frozen h3.t 1;have g3t2:=blk_frozen h3.t 2;have g3t3:=blk_frozen h3.t 3;have g3t4:=blk_frozen h3.t 4;clear h3
                        go_wp2_with fail
                        go_region
                        all_goals go_wp2_with fail
                        all_goals rw [Exit.noGoto_ret]
                        all_goals refine bodyPost_ret (nx_ret _ _ _ _ 0 0 0 0 ⟨#[]⟩ k z x8 rfl rfl rfl ?_ ?_) rfl ⟨rfl,?_⟩
                        · refine blk_drew ?_
                          (repeat (with_reducible first|exact H3.out.t|apply blk_two0|apply blk_two1|apply blk_five0|apply blk_five1|apply blk_five2|apply blk_five3|apply blk_five4|apply blk_f))<;>omega
                        · refine blk_drew ?_
                          (repeat (with_reducible first|exact H3.out.a|apply blk_two0|apply blk_two1|apply blk_five0|apply blk_five1|apply blk_five2|apply blk_five3|apply blk_five4|apply blk_f))<;>omega
                        · refine below_drew ?_
                          (repeat (with_reducible first|exact H3.out.below|apply below_set))<;>omega
                  · skip
                    have hen:endR l k 5 d=whileR l wordP d:=by unfold endR;rw [if_pos rfl,if_neg (fun h=>hdn (by have:=HN.out;omega))]
                    have hke:kindR l k 5 d=hashR (strOfNums (sub l k (endR l k 5 d))):=rfl;rw [hen] at hke;have hS:=hash_some (strOfNums (sub l k (whileR l wordP d)));have hFE:=HFE.out;have hFO:=HFO.out;rw [hke,hen] at hFE hFO
                    have hcv1:=fun (W:World) (hW:Below w.heap.size w W)=>HCV.out k (whileR l wordP d) W (by omega) (by omega) hW
                    have hdq:d=n:=by omega
                    have hdd1:decide (d<n)=false:=decide_eq_false hdn;have hdd2:decide ((d:Int)<n)=false:=decide_eq_false (by omega);have hwk:=HWE.out;clear HFE HFO hke hen HCV HCE HWD HWK HWE HN hbyte HGG a1 a2 a3 a4 a6 aw9 aw7 aw8;generalize strOfNums (sub l k (whileR l wordP d))=S at *; have HDQ:=Aside0.mk hdq;clear hdq;generalize whileR l wordP d=z at *; generalize hashR S=x at *; obtain ⟨x1,x4,x5,x8⟩:=x;simp only at hS hFE hFO;have HFE:=Aside0.mk hFE;have HFO:=Aside0.mk hFO;have HV:=Aside0.mk hcv1;have HW:=Aside0.mk hwk
                    have HT:=Aside0.mk fun (W:World) (hW:Below w.heap.size w W)=>lexer_hash.calls S x1 0 0 x4 x5 x8 W hS
                    have hzI:(k:Int)≤z:=by omega
                    have hzc:(z:Int)≤c:=by omega
                    have hzN:z≤c:=by omega
                    clear hFE hFO hcv1 hwk hS;by_cases hx8:x8=0
                    · subst hx8;have e2:R=(x1,(k:Int),(z:Int),x4,x5,0,0,0):=hR.trans (HFO.out rfl);subst e2;clear hR HFO HFE
                      go_upto_region 31 with (first
                        |(go_at_call 24;refine HC.out.mono ?_;rintro e w1 ⟨rfl,hb1⟩
                          have HB1:=Aside0.mk (NxBox.mk (blk_below HB.out.t hb1) (blk_below HB.out.a hb1) (below_step HB.out.below hb1));have h1a0:=(blk_cell HB1.out.a 0).trans rfl;have h1a1:=(blk_cell HB1.out.a 1).trans rfl;have g1a0:=blk_frozen HB1.out.a 0;have g1a1:=blk_frozen HB1.out.a 1;have h1t0:=(blk_cell HB1.out.t 0).trans rfl;have h1t1:=(blk_cell HB1.out.t 1).trans rfl;have h1t2:=(blk_cell HB1.out.t 2).trans rfl;have h1t3:=(blk_cell HB1.out.t 3).trans rfl;have h1t4:=(blk_cell HB1.out.t 4).trans rfl;have g1t0:=blk_frozen HB1.out.t 0;have g1t1:=blk_frozen HB1.out.t 1;have g1t2:=blk_frozen HB1.out.t 2;have g1t3:=blk_frozen HB1.out.t 3;have g1t4:=blk_frozen HB1.out.t 4
                          skip
                          clear hb1 HB)
                        |(go_at_call 27;refine (HW.out _ (by (repeat (with_reducible first|exact HB1.out.below|apply below_set))<;>omega)).mono ?_;rintro e w2 ⟨rfl,hb2⟩
                          have A2:=Aside0.mk (blk_below (g:=w.heap.size+1) (o:=Obj.cells #[.int .i64 k,.int .i64 d] 27 (0,0)) (by (repeat (with_reducible first|exact HB1.out.a|apply blk_two0|apply blk_two1|apply blk_five0|apply blk_five1|apply blk_five2|apply blk_five3|apply blk_five4|apply blk_f))<;>omega) hb2);have T2:=Aside0.mk (blk_below (g:=w.heap.size) (o:=Obj.cells #[.int .i64 0,.int .i64 0,.int .i64 0,.int .i64 0,.string ⟨#[]⟩] 36 (0,0)) (by (repeat (with_reducible first|exact HB1.out.t|apply blk_two0|apply blk_two1|apply blk_five0|apply blk_five1|apply blk_five2|apply blk_five3|apply blk_five4|apply blk_f))<;>omega) hb2);have B2:=Aside0.mk (below_step (by (repeat (with_reducible first|exact HB1.out.below|apply below_set))<;>omega) hb2);have h2a0:=(blk_cell A2.out 0).trans rfl;have h2a1:=(blk_cell A2.out 1).trans rfl;have g2a0:=blk_frozen A2.out 0;have g2a1:=blk_frozen A2.out 1;have h2t0:=(blk_cell T2.out 0).trans rfl;have h2t1:=(blk_cell T2.out 1).trans rfl;have h2t2:=(blk_cell T2.out 2).trans rfl;have h2t3:=(blk_cell T2.out 3).trans rfl;have h2t4:=(blk_cell T2.out 4).trans rfl;have g2t0:=blk_frozen T2.out 0;have g2t1:=blk_frozen T2.out 1;have g2t2:=blk_frozen T2.out 2;have g2t3:=blk_frozen T2.out 3;have g2t4:=blk_frozen T2.out 4
                          have hcv: ∀v,(convert 23 9 (.slice (some ⟨b,off+k,none⟩) (z-k) (c-k))).run Tryd.prog (w2.setCell ⟨w.heap.size+1,1,none⟩ v)= .ok (.string S) (w2.setCell ⟨w.heap.size+1,1,none⟩ v):=fun v=>HV.out _ (by (repeat (with_reducible first|exact B2.out|apply below_set))<;>omega)
                          clear hb2)
                        |(go_at_call 28;refine (HT.out _ (by (repeat (with_reducible first|exact B2.out|apply below_set))<;>omega)).mono ?_;rintro e w4 ⟨rfl,hb4⟩
                          have A4:=Aside0.mk (blk_below (g:=w.heap.size+1) (o:=Obj.cells #[.int .i64 k,.int .i64 z] 27 (0,0)) (by (repeat (with_reducible first|exact A2.out|apply blk_two0|apply blk_two1|apply blk_five0|apply blk_five1|apply blk_five2|apply blk_five3|apply blk_five4|apply blk_f))<;>omega) hb4);have T4:=Aside0.mk (blk_below (g:=w.heap.size) (o:=Obj.cells #[.int .i64 0,.int .i64 0,.int .i64 0,.int .i64 0,.string ⟨#[]⟩] 36 (0,0)) (by (repeat (with_reducible first|exact T2.out|apply blk_two0|apply blk_two1|apply blk_five0|apply blk_five1|apply blk_five2|apply blk_five3|apply blk_five4|apply blk_f))<;>omega) hb4);have B4:=Aside0.mk (below_step (by (repeat (with_reducible first|exact B2.out|apply below_set))<;>omega) hb4);have h4a0:=(blk_cell A4.out 0).trans rfl;have h4a1:=(blk_cell A4.out 1).trans rfl;have g4a0:=blk_frozen A4.out 0;have g4a1:=blk_frozen A4.out 1;have h4t0:=(blk_cell T4.out 0).trans rfl;have h4t1:=(blk_cell T4.out 1).trans rfl;have h4t2:=(blk_cell T4.out 2).trans rfl;have h4t3:=(blk_cell T4.out 3).trans rfl;have h4t4:=(blk_cell T4.out 4).trans rfl;have g4t0:=blk_frozen T4.out 0;have g4t1:=blk_frozen T4.out 1;have g4t2:=blk_frozen T4.out 2;have g4t3:=blk_frozen T4.out 3;have g4t4:=blk_frozen T4.out 4
                          clear hb4))
                      refine gen_world (fun W=>NxSt w W x1 x4 x5 k z) ⟨?_,?_,?_⟩ ?_
                      · (repeat (with_reducible first|exact T4.out|apply blk_two0|apply blk_two1|apply blk_five0|apply blk_five1|apply blk_five2|apply blk_five3|apply blk_five4|apply blk_f))<;>omega
                      · (repeat (with_reducible first|exact A4.out|apply blk_two0|apply blk_two1|apply blk_five0|apply blk_five1|apply blk_five2|apply blk_five3|apply blk_five4|apply blk_f))<;>omega
                      · (repeat (with_reducible first|exact B4.out|apply below_set))<;>omega
                      intro W3 h3;have H3:=Aside0.mk h3;have h3a0:=(blk_cell h3.a 0).trans rfl;have h3a1:=(blk_cell h3.a 1).trans rfl;have g3a0:=blk_frozen h3.a 0;have g3a1:=blk_frozen h3.a 1;have h3t0:=(blk_cell h3.t 0).trans rfl;have h3t1:=(blk_cell h3.t 1).trans rfl;have h3t2:=(blk_cell h3.t 2).trans rfl;have h3t3:=(blk_cell h3.t 3).trans rfl;have h3t4:=(blk_cell h3.t 4).trans rfl;have g3t0:=blk_frozen h3.t 0;have g3t1:=blk_frozen h3.t 1;have g3t2:=blk_frozen h3.t 2;have g3t3:=blk_frozen h3.t 3;have g3t4:=blk_frozen h3.t 4;clear h3
                      go_wp2_with fail
                      rw [Exit.noGoto_ret];refine bodyPost_ret (nx_ret _ _ _ _ x1 k z x4 x5 0 0 0 rfl rfl rfl ?_ ?_) rfl ⟨rfl,?_⟩
                      · (repeat (with_reducible first|exact H3.out.t|apply blk_two0|apply blk_two1|apply blk_five0|apply blk_five1|apply blk_five2|apply blk_five3|apply blk_five4|apply blk_f))<;>omega
                      · (repeat (with_reducible first|exact H3.out.a|apply blk_two0|apply blk_two1|apply blk_five0|apply blk_five1|apply blk_five2|apply blk_five3|apply blk_five4|apply blk_f))<;>omega
                      · (repeat (with_reducible first|exact H3.out.below|apply below_set))<;>omega
                    · have q8:(x8 != 0)=true:=bne_iff_ne.mpr hx8;have e2:R=(0,0,0,0,⟨#[]⟩,(k:Int),(z:Int),x8):=hR.trans (HFE.out hx8);subst e2;clear hR HFO HFE hx8
                      go_upto_region 31 with (first
                        |(go_at_call 24;refine HC.out.mono ?_;rintro e w1 ⟨rfl,hb1⟩
                          have HB1:=Aside0.mk (NxBox.mk (blk_below HB.out.t hb1) (blk_below HB.out.a hb1) (below_step HB.out.below hb1));have h1a0:=(blk_cell HB1.out.a 0).trans rfl;have h1a1:=(blk_cell HB1.out.a 1).trans rfl;have g1a0:=blk_frozen HB1.out.a 0;have g1a1:=blk_frozen HB1.out.a 1;have h1t0:=(blk_cell HB1.out.t 0).trans rfl;have h1t1:=(blk_cell HB1.out.t 1).trans rfl;have h1t2:=(blk_cell HB1.out.t 2).trans rfl;have h1t3:=(blk_cell HB1.out.t 3).trans rfl;have h1t4:=(blk_cell HB1.out.t 4).trans rfl;have g1t0:=blk_frozen HB1.out.t 0;have g1t1:=blk_frozen HB1.out.t 1;have g1t2:=blk_frozen HB1.out.t 2;have g1t3:=blk_frozen HB1.out.t 3;have g1t4:=blk_frozen HB1.out.t 4
                          skip
                          clear hb1 HB)
                        |(go_at_call 27;refine (HW.out _ (by (repeat (with_reducible first|exact HB1.out.below|apply below_set))<;>omega)).mono ?_;rintro e w2 ⟨rfl,hb2⟩
                          have A2:=Aside0.mk (blk_below (g:=w.heap.size+1) (o:=Obj.cells #[.int .i64 k,.int .i64 d] 27 (0,0)) (by (repeat (with_reducible first|exact HB1.out.a|apply blk_two0|apply blk_two1|apply blk_five0|apply blk_five1|apply blk_five2|apply blk_five3|apply blk_five4|apply blk_f))<;>omega) hb2);have T2:=Aside0.mk (blk_below (g:=w.heap.size) (o:=Obj.cells #[.int .i64 0,.int .i64 0,.int .i64 0,.int .i64 0,.string ⟨#[]⟩] 36 (0,0)) (by (repeat (with_reducible first|exact HB1.out.t|apply blk_two0|apply blk_two1|apply blk_five0|apply blk_five1|apply blk_five2|apply blk_five3|apply blk_five4|apply blk_f))<;>omega) hb2);have B2:=Aside0.mk (below_step (by (repeat (with_reducible first|exact HB1.out.below|apply below_set))<;>omega) hb2);have h2a0:=(blk_cell A2.out 0).trans rfl;have h2a1:=(blk_cell A2.out 1).trans rfl;have g2a0:=blk_frozen A2.out 0;have g2a1:=blk_frozen A2.out 1;have h2t0:=(blk_cell T2.out 0).trans rfl;have h2t1:=(blk_cell T2.out 1).trans rfl;have h2t2:=(blk_cell T2.out 2).trans rfl;have h2t3:=(blk_cell T2.out 3).trans rfl;have h2t4:=(blk_cell T2.out 4).trans rfl;have g2t0:=blk_frozen T2.out 0;have g2t1:=blk_frozen T2.out 1;have g2t2:=blk_frozen T2.out 2;have g2t3:=blk_frozen T2.out 3;have g2t4:=blk_frozen T2.out 4
                          have hcv: ∀v,(convert 23 9 (.slice (some ⟨b,off+k,none⟩) (z-k) (c-k))).run Tryd.prog (w2.setCell ⟨w.heap.size+1,1,none⟩ v)= .ok (.string S) (w2.setCell ⟨w.heap.size+1,1,none⟩ v):=fun v=>HV.out _ (by (repeat (with_reducible first|exact B2.out|apply below_set))<;>omega)
                          clear hb2)
                        |(go_at_call 28;refine (HT.out _ (by (repeat (with_reducible first|exact B2.out|apply below_set))<;>omega)).mono ?_;rintro e w4 ⟨rfl,hb4⟩
                          have A4:=Aside0.mk (blk_below (g:=w.heap.size+1) (o:=Obj.cells #[.int .i64 k,.int .i64 z] 27 (0,0)) (by (repeat (with_reducible first|exact A2.out|apply blk_two0|apply blk_two1|apply blk_five0|apply blk_five1|apply blk_five2|apply blk_five3|apply blk_five4|apply blk_f))<;>omega) hb4);have T4:=Aside0.mk (blk_below (g:=w.heap.size) (o:=Obj.cells #[.int .i64 0,.int .i64 0,.int .i64 0,.int .i64 0,.string ⟨#[]⟩] 36 (0,0)) (by (repeat (with_reducible first|exact T2.out|apply blk_two0|apply blk_two1|apply blk_five0|apply blk_five1|apply blk_five2|apply blk_five3|apply blk_five4|apply blk_f))<;>omega) hb4);have B4:=Aside0.mk (below_step (by (repeat (with_reducible first|exact B2.out|apply below_set))<;>omega) hb4);have h4a0:=(blk_cell A4.out 0).trans rfl;have h4a1:=(blk_cell A4.out 1).trans rfl;have g4a0:=blk_frozen A4.out 0;have g4a1:=blk_frozen A4.out 1;have h4t0:=(blk_cell T4.out 0).trans rfl;have h4t1:=(blk_cell T4.out 1).trans rfl;have h4t2:=(blk_cell T4.out 2).trans rfl;have h4t3:=(blk_cell T4.out 3).trans rfl;have h4t4:=(blk_cell T4.out 4).trans rfl;have g4t0:=blk_frozen T4.out 0;have g4t1:=blk_frozen T4.out 1;have g4t2:=blk_frozen T4.out 2;have g4t3:=blk_frozen T4.out 3;have g4t4:=blk_frozen T4.out 4
                          clear hb4))
                      refine gen_world (fun W=>NxSt w W x1 x4 x5 k z) ⟨?_,?_,?_⟩ ?_
                      · (repeat (with_reducible first|exact T4.out|apply blk_two0|apply blk_two1|apply blk_five0|apply blk_five1|apply blk_five2|apply blk_five3|apply blk_five4|apply blk_f))<;>omega
                      · (repeat (with_reducible first|exact A4.out|apply blk_two0|apply blk_two1|apply blk_five0|apply blk_five1|apply blk_five2|apply blk_five3|apply blk_five4|apply blk_f))<;>omega
                      · (repeat (with_reducible first|exact B4.out|apply below_set))<;>omega
                      intro W3 h3;have H3:=Aside0.mk h3;have h3a0:=(blk_cell h3.a 0).trans rfl;have h3a1:=(blk_cell h3.a 1).trans rfl;have g3a0:=blk_frozen h3.a 0;have g3a1:=blk_frozen h3.a 1;have h3t0:=(blk_cell h3.t 0).trans rfl;have h3t1:=(blk_cell h3.t 1).trans rfl;have h3t2:=(blk_cell h3.t 2).trans rfl;have h3t3:=(blk_cell h3.t 3).trans rfl;have h3t4:=(blk_cell h3.t 4).trans rfl;have g3t0:=blk_frozen h3.t 0;have g3t1:=blk_frozen h3.t 1;have g3t2:=blk_frozen h3.t 2;have g3t3:=blk_frozen h3.t 3;have g3t4:=blk_frozen h3.t 4;clear h3
                      go_wp2_with fail
                      go_region
                      all_goals go_wp2_with fail
                      all_goals rw [Exit.noGoto_ret]
                      all_goals refine bodyPost_ret (nx_ret _ _ _ _ 0 0 0 0 ⟨#[]⟩ k z x8 rfl rfl rfl ?_ ?_) rfl ⟨rfl,?_⟩
                      · refine blk_drew ?_
                        (repeat (with_reducible first|exact H3.out.t|apply blk_two0|apply blk_two1|apply blk_five0|apply blk_five1|apply blk_five2|apply blk_five3|apply blk_five4|apply blk_f))<;>omega
                      · refine blk_drew ?_
                        (repeat (with_reducible first|exact H3.out.a|apply blk_two0|apply blk_two1|apply blk_five0|apply blk_five1|apply blk_five2|apply blk_five3|apply blk_five4|apply blk_f))<;>omega
                      · refine below_drew ?_
                        (repeat (with_reducible first|exact H3.out.below|apply below_set))<;>omega
                · skip
                  have hke:kindR l k a d=(0,0,⟨#[]⟩,6):=by
                   unfold kindR;rw [if_neg a2,if_neg a3,if_neg a4,if_neg a5,if_neg (by unfold wordP;simp [aw9,aw7,aw8])]
                  have hen:endR l k a d=d:=by
                   unfold endR;rw [if_neg a5,if_neg (by unfold wordP;simp [aw9,aw7,aw8])]
                  have hFE:=HFE.out;rw [hke,hen] at hFE;have e2:R=(0,0,0,0,⟨#[]⟩,(k:Int),(d:Int),6):=hR.trans (hFE (by decide));clear hFE hke hen hR;subst e2;have q1:(a==1)=false:=beq_eq_false_iff_ne.mpr a1;have q2:(a==2)=false:=beq_eq_false_iff_ne.mpr a2;have q3:(a==3)=false:=beq_eq_false_iff_ne.mpr a3;have q4:(a==4)=false:=beq_eq_false_iff_ne.mpr a4;have q5:(a==5)=false:=beq_eq_false_iff_ne.mpr a5;have q6:(a==6)=false:=beq_eq_false_iff_ne.mpr a6;have q7:(a==7)=false:=beq_eq_false_iff_ne.mpr aw7;have q8:(a==8)=false:=beq_eq_false_iff_ne.mpr aw8;have q9:(a==9)=false:=beq_eq_false_iff_ne.mpr aw9;clear HFE HFO HCV HCE HGG HWD HWK HWE HN hbyte a1 a2 a3 a4 a5 a6 aw7 aw8 aw9
                  go_upto_region 31 with (first
                   |(go_at_call 24;refine HC.out.mono ?_;rintro e w1 ⟨rfl,hb1⟩
                     have HB1:=Aside0.mk (NxBox.mk (blk_below HB.out.t hb1) (blk_below HB.out.a hb1) (below_step HB.out.below hb1));have h1a0:=(blk_cell HB1.out.a 0).trans rfl;have h1a1:=(blk_cell HB1.out.a 1).trans rfl;have g1a0:=blk_frozen HB1.out.a 0;have g1a1:=blk_frozen HB1.out.a 1;have h1t0:=(blk_cell HB1.out.t 0).trans rfl;have h1t1:=(blk_cell HB1.out.t 1).trans rfl;have h1t2:=(blk_cell HB1.out.t 2).trans rfl;have h1t3:=(blk_cell HB1.out.t 3).trans rfl;have h1t4:=(blk_cell HB1.out.t 4).trans rfl;have g1t0:=blk_frozen HB1.out.t 0;have g1t1:=blk_frozen HB1.out.t 1;have g1t2:=blk_frozen HB1.out.t 2;have g1t3:=blk_frozen HB1.out.t 3;have g1t4:=blk_frozen HB1.out.t 4
                     clear hb1 HB))
                  refine gen_world (fun W=>NxSt w W 0 0 ⟨#[]⟩ k d) ⟨?_,?_,?_⟩ ?_
                  · (repeat (with_reducible first|exact HB1.out.t|apply blk_two0|apply blk_two1|apply blk_five0|apply blk_five1|apply blk_five2|apply blk_five3|apply blk_five4|apply blk_f))<;>omega
                  · (repeat (with_reducible first|exact HB1.out.a|apply blk_two0|apply blk_two1|apply blk_five0|apply blk_five1|apply blk_five2|apply blk_five3|apply blk_five4|apply blk_f))<;>omega
                  · (repeat (with_reducible first|exact HB1.out.below|apply below_set))<;>omega
                  intro W3 h3;have H3:=Aside0.mk h3;have h3a0:=(blk_cell h3.a 0).trans rfl;have h3a1:=(blk_cell h3.a 1).trans rfl;have g3a0:=blk_frozen h3.a 0;have g3a1:=blk_frozen h3.a 1;have h3t0:=(blk_cell h3.t 0).trans rfl;have h3t1:=(blk_cell h3.t 1).trans rfl;have h3t2:=(blk_cell h3.t 2).trans rfl;have h3t3:=(blk_cell h3.t 3).trans rfl;have h3t4:=(blk_cell h3.t 4).trans rfl;have g3t0:=blk_frozen h3.t 0;have g3t1:=blk_frozen h3.t 1;have g3t2:=blk_frozen h3.t 2;have g3t3:=blk_frozen h3.t 3;have g3t4:=blk_frozen h3.t 4;clear h3
                  go_wp2_with fail
                  go_region
                  all_goals go_wp2_with fail
                  all_goals rw [Exit.noGoto_ret]
                  all_goals refine bodyPost_ret (nx_ret _ _ _ _ 0 0 0 0 ⟨#[]⟩ k d 6 rfl rfl rfl ?_ ?_) rfl ⟨rfl,?_⟩
                  · refine blk_drew ?_
                    (repeat (with_reducible first|exact H3.out.t|apply blk_two0|apply blk_two1|apply blk_five0|apply blk_five1|apply blk_five2|apply blk_five3|apply blk_five4|apply blk_f))<;>omega
                  · refine blk_drew ?_
                    (repeat (with_reducible first|exact H3.out.a|apply blk_two0|apply blk_two1|apply blk_five0|apply blk_five1|apply blk_five2|apply blk_five3|apply blk_five4|apply blk_f))<;>omega
                  · refine below_drew ?_
                    (repeat (with_reducible first|exact H3.out.below|apply below_set))<;>omega
  · obtain rfl:k=n:=by omega
    have e:R=(0,0,0,0,⟨#[]⟩,0,0,4):=by
        rw [←HR.out];unfold nextR;rw [←HS.out,skipR_end l k (by have:=HN.out;omega),if_neg (by have:=HN.out;omega)]
    subst e;clear hlt
    go_wp2_with fail
    go_region
    all_goals go_wp2_with fail
    all_goals rw [Exit.noGoto_ret]
    all_goals refine bodyPost_ret (nx_ret _ _ _ _ 0 0 0 0 ⟨#[]⟩ 0 0 4 rfl rfl rfl ?_ ?_) rfl ⟨rfl,?_⟩
    · refine blk_drew ?_
      (repeat (with_reducible first|exact HB.out.t|apply blk_two0|apply blk_two1|apply blk_five0|apply blk_five1|apply blk_five2|apply blk_five3|apply blk_five4|apply blk_f))<;>omega
    · refine blk_drew ?_
      (repeat (with_reducible first|exact HB.out.a|apply blk_two0|apply blk_two1|apply blk_five0|apply blk_five1|apply blk_five2|apply blk_five3|apply blk_five4|apply blk_f))<;>omega
    · refine below_drew ?_
      (repeat (with_reducible first|exact HB.out.below|apply below_set))<;>omega
set_option maxRecDepth 100000 in
set_option maxHeartbeats 1000000 in
theorem nx_nil (A:Option Addr) (c:Nat) (w:World):
 Calls Tryd.prog 13 #[.slice A 0 c,.int .i64 0] w fun e w'=>e= .returned (nextV (0,0,0,0,⟨#[]⟩,0,0,4))∧Below w.heap.size w w':=by
 go_enter Tryd.func13,Tryd.ntmps13
 go_wp2_with fail
 refine wp_scope_straight ?_
 go_wp2_with fail
 refine wp_label ?_
 go_wp2_with fail
 go_loopw [1,6] (fun v v6 wr=>v= .int .i64 0∧v6= .int .i64 4∧Aside0 (NxBox w wr)) (fun v _ _=>(intOf v).toNat)
 case atStart=>exact ⟨rfl,rfl,⟨⟨(heap_two w _ _).1,(heap_two w _ _).2,below_alloc (below_alloc (Below.refl _ _) _) _⟩⟩⟩
 case round=>
  obtain ⟨rfl,rfl,HB⟩:=hrel;have ha0:=(blk_cell HB.out.a 0).trans rfl;have ha1:=(blk_cell HB.out.a 1).trans rfl;have hf0:=blk_frozen HB.out.a 0;have hf1:=blk_frozen HB.out.a 1;have ht0:=(blk_cell HB.out.t 0).trans rfl;have ht1:=(blk_cell HB.out.t 1).trans rfl;have ht2:=(blk_cell HB.out.t 2).trans rfl;have ht3:=(blk_cell HB.out.t 3).trans rfl;have ht4:=(blk_cell HB.out.t 4).trans rfl;have hg0:=blk_frozen HB.out.t 0;have hg1:=blk_frozen HB.out.t 1;have hg2:=blk_frozen HB.out.t 2;have hg3:=blk_frozen HB.out.t 3;have hg4:=blk_frozen HB.out.t 4
  go_wp2_with fail
  go_region
  all_goals go_wp2_with fail
  all_goals rw [Exit.noGoto_ret]
  all_goals refine bodyPost_ret (nx_ret _ _ _ _ 0 0 0 0 ⟨#[]⟩ 0 0 4 rfl rfl rfl ?_ ?_) rfl ⟨rfl,?_⟩
  · refine blk_drew ?_
    (repeat (with_reducible first|exact HB.out.t|apply blk_two0|apply blk_two1|apply blk_five0|apply blk_five1|apply blk_five2|apply blk_five3|apply blk_five4|apply blk_f))<;>omega
  · refine blk_drew ?_
    (repeat (with_reducible first|exact HB.out.a|apply blk_two0|apply blk_two1|apply blk_five0|apply blk_five1|apply blk_five2|apply blk_five3|apply blk_five4|apply blk_f))<;>omega
  · refine below_drew ?_
    (repeat (with_reducible first|exact HB.out.below|apply below_set))<;>omega
def lexer_Next.f (l0:List Int) (a1:Int):Option (Int×Int×Int×Int×ByteArray×Int×Int×Int):=
 if (8000:Int)<l0.length then some (0,0,0,0,⟨#[]⟩,0,0,3) else if a1<0∨(l0.length:Int)<a1 then some (0,0,0,0,⟨#[]⟩,0,0,7) else if ∀x∈l0,0≤x∧x<256 then some (nextR l0 a1.toNat) else none
theorem lexer_Next.calls (A0:Option Addr) (c0:Nat) (l0:List Int) (a1:Int) (r1:Int) (r2:Int) (r3:Int) (r4:Int) (r5:ByteArray) (r6:Int) (r7:Int) (r8:Int) (w:World) (hr0:Kd.C (Kd.int .u8) w A0 l0.length l0) (hc0:l0.length≤c0) (hG:G5 w) (h:lexer_Next.f l0 a1=some (r1,r2,r3,r4,r5,r6,r7,r8)):
 Calls Tryd.prog 13 #[.slice A0 l0.length c0,.int .i64 a1] w fun e w'=>e= .returned (.tuple #[.agg #[.int .i64 r1,.int .i64 r2,.int .i64 r3,.int .i64 r4,.string r5],.agg #[.int .i64 r6,.int .i64 r7],.int .i64 r8])∧Below w.heap.size w w':=by
 unfold lexer_Next.f at h;by_cases h1:(8000:Int)<l0.length
 · rw [if_pos h1] at h;have h2:=Option.some.inj h;have:=nx_long A0 c0 l0.length a1 w h1;rw [h2] at this;exact this
 · rw [if_neg h1] at h;by_cases h3:a1<0∨(l0.length:Int)<a1
   · rw [if_pos h3] at h;have h2:=Option.some.inj h;have:=nx_range A0 c0 l0.length a1 w (by omega) h3;rw [h2] at this;exact this
   · rw [if_neg h3] at h;by_cases hb: ∀x∈l0,0≤x∧x<256
     · rw [if_pos hb] at h;have h2:=Option.some.inj h
       obtain ⟨i,rfl⟩: ∃i:Nat,a1=(i:Int):=⟨a1.toNat,by omega⟩
       rw [Int.toNat_natCast] at h2;by_cases h0:0<l0.length
       · obtain ⟨b,off,rfl,hBC⟩:=BC.of hr0 h0;have:=nx_in b off c0 l0.length l0 i w rfl (by omega) hc0 (by omega) hBC hb hG;rw [h2] at this;exact this
       · obtain rfl:l0=[]:=List.eq_nil_of_length_eq_zero (by omega)
         obtain rfl:i=0:=by simp at h3;omega
         have:=nx_nil A0 c0 w;have e:nextR [] 0=(0,0,0,0,⟨#[]⟩,0,0,4):=rfl;rw [e] at h2;rw [h2] at this;exact this
     · rw [if_neg hb] at h;cases h
end Go.Proofs.YtdffphkbidfejaaDoor.Q
end
section
namespace Go.Proofs.YtdffphkbidfejaaDoor.Q
open Go.RowKit Go.Proofs.YtdffphkbidfejaaDoorW.PrintWords Go.Proofs.YtdffphkbidfejaaDoorW.PrintLast Go.Proofs.YtdffphkbidfejaaDoorW.PrintMore
attribute [local go_sem] max2_int min2_int max_two min_two max_three min_three max_four min_four
set_option linter.unusedVariables false
set_option linter.unusedSimpArgs false
def lexer_Lex.l0:Nat→List Int→List (S36)→Int→Option ((List (S36))×Int×Int×Int)
 |0,_,_,_=>none
 |k+1,x0,x2,x5=>(lexer_Next.f x0 x5).bind fun bt103=>(if bt103.2.2.2.2.2.2.2=0 then (if x2.length<2932031007402 then (lexer_Lex.l0 k x0 (x2++[(⟨bt103.1,(⟨bt103.2.1,bt103.2.2.1⟩:S27),bt103.2.2.2.1,bt103.2.2.2.2.1⟩:S36)]) bt103.2.2.1) else (none)) else (if bt103.2.2.2.2.2.2.2=4 then (some (x2,bt103.2.2.2.2.2.1,bt103.2.2.2.2.2.2.1,0)) else (some (([]:List (S36)),bt103.2.2.2.2.2.1,bt103.2.2.2.2.2.2.1,bt103.2.2.2.2.2.2.2))))
def lexer_Lex.f (k:Nat) (l0:List Int):Option ((List (S36))×Int×Int×Int):=lexer_Lex.l0 k l0 ([]:List (S36)) 0
theorem lexer_Lex.mono_l: ∀k,(∀y0 y1 y2,LeO (lexer_Lex.l0 k y0 y1 y2) (lexer_Lex.l0 (k+1) y0 y1 y2))
 |0=>fun _ _ _ r h=>by simp [lexer_Lex.l0] at h
 |k+1=>by
  have ih0:=lexer_Lex.mono_l k
  · intro y0 y1 y2;unfold lexer_Lex.l0
    repeat' first
    |(with_reducible exact ih0 _ _ _)
    |(with_reducible exact LeO.refl _)
    |(with_reducible exact LeO.none _)
    |(with_reducible refine LeO.ite ?_ ?_)
    |(with_reducible refine LeO.bind ?_ (fun _=>?_))
    |exact ih0 _ _ _
    |exact LeO.none _
    |refine LeO.ite ?_ ?_
    |refine LeO.bind ?_ (fun _=>?_)
theorem lexer_Lex.mono: ∀a0 k,LeO (lexer_Lex.f k a0) (lexer_Lex.f (k+1) a0):=by
 intro a0 k;have ih0:=lexer_Lex.mono_l k;unfold lexer_Lex.f
 repeat' first
  |(with_reducible exact ih0 _ _ _)
  |(with_reducible exact LeO.refl _)
  |(with_reducible exact LeO.none _)
  |(with_reducible refine LeO.ite ?_ ?_)
  |(with_reducible refine LeO.bind ?_ (fun _=>?_))
  |exact ih0 _ _ _
  |exact LeO.none _
  |refine LeO.ite ?_ ?_
  |refine LeO.bind ?_ (fun _=>?_)
def lexer_Lex.T6:Bool×List (List Nat×List Nat):=(true,[([],[]),([],[]),([1],[1]),([0,2],[0,2]),([],[]),([4],[4]),([5],[5]),([3,3,0,1,2,3],[0,3]),([6,7,0,1,2,3,4,5,6,7],[6])])
def lexer_Lex.B6:List Nat:=[0,0,2,7,0,16,48,15,255]
theorem lexer_Lex.tab6:rtab .any (opsOf Tryd.f10 6)=lexer_Lex.T6:=by kernel_rfl
theorem lexer_Lex.bits6:waitsOk lexer_Lex.T6.2 lexer_Lex.B6=true:=by kernel_rfl
set_option maxHeartbeats 8000000 in
set_option maxRecDepth 100000 in
theorem lexer_Lex.calls (k:Nat) (A0:Option Addr) (c0:Nat) (l0:List Int) (r1:List (S36)) (r2:Int) (r3:Int) (r4:Int) (w:World) (hr0:Kd.C (Kd.int .u8) w A0 l0.length l0) (hc0:l0.length≤c0) (hG:G5 w) (h:lexer_Lex.f k l0=some (r1,r2,r3,r4)):
 Calls Tryd.prog 10 #[.slice A0 l0.length c0] w fun e w'=> ∃v0_:Value,e= .returned (.tuple #[v0_,.agg #[.int .i64 r2,.int .i64 r3],.int .i64 r4])∧Kd.R k36 36 w' w.heap.size (fun _=>True) v0_ r1∧Below w.heap.size w w':=by
 have hu27:=Tryd.underlying27;have hu36:=Tryd.underlying36;have HGl:=Aside0.mk hG;clear hG;have HR0:=Aside0.mk hr0;have HC0:=Aside0.mk hc0;clear hr0 hc0;have HB:=Aside0.mk (Below.refl w.heap.size w);have H:(lexer_Lex.l0 k l0 ([]:List (S36)) 0)=some (r1,r2,r3,r4):=h;clear h;have H':=Aside0.mk H;clear H;go_enter Tryd.func10,Tryd.ntmps10
 go_wp2_with (first|((with_reducible refine gate_dst (N:=3) rfl ?_);refine box_event ?hg (N:=3) ?hd (cs:= #[.int .i64 0,.int .i64 0]) (t:=27) ?hr ?_;(case hd=>rfl);(case hg=>rfl);(case hr=>first|(go_simp;done)|(go_simp;rfl));intro gb102 hg w2 hbox hb;have n0_:=Aside0.mk (below_step (by repeat (first|(with_reducible first|exact HB.out|apply below_alloc|apply pw_below_drewN|apply below_drew1)|exact HB.out)) hb);have n1_:=Aside0.mk (hbox);have n2_:=Aside0.mk ((by rw [hg];exact (below_size (by repeat (first|(with_reducible first|exact HB.out|apply below_alloc|apply pw_below_drewN|apply below_drew1)|exact HB.out))):w.heap.size≤gb102));have n3_:=Aside0.mk ((by rw [hg];exact (below_size (by repeat (first|(with_reducible first|exact HB.out|apply below_alloc|apply pw_below_drewN|apply below_drew1)|exact HB.out))):w.heap.size≤gb102));clear HB;have HB:=n0_;have BK102:=n1_;have GW102:=n2_;have GE102:=n3_;clear n0_ n1_ n2_ n3_;clear hb hbox hg))
 go_loopg [2,5] k (fun kq v2 v5 w'=> ∃(x2_1:List (S36)) (x5_1:Int) (x103000_1:Int) (x103001_1:Int),v5= .int .i64 x5_1∧Aside0 (lexer_Lex.l0 kq l0 x2_1 x5_1=some (r1,r2,r3,r4))∧Aside0 (kq≤k)∧Aside0 (Kd.R k36 36 w' w.heap.size (fun _=>True) v2 x2_1)∧Aside0 (w'.heap[gb102]? =some (.cells #[.int .i64 x103000_1,.int .i64 x103001_1] 27 (0,0)))∧Aside0 (Below w.heap.size w w'))
 case atStart=>exact ⟨(([]:List (S36))),(0),(0),(0),(by first|rfl|(simp;done)|(simp [*];done)),H',⟨Nat.le_refl _⟩,⟨by first|exact Kd.R_nil _ _ _ _ _|exact Kd.N_nil _ _ _ _ _|exact Kd.V_nil _ _ _ _ _|exact Kd.Q_nil _ _ _ _ _|exact Kd.S_nil _ _ _ _ _⟩,⟨by (with_reducible repeat (first|refine blk_drewN ?_ _|refine blk_drew ?_|refine blk_alloc ?_ _));exact BK102.out⟩,⟨by repeat (first|(with_reducible first|exact HB.out|apply below_alloc|apply pw_below_drewN|apply below_drew1|refine below_set ?_ GE102.out)|exact HB.out)⟩⟩
 case round=>
  clear H'
  try clear c1
  try clear p2
  obtain ⟨x2_1,x5_1,x103000_1,x103001_1,rfl,HA,HK1,HO_2,BK102,HB⟩:=hrel
  cases gk with
  |zero=>exact absurd HA.out (by simp [lexer_Lex.l0])
  |succ k1=>
   have H:=HA.out;clear HA;simp only [lexer_Lex.l0] at H;replace H:=Option.bind_eq_some_iff.mp H;obtain ⟨⟨t103,t104,t105,t106,t107,t108,t109,t110⟩,A30,H⟩:=H;replace H:(if t110=0 then (if x2_1.length<2932031007402 then (lexer_Lex.l0 k1 l0 (x2_1++[(⟨t103,(⟨t104,t105⟩:S27),t106,t107⟩:S36)]) t105) else (none)) else (if t110=4 then (some (x2_1,t108,t109,0)) else (some (([]:List (S36)),t108,t109,t110))))=some (r1,r2,r3,r4):=H;have A3:=Aside0.mk A30;clear A30;by_cases c4:t110=0
   · rw [if_pos c4] at H;have c4b0:(t110==0)=true:=beq_iff_eq.mpr c4;have c4b1:(t110 != 0)=false:=bne_eq_false_iff_eq.mpr c4;clear c4;by_cases c5:x2_1.length<2932031007402
     · rw [if_pos c5] at H;have LMc5:=Aside0.mk c5;clear c5
       obtain ⟨y113,hy113⟩: ∃y_:List (S36),y_=(x2_1++[(⟨t103,(⟨t104,t105⟩:S27),t106,t107⟩:S36)]):=⟨_,rfl⟩
       replace H:(lexer_Lex.l0 k1 l0 y113 t105)=some (r1,r2,r3,r4):=by first|(rw [hy113];with_reducible exact H)|(have H2_:=(Option.bind_some _ _).symm.trans H;rw [hy113];with_reducible exact H2_)|(have H2_:=(Option.bind_some _ _).symm.trans H;with_reducible exact H2_)|with_reducible exact H|(rw [hy113];exact H)|exact H
       have Ny113:=Aside0.mk hy113;clear hy113;have H':=Aside0.mk H;clear H
       try go_wp2_with (first|((with_reducible refine gate_callee (f:=13) rfl ?_);refine goesL_ (some 12) rfl rfl Tryd.func13 (by kernel_rfl) rfl #[.slice A0 l0.length c0,.int .i64 x5_1] rfl (by (try simp only [List.map_toArray,List.map_cons,List.map_nil]);first|done|rfl|(simp only [List.length_drop,List.length_take];rfl)) ?_;(with_reducible refine (lexer_Next.calls _ _ l0 x5_1 t103 t104 t105 t106 t107 t108 t109 t110 _ ?side1 ?side2 ?side3 A3.out).mono ?_);(case side1=>repeat (first|exact (Kd.C_below HR0.out HB.out)|(with_reducible refine Kd.C_alloc ?_ _)|(with_reducible refine Kd.C_drewN ?_ _)|(with_reducible refine Kd.C_drew ?_)));(case side2=>exact HC0.out);(case side3=>exact G5_keep HGl.out (by repeat (first|(with_reducible first|exact HB.out|apply below_alloc|apply pw_below_drewN|apply below_drew1|refine below_set ?_ GE102.out)|exact HB.out)));rintro e w6 ⟨rfl,hb⟩;refine ⟨_,rfl,?_⟩;have n0_:=Aside0.mk (Kd.R_below (by (with_reducible repeat (first|apply Kd.R_alloc|apply Kd.R_drewN|apply Kd.R_drew));exact HO_2.out) hb);have n1_:=Aside0.mk (blk_below (g:=gb102) (o:= .cells #[.int .i64 x103000_1,.int .i64 x103001_1] 27 (0,0)) (by (with_reducible repeat (first|refine blk_drewN ?_ _|refine blk_drew ?_|refine blk_alloc ?_ _));exact BK102.out) hb);have n2_:=Aside0.mk (below_step (by repeat (first|(with_reducible first|exact HB.out|apply below_alloc|apply pw_below_drewN|apply below_drew1|refine below_set ?_ GE102.out)|exact HB.out)) hb);clear HO_2;clear BK102;clear HB;have HO_2:=n0_;have BK102:=n1_;have HB:=n2_;clear n0_ n1_ n2_;(try clear hb);(try clear hb2);(try clear hk);(try clear hi))|((with_reducible refine gate_dst (N:=6) rfl ?_);refine box_event ?hg (N:=6) ?hd (cs:= #[.int .i64 0,.int .i64 0,.int .i64 0,.int .i64 0,.string (⟨#[]⟩:ByteArray)]) (t:=36) ?hr ?_;(case hd=>rfl);(case hg=>rfl);(case hr=>first|(go_simp;done)|(go_simp;rfl));intro gb111 hg w7 hbox hb;have n0_:=Aside0.mk (Kd.R_below (Kd.R_elderB (by (with_reducible repeat (first|apply Kd.R_alloc|apply Kd.R_drewN|apply Kd.R_drew));exact HO_2.out) gb111 (Nat.le_of_eq hg.symm)) hb);have n1_:=Aside0.mk (blk_below (g:=gb102) (o:= .cells #[.int .i64 x103000_1,.int .i64 x103001_1] 27 (0,0)) (by (with_reducible repeat (first|refine blk_drewN ?_ _|refine blk_drew ?_|refine blk_alloc ?_ _));exact BK102.out) hb);have n2_:=Aside0.mk (below_step (by repeat (first|(with_reducible first|exact HB.out|apply below_alloc|apply pw_below_drewN|apply below_drew1|refine below_set ?_ GE102.out)|exact HB.out)) hb);have n3_:=Aside0.mk (hbox);have n4_:=Aside0.mk ((by rw [hg];exact (below_size (by repeat (first|(with_reducible first|exact HB.out|apply below_alloc|apply pw_below_drewN|apply below_drew1|refine below_set ?_ GE102.out)|exact HB.out))):w.heap.size≤gb111));have n5_:=Aside0.mk ((by rw [hg];exact (below_size (by repeat (first|(with_reducible first|exact HB.out|apply below_alloc|apply pw_below_drewN|apply below_drew1|refine below_set ?_ GE102.out)|exact HB.out))):w.heap.size≤gb111));have n6_:=Aside0.mk ((by rw [hg];exact Nat.ne_of_lt (blk_lt (g:=gb102) (o:= .cells #[.int .i64 x103000_1,.int .i64 x103001_1] 27 (0,0)) (by (with_reducible repeat (first|refine blk_drewN ?_ _|refine blk_drew ?_|refine blk_alloc ?_ _));exact BK102.out)):gb102≠gb111));have n7_:=Aside0.mk ((by rw [hg];exact Nat.ne_of_gt (blk_lt (g:=gb102) (o:= .cells #[.int .i64 x103000_1,.int .i64 x103001_1] 27 (0,0)) (by (with_reducible repeat (first|refine blk_drewN ?_ _|refine blk_drew ?_|refine blk_alloc ?_ _));exact BK102.out)):gb111≠gb102));clear HO_2;clear BK102;clear HB;have HO_2:=n0_;have BK102:=n1_;have HB:=n2_;have BK111:=n3_;have GW111:=n4_;have GE111:=n5_;have NB102_111:=n6_;have NB111_102:=n7_;clear n0_ n1_ n2_ n3_ n4_ n5_ n6_ n7_;clear hb hbox hg)|((with_reducible refine gate_dst (N:=7) rfl ?_);refine box_event ?hg (N:=7) ?hd (cs:= #[.int .i64 0,.int .i64 0]) (t:=27) ?hr ?_;(case hd=>rfl);(case hg=>rfl);(case hr=>first|(go_simp;done)|(go_simp;rfl));intro gb112 hg w8 hbox hb;have n0_:=Aside0.mk (Kd.R_below (by (with_reducible repeat (first|apply Kd.R_alloc|apply Kd.R_drewN|apply Kd.R_drew));exact HO_2.out) hb);have n1_:=Aside0.mk (blk_below (g:=gb102) (o:= .cells #[.int .i64 x103000_1,.int .i64 x103001_1] 27 (0,0)) (by (with_reducible repeat (first|refine blk_drewN ?_ _|refine blk_drew ?_|refine blk_alloc ?_ _));exact BK102.out) hb);have n2_:=Aside0.mk (blk_below (g:=gb111) (o:= .cells #[.int .i64 0,.int .i64 0,.int .i64 0,.int .i64 0,.string (⟨#[]⟩:ByteArray)] 36 (0,0)) (by (with_reducible repeat (first|refine blk_drewN ?_ _|refine blk_drew ?_|refine blk_alloc ?_ _));exact BK111.out) hb);have n3_:=Aside0.mk (below_step (by repeat (first|(with_reducible first|exact HB.out|apply below_alloc|apply pw_below_drewN|apply below_drew1|refine below_set ?_ GE102.out|refine below_set ?_ GE111.out)|exact HB.out)) hb);have n4_:=Aside0.mk (hbox);have n5_:=Aside0.mk ((by rw [hg];exact (below_size (by repeat (first|(with_reducible first|exact HB.out|apply below_alloc|apply pw_below_drewN|apply below_drew1|refine below_set ?_ GE102.out|refine below_set ?_ GE111.out)|exact HB.out))):w.heap.size≤gb112));have n6_:=Aside0.mk ((by rw [hg];exact (below_size (by repeat (first|(with_reducible first|exact HB.out|apply below_alloc|apply pw_below_drewN|apply below_drew1|refine below_set ?_ GE102.out|refine below_set ?_ GE111.out)|exact HB.out))):w.heap.size≤gb112));have n7_:=Aside0.mk ((by rw [hg];exact Nat.ne_of_lt (blk_lt (g:=gb102) (o:= .cells #[.int .i64 x103000_1,.int .i64 x103001_1] 27 (0,0)) (by (with_reducible repeat (first|refine blk_drewN ?_ _|refine blk_drew ?_|refine blk_alloc ?_ _));exact BK102.out)):gb102≠gb112));have n8_:=Aside0.mk ((by rw [hg];exact Nat.ne_of_gt (blk_lt (g:=gb102) (o:= .cells #[.int .i64 x103000_1,.int .i64 x103001_1] 27 (0,0)) (by (with_reducible repeat (first|refine blk_drewN ?_ _|refine blk_drew ?_|refine blk_alloc ?_ _));exact BK102.out)):gb112≠gb102));have n9_:=Aside0.mk ((by rw [hg];exact Nat.ne_of_lt (blk_lt (g:=gb111) (o:= .cells #[.int .i64 0,.int .i64 0,.int .i64 0,.int .i64 0,.string (⟨#[]⟩:ByteArray)] 36 (0,0)) (by (with_reducible repeat (first|refine blk_drewN ?_ _|refine blk_drew ?_|refine blk_alloc ?_ _));exact BK111.out)):gb111≠gb112));have n10_:=Aside0.mk ((by rw [hg];exact Nat.ne_of_gt (blk_lt (g:=gb111) (o:= .cells #[.int .i64 0,.int .i64 0,.int .i64 0,.int .i64 0,.string (⟨#[]⟩:ByteArray)] 36 (0,0)) (by (with_reducible repeat (first|refine blk_drewN ?_ _|refine blk_drew ?_|refine blk_alloc ?_ _));exact BK111.out)):gb112≠gb111));clear HO_2;clear BK102;clear BK111;clear HB;have HO_2:=n0_;have BK102:=n1_;have BK111:=n2_;have HB:=n3_;have BK112:=n4_;have GW112:=n5_;have GE112:=n6_;have NB102_112:=n7_;have NB112_102:=n8_;have NB111_112:=n9_;have NB112_111:=n10_;clear n0_ n1_ n2_ n3_ n4_ n5_ n6_ n7_ n8_ n9_ n10_;clear hb hbox hg;have hnb9:=NB111_102.out;have hnc9:=NB102_111.out;have hnb10:=NB111_112.out;have hnc10:=NB112_111.out;have hcz11_0:w8.cell? ⟨gb111,0,none⟩=some (.int .i64 0):=(blk_cell BK111.out 0).trans rfl;have hcz11_1:w8.cell? ⟨gb111,1,none⟩=some (.int .i64 0):=(blk_cell BK111.out 1).trans rfl;have hcz11_2:w8.cell? ⟨gb111,2,none⟩=some (.int .i64 0):=(blk_cell BK111.out 2).trans rfl;have hcz11_3:w8.cell? ⟨gb111,3,none⟩=some (.int .i64 0):=(blk_cell BK111.out 3).trans rfl;have hcz11_4:w8.cell? ⟨gb111,4,none⟩=some (.string (⟨#[]⟩:ByteArray)):=(blk_cell BK111.out 4).trans rfl;have hfz11_0:=blk_frozen BK111.out 0;have hfz11_1:=blk_frozen BK111.out 1;have hfz11_2:=blk_frozen BK111.out 2;have hfz11_3:=blk_frozen BK111.out 3;have hfz11_4:=blk_frozen BK111.out 4;have hnb12:=NB112_102.out;have hnc12:=NB102_112.out;have hcz13_0:w8.cell? ⟨gb112,0,none⟩=some (.int .i64 0):=(blk_cell BK112.out 0).trans rfl;have hcz13_1:w8.cell? ⟨gb112,1,none⟩=some (.int .i64 0):=(blk_cell BK112.out 1).trans rfl;have hfz13_0:=blk_frozen BK112.out 0;have hfz13_1:=blk_frozen BK112.out 1))
       have n0_:Aside0 (Kd.R k36 36 (((((((w8.setCell ⟨gb111,0,none⟩ (.int .i64 t103)).setCell ⟨gb111,1,none⟩ (.int .i64 t104)).setCell ⟨gb111,2,none⟩ (.int .i64 t105)).setCell ⟨gb111,3,none⟩ (.int .i64 t106)).setCell ⟨gb111,4,none⟩ (.string t107)).setCell ⟨gb112,0,none⟩ (.int .i64 t108)).setCell ⟨gb112,1,none⟩ (.int .i64 t109)) w.heap.size (fun k_=>k_≠gb111) u2 x2_1):=⟨by (with_reducible repeat (first|apply Kd.R_alloc|apply Kd.R_drewN|apply Kd.R_drew));exact Kd.R_mono (Kd.R_far (p:=⟨gb112,1,none⟩) (Kd.R_far (p:=⟨gb112,0,none⟩) (Kd.R_far (p:=⟨gb111,4,none⟩) (Kd.R_far (p:=⟨gb111,3,none⟩) (Kd.R_far (p:=⟨gb111,2,none⟩) (Kd.R_far (p:=⟨gb111,1,none⟩) (Kd.R_far (p:=⟨gb111,0,none⟩) (Kd.R_types (Kd.R_mono HO_2.out (fun k_ hk=>(⟨hk,hk.2⟩:_∧k_≠gb111))) BK112.out (by decide)) (fun _ hk=>hk.1.2) (.int .i64 t103)) (fun _ hk=>hk.1.2) (.int .i64 t104)) (fun _ hk=>hk.1.2) (.int .i64 t105)) (fun _ hk=>hk.1.2) (.int .i64 t106)) (fun _ hk=>hk.1.2) (.string t107)) (fun _ hk=>hk.2) (.int .i64 t108)) (fun _ hk=>hk.2) (.int .i64 t109)) (fun _ hk=>hk.1.1.2)⟩
       have n1_:Aside0 ((((((((w8.setCell ⟨gb111,0,none⟩ (.int .i64 t103)).setCell ⟨gb111,1,none⟩ (.int .i64 t104)).setCell ⟨gb111,2,none⟩ (.int .i64 t105)).setCell ⟨gb111,3,none⟩ (.int .i64 t106)).setCell ⟨gb111,4,none⟩ (.string t107)).setCell ⟨gb112,0,none⟩ (.int .i64 t108)).setCell ⟨gb112,1,none⟩ (.int .i64 t109)).heap[gb102]? =some (.cells #[.int .i64 x103000_1,.int .i64 x103001_1] 27 (0,0))):=⟨by (with_reducible repeat (first|refine blk_drewN ?_ _|refine blk_drew ?_|refine blk_alloc ?_ _));refine blk_far ?_ NB102_112.out _;(with_reducible repeat (first|refine blk_drewN ?_ _|refine blk_drew ?_|refine blk_alloc ?_ _));refine blk_far ?_ NB102_112.out _;(with_reducible repeat (first|refine blk_drewN ?_ _|refine blk_drew ?_|refine blk_alloc ?_ _));refine blk_far ?_ NB102_111.out _;(with_reducible repeat (first|refine blk_drewN ?_ _|refine blk_drew ?_|refine blk_alloc ?_ _));refine blk_far ?_ NB102_111.out _;(with_reducible repeat (first|refine blk_drewN ?_ _|refine blk_drew ?_|refine blk_alloc ?_ _));refine blk_far ?_ NB102_111.out _;(with_reducible repeat (first|refine blk_drewN ?_ _|refine blk_drew ?_|refine blk_alloc ?_ _));refine blk_far ?_ NB102_111.out _;(with_reducible repeat (first|refine blk_drewN ?_ _|refine blk_drew ?_|refine blk_alloc ?_ _));refine blk_far ?_ NB102_111.out _;(with_reducible repeat (first|refine blk_drewN ?_ _|refine blk_drew ?_|refine blk_alloc ?_ _));exact BK102.out⟩
       have n2_:Aside0 ((((((((w8.setCell ⟨gb111,0,none⟩ (.int .i64 t103)).setCell ⟨gb111,1,none⟩ (.int .i64 t104)).setCell ⟨gb111,2,none⟩ (.int .i64 t105)).setCell ⟨gb111,3,none⟩ (.int .i64 t106)).setCell ⟨gb111,4,none⟩ (.string t107)).setCell ⟨gb112,0,none⟩ (.int .i64 t108)).setCell ⟨gb112,1,none⟩ (.int .i64 t109)).heap[gb111]? =some (.cells #[.int .i64 t103,.int .i64 t104,.int .i64 t105,.int .i64 t106,.string t107] 36 (0,0))):=⟨by (with_reducible repeat (first|refine blk_drewN ?_ _|refine blk_drew ?_|refine blk_alloc ?_ _));refine blk_far ?_ NB111_112.out _;(with_reducible repeat (first|refine blk_drewN ?_ _|refine blk_drew ?_|refine blk_alloc ?_ _));refine blk_far ?_ NB111_112.out _;(with_reducible repeat (first|refine blk_drewN ?_ _|refine blk_drew ?_|refine blk_alloc ?_ _));refine blk_put (cs:= #[.int .i64 t103,.int .i64 t104,.int .i64 t105,.int .i64 t106,.string (⟨#[]⟩:ByteArray)]) ?_ 4 _ rfl;(with_reducible repeat (first|refine blk_drewN ?_ _|refine blk_drew ?_|refine blk_alloc ?_ _));refine blk_put (cs:= #[.int .i64 t103,.int .i64 t104,.int .i64 t105,.int .i64 0,.string (⟨#[]⟩:ByteArray)]) ?_ 3 _ rfl;(with_reducible repeat (first|refine blk_drewN ?_ _|refine blk_drew ?_|refine blk_alloc ?_ _));refine blk_put (cs:= #[.int .i64 t103,.int .i64 t104,.int .i64 0,.int .i64 0,.string (⟨#[]⟩:ByteArray)]) ?_ 2 _ rfl;(with_reducible repeat (first|refine blk_drewN ?_ _|refine blk_drew ?_|refine blk_alloc ?_ _));refine blk_put (cs:= #[.int .i64 t103,.int .i64 0,.int .i64 0,.int .i64 0,.string (⟨#[]⟩:ByteArray)]) ?_ 1 _ rfl;(with_reducible repeat (first|refine blk_drewN ?_ _|refine blk_drew ?_|refine blk_alloc ?_ _));refine blk_put (cs:= #[.int .i64 0,.int .i64 0,.int .i64 0,.int .i64 0,.string (⟨#[]⟩:ByteArray)]) ?_ 0 _ rfl;(with_reducible repeat (first|refine blk_drewN ?_ _|refine blk_drew ?_|refine blk_alloc ?_ _));exact BK111.out⟩
       have n3_:Aside0 ((((((((w8.setCell ⟨gb111,0,none⟩ (.int .i64 t103)).setCell ⟨gb111,1,none⟩ (.int .i64 t104)).setCell ⟨gb111,2,none⟩ (.int .i64 t105)).setCell ⟨gb111,3,none⟩ (.int .i64 t106)).setCell ⟨gb111,4,none⟩ (.string t107)).setCell ⟨gb112,0,none⟩ (.int .i64 t108)).setCell ⟨gb112,1,none⟩ (.int .i64 t109)).heap[gb112]? =some (.cells #[.int .i64 t108,.int .i64 t109] 27 (0,0))):=⟨by (with_reducible repeat (first|refine blk_drewN ?_ _|refine blk_drew ?_|refine blk_alloc ?_ _));refine blk_put (cs:= #[.int .i64 t108,.int .i64 0]) ?_ 1 _ rfl;(with_reducible repeat (first|refine blk_drewN ?_ _|refine blk_drew ?_|refine blk_alloc ?_ _));refine blk_put (cs:= #[.int .i64 0,.int .i64 0]) ?_ 0 _ rfl;(with_reducible repeat (first|refine blk_drewN ?_ _|refine blk_drew ?_|refine blk_alloc ?_ _));refine blk_far ?_ NB112_111.out _;(with_reducible repeat (first|refine blk_drewN ?_ _|refine blk_drew ?_|refine blk_alloc ?_ _));refine blk_far ?_ NB112_111.out _;(with_reducible repeat (first|refine blk_drewN ?_ _|refine blk_drew ?_|refine blk_alloc ?_ _));refine blk_far ?_ NB112_111.out _;(with_reducible repeat (first|refine blk_drewN ?_ _|refine blk_drew ?_|refine blk_alloc ?_ _));refine blk_far ?_ NB112_111.out _;(with_reducible repeat (first|refine blk_drewN ?_ _|refine blk_drew ?_|refine blk_alloc ?_ _));refine blk_far ?_ NB112_111.out _;(with_reducible repeat (first|refine blk_drewN ?_ _|refine blk_drew ?_|refine blk_alloc ?_ _));exact BK112.out⟩
       have n4_:Aside0 (Below w.heap.size w (((((((w8.setCell ⟨gb111,0,none⟩ (.int .i64 t103)).setCell ⟨gb111,1,none⟩ (.int .i64 t104)).setCell ⟨gb111,2,none⟩ (.int .i64 t105)).setCell ⟨gb111,3,none⟩ (.int .i64 t106)).setCell ⟨gb111,4,none⟩ (.string t107)).setCell ⟨gb112,0,none⟩ (.int .i64 t108)).setCell ⟨gb112,1,none⟩ (.int .i64 t109))):=⟨by repeat (first|(with_reducible first|exact HB.out|apply below_alloc|apply pw_below_drewN|apply below_drew1|refine below_set ?_ GE102.out|refine below_set ?_ GE111.out|refine below_set ?_ GE112.out)|exact HB.out)⟩
       (try clear HO_2)
       (try clear BK102)
       (try clear BK111)
       (try clear BK112)
       (try clear HB)
       generalize (((((((w8.setCell ⟨gb111,0,none⟩ (.int .i64 t103)).setCell ⟨gb111,1,none⟩ (.int .i64 t104)).setCell ⟨gb111,2,none⟩ (.int .i64 t105)).setCell ⟨gb111,3,none⟩ (.int .i64 t106)).setCell ⟨gb111,4,none⟩ (.string t107)).setCell ⟨gb112,0,none⟩ (.int .i64 t108)).setCell ⟨gb112,1,none⟩ (.int .i64 t109))=w14 at n0_ n1_ n2_ n3_ n4_ ⊢; have HO_2:=n0_;have BK102:=n1_;have BK111:=n2_;have BK112:=n3_;have HB:=n4_;clear n0_ n1_ n2_ n3_ n4_;have n0_:=Aside0.mk (Kd.R_drew HO_2.out);have n1_:=Aside0.mk (blk_drew BK102.out);have n2_:=Aside0.mk (blk_drew BK111.out);have n3_:=Aside0.mk (blk_drew BK112.out);have n4_:=Aside0.mk (below_drew1 HB.out);clear HO_2 BK102 BK111 BK112 HB;have HO_2:=n0_;have BK102:=n1_;have BK111:=n2_;have BK112:=n3_;have HB:=n4_;clear n0_ n1_ n2_ n3_ n4_;refine start_ (n:=9) (S:=fun w'=>w'.cell? ⟨gb111,0,none⟩=some (.int .i64 t103)∧w'.cell? ⟨gb111,1,none⟩=some (.int .i64 t104)∧w'.cell? ⟨gb111,2,none⟩=some (.int .i64 t105)∧w'.cell? ⟨gb111,3,none⟩=some (.int .i64 t106)∧w'.cell? ⟨gb111,4,none⟩=some (.string t107)) (ds:=[]) #[false,false,false,false,false,false,false,false,false] (by kernel_rfl) rfl rfl ⟨(blk_cell BK111.out 0).trans rfl,(blk_cell BK111.out 1).trans rfl,(blk_cell BK111.out 2).trans rfl,(blk_cell BK111.out 3).trans rfl,(blk_cell BK111.out 4).trans rfl⟩ (fun hHeld=>?_);refine with_tabW lexer_Lex.tab6 lexer_Lex.bits6 (fun HT_ HW_=>?_);generalize w14.drew=w15 at HO_2 BK102 BK111 BK112 HB hHeld ⊢; refine pure_ (i:=0) (N:=some 21) (v:=?_) (a':=?_) #[true,false,false,false,false,false,false,false,false] rfl rfl (any_of HT_.out (by kernel_rfl)) (fun _ _ _ h=>h) (Or.inl ⟨by rfl,?_⟩) ?_ ?_;rotate_left
       · intro w';go_simp
         with_reducible rfl
       rotate_left
       · simp only [Act.put,List.setIfInBounds_toArray,List.set_cons_zero,List.set_cons_succ,i64_w,i32_w];rfl
       refine pure_ (i:=4) (N:=some 25) (v:=?_) (a':=?_) #[true,false,false,false,true,false,false,false,false] rfl rfl (any_of HT_.out (by kernel_rfl)) (fun _ _ _ h=>h) (Or.inl ⟨by rfl,?_⟩) ?_ ?_;rotate_left
       · intro w';go_simp
         with_reducible rfl
       rotate_left
       · simp only [Act.put,List.setIfInBounds_toArray,List.set_cons_zero,List.set_cons_succ,i64_w,i32_w];rfl
       refine pure_ (i:=5) (N:=some 26) (v:=?_) (a':=?_) #[true,false,false,false,true,true,false,false,false] rfl rfl (any_of HT_.out (by kernel_rfl)) (fun _ _ _ h=>h) (Or.inl ⟨by rfl,?_⟩) ?_ ?_;rotate_left
       · intro w';go_simp
         with_reducible rfl
       rotate_left
       · simp only [Act.put,List.setIfInBounds_toArray,List.set_cons_zero,List.set_cons_succ,i64_w,i32_w];rfl
       refine take_ (i:=1) (N:=some 22) (v:=?_) (a':=?_) #[true,true,false,false,true,true,false,false,false] rfl rfl (take_ofW HT_.out HW_.out (by kernel_rfl)) (fun _ _ _ h=>h) (Or.inl ⟨by rfl,?_⟩) hHeld ?_ ?_;rotate_left
       · rintro w' ⟨s0,s1,s2,s3,s4⟩;go_simp
         with_reducible rfl
       rotate_left
       · simp only [Act.put,List.setIfInBounds_toArray,List.set_cons_zero,List.set_cons_succ,i64_w,i32_w];rfl
       refine take_ (i:=6) (N:=some 27) (v:=?_) (a':=?_) #[true,true,false,false,true,true,true,false,false] rfl rfl (take_ofW HT_.out HW_.out (by kernel_rfl)) (fun _ _ _ h=>h) (Or.inl ⟨by rfl,?_⟩) hHeld ?_ ?_;rotate_left
       · rintro w' ⟨s0,s1,s2,s3,s4⟩;go_simp
         with_reducible rfl
       rotate_left
       · simp only [Act.put,List.setIfInBounds_toArray,List.set_cons_zero,List.set_cons_succ,i64_w,i32_w];rfl
       refine one_ (i:=2) (N:=some 23) #[true,true,true,false,true,true,true,false,false] rfl rfl (one_of HT_.out (by kernel_rfl)) (by decide) (fun K hK=>?_);refine value_ (w1:=?_) (v:=?_) (by rfl) rfl ?_ ?_;rotate_left 2
       · go_simp;constructor
         · rfl
         · rfl
       refine hK.out _ _ ⟨(blk_cell (blk_alloc BK111.out _) 0).trans rfl,(blk_cell (blk_alloc BK111.out _) 1).trans rfl,(blk_cell (blk_alloc BK111.out _) 2).trans rfl,(blk_cell (blk_alloc BK111.out _) 3).trans rfl,(blk_cell (blk_alloc BK111.out _) 4).trans rfl⟩ (fun hHeld=>?_);clear hK K;refine norm_ (a':=?_) ?_ ?_;rotate_left
       · show Act.put _ (some 23) _=_;simp only [Act.put,List.setIfInBounds_toArray,List.set_cons_zero,List.set_cons_succ,i64_w,i32_w];rfl
       refine one_ (i:=3) (N:=some 24) #[true,true,true,true,true,true,true,false,false] rfl rfl (one_of HT_.out (by kernel_rfl)) (by decide) (fun K hK=>?_);refine Kd.R_append_step k36 (w0:=w) w.heap.size (by rfl) (.tmp 21) (.tmp 23) 22 36 (.agg #[(.int .i64 0),(.int .i64 0),(.int .i64 0),(.int .i64 0),(.string ⟨#[]⟩)]) 48 rfl Tryd.underlying22 info36 rfl (by decide) (by omega) u2 x2_1 (⟨t103,(⟨t104,t105⟩:S27),t106,t107⟩:S36) [.int .i64 t103,.int .i64 t104,.int .i64 t105,.int .i64 t106,.string t107] (fun k_=>k_≠gb111) (fun _=>False) rfl rfl ?aP (fun _ hk=>hk.elim) ?aF ?aO ?aB ?aS ?aL ?_
       (case aP=>exact k36_mkM _ _ _ (⟨t103,(⟨t104,t105⟩:S27),t106,t107⟩:S36))
       (case aB=>exact (by repeat (first|(with_reducible first|exact HB.out|apply below_alloc|apply pw_below_drewN|apply below_drew1|refine below_set ?_ GE102.out|refine below_set ?_ GE111.out|refine below_set ?_ GE112.out)|exact HB.out)))
       (case aF=>exact (fun k_ hk=>Kd.freshB (g:=gb111) (o:= .cells #[.int .i64 t103,.int .i64 t104,.int .i64 t105,.int .i64 t106,.string t107] 36 (0,0)) (by (with_reducible repeat (first|refine blk_drewN ?_ _|refine blk_drew ?_|refine blk_alloc ?_ _));exact BK111.out) k_ hk))
       (case aO=>exact (by (with_reducible repeat (first|apply Kd.R_alloc|apply Kd.R_drewN|apply Kd.R_drew));exact HO_2.out))
       (case aS=>exact (below_size (by repeat (first|(with_reducible first|exact HB.out|apply below_alloc|apply pw_below_drewN|apply below_drew1|refine below_set ?_ GE102.out|refine below_set ?_ GE111.out|refine below_set ?_ GE112.out)|exact HB.out))))
       (case aL=>have:=LMc5.out;omega)
       intro v114 w16 ho hb hg hat;rw [←Ny113.out] at ho;have n0_:=Aside0.mk (blk_grown (g:=gb102) (o:= .cells #[.int .i64 x103000_1,.int .i64 x103001_1] 27 (0,0)) (by (with_reducible repeat (first|refine blk_drewN ?_ _|refine blk_drew ?_|refine blk_alloc ?_ _));exact BK102.out) hg (Kd.R_ne HO_2.out BK102.out (by decide)));have n1_:=Aside0.mk (blk_grown (g:=gb111) (o:= .cells #[.int .i64 t103,.int .i64 t104,.int .i64 t105,.int .i64 t106,.string t107] 36 (0,0)) (by (with_reducible repeat (first|refine blk_drewN ?_ _|refine blk_drew ?_|refine blk_alloc ?_ _));exact BK111.out) hg (Kd.R_away HO_2.out (fun _ hk=>hk)));have n2_:=Aside0.mk (blk_grown (g:=gb112) (o:= .cells #[.int .i64 t108,.int .i64 t109] 27 (0,0)) (by (with_reducible repeat (first|refine blk_drewN ?_ _|refine blk_drew ?_|refine blk_alloc ?_ _));exact BK112.out) hg (Kd.R_ne HO_2.out BK112.out (by decide)));have n3_:=Aside0.mk (hb);have n4_:=Aside0.mk (ho);clear BK102 BK111 BK112 HB HO_2;have BK102:=n0_;have BK111:=n1_;have BK112:=n2_;have HB:=n3_;have HO115:=n4_;clear n0_ n1_ n2_ n3_ n4_ ho hb hg hat;refine hK.out _ _ ⟨(blk_cell BK111.out 0).trans rfl,(blk_cell BK111.out 1).trans rfl,(blk_cell BK111.out 2).trans rfl,(blk_cell BK111.out 3).trans rfl,(blk_cell BK111.out 4).trans rfl⟩ (fun hHeld=>?_);clear hK K;refine norm_ (a':=?_) ?_ ?_;rotate_left
       · show Act.put _ (some 24) _=_;simp only [Act.put,List.setIfInBounds_toArray,List.set_cons_zero,List.set_cons_succ,i64_w,i32_w];rfl
       refine pure_ (i:=7) (N:=some 2) (v:=?_) (a':=?_) #[true,true,true,true,true,true,true,true,false] rfl rfl (any_of HT_.out (by kernel_rfl)) (fun _ _ _ h=>h) (Or.inl ⟨by rfl,?_⟩) ?_ ?_;rotate_left
       · intro w';go_simp
         with_reducible rfl
       rotate_left
       · simp only [Act.put,List.setIfInBounds_toArray,List.set_cons_zero,List.set_cons_succ,i64_w,i32_w];rfl
       refine pure_ (i:=8) (N:=some 5) (v:=?_) (a':=?_) #[true,true,true,true,true,true,true,true,true] rfl rfl (any_of HT_.out (by kernel_rfl)) (fun _ _ _ h=>h) (Or.inl ⟨by rfl,?_⟩) ?_ ?_;rotate_left
       · intro w';go_simp
         with_reducible rfl
       rotate_left
       · simp only [Act.put,List.setIfInBounds_toArray,List.set_cons_zero,List.set_cons_succ,i64_w,i32_w];rfl
       refine done_ (done_of HT_.out (by kernel_rfl)) ?_
       try go_wp2
       go_roundg k1
       case measure=>have:=HK1.out;omega
       case rel=>exact ⟨(y113),(t105),(x103000_1),(x103001_1),(by first|rfl|(simp;done)|(simp [*];done)),H',⟨by have:=HK1.out;omega⟩,⟨by (with_reducible repeat (first|apply Kd.R_alloc|apply Kd.R_drewN|apply Kd.R_drew));exact Kd.R_mono HO115.out (fun _ hk=>trivial)⟩,⟨by (with_reducible repeat (first|refine blk_drewN ?_ _|refine blk_drew ?_|refine blk_alloc ?_ _));exact BK102.out⟩,⟨by repeat (first|(with_reducible first|exact HB.out|apply below_alloc|apply pw_below_drewN|apply below_drew1|refine below_set ?_ GE102.out|refine below_set ?_ GE111.out|refine below_set ?_ GE112.out)|exact HB.out)⟩⟩
     · rw [if_neg c5] at H;exact absurd H (by simp)
   · rw [if_neg c4] at H;have c4b0:(t110==0)=false:=beq_eq_false_iff_ne.mpr c4;have c4b1:(t110 != 0)=true:=bne_iff_ne.mpr c4;by_cases c17:t110=4
     · rw [if_pos c17] at H;have c17b0:(t110==4)=true:=beq_iff_eq.mpr c17;have c17b1:(t110 != 4)=false:=bne_eq_false_iff_eq.mpr c17;clear c17;simp only [Option.some.injEq,Prod.mk.injEq] at H;obtain ⟨rfl,rfl,rfl,rfl⟩:=H
       try go_wp2_with (first|((with_reducible refine gate_callee (f:=13) rfl ?_);refine goesL_ (some 12) rfl rfl Tryd.func13 (by kernel_rfl) rfl #[.slice A0 l0.length c0,.int .i64 x5_1] rfl (by (try simp only [List.map_toArray,List.map_cons,List.map_nil]);first|done|rfl|(simp only [List.length_drop,List.length_take];rfl)) ?_;(with_reducible refine (lexer_Next.calls _ _ l0 x5_1 t103 t104 t105 t106 t107 t108 t109 t110 _ ?side1 ?side2 ?side3 A3.out).mono ?_);(case side1=>repeat (first|exact (Kd.C_below HR0.out HB.out)|(with_reducible refine Kd.C_alloc ?_ _)|(with_reducible refine Kd.C_drewN ?_ _)|(with_reducible refine Kd.C_drew ?_)));(case side2=>exact HC0.out);(case side3=>exact G5_keep HGl.out (by repeat (first|(with_reducible first|exact HB.out|apply below_alloc|apply pw_below_drewN|apply below_drew1|refine below_set ?_ GE102.out)|exact HB.out)));rintro e w18 ⟨rfl,hb⟩;refine ⟨_,rfl,?_⟩;have n0_:=Aside0.mk (Kd.R_below (by (with_reducible repeat (first|apply Kd.R_alloc|apply Kd.R_drewN|apply Kd.R_drew));exact HO_2.out) hb);have n1_:=Aside0.mk (blk_below (g:=gb102) (o:= .cells #[.int .i64 x103000_1,.int .i64 x103001_1] 27 (0,0)) (by (with_reducible repeat (first|refine blk_drewN ?_ _|refine blk_drew ?_|refine blk_alloc ?_ _));exact BK102.out) hb);have n2_:=Aside0.mk (below_step (by repeat (first|(with_reducible first|exact HB.out|apply below_alloc|apply pw_below_drewN|apply below_drew1|refine below_set ?_ GE102.out)|exact HB.out)) hb);clear HO_2;clear BK102;clear HB;have HO_2:=n0_;have BK102:=n1_;have HB:=n2_;clear n0_ n1_ n2_;(try clear hb);(try clear hb2);(try clear hk);(try clear hi))|((with_reducible refine gate_dst (N:=6) rfl ?_);refine box_event ?hg (N:=6) ?hd (cs:= #[.int .i64 0,.int .i64 0,.int .i64 0,.int .i64 0,.string (⟨#[]⟩:ByteArray)]) (t:=36) ?hr ?_;(case hd=>rfl);(case hg=>rfl);(case hr=>first|(go_simp;done)|(go_simp;rfl));intro gb111 hg w19 hbox hb;have n0_:=Aside0.mk (Kd.R_below (Kd.R_elderB (by (with_reducible repeat (first|apply Kd.R_alloc|apply Kd.R_drewN|apply Kd.R_drew));exact HO_2.out) gb111 (Nat.le_of_eq hg.symm)) hb);have n1_:=Aside0.mk (blk_below (g:=gb102) (o:= .cells #[.int .i64 x103000_1,.int .i64 x103001_1] 27 (0,0)) (by (with_reducible repeat (first|refine blk_drewN ?_ _|refine blk_drew ?_|refine blk_alloc ?_ _));exact BK102.out) hb);have n2_:=Aside0.mk (below_step (by repeat (first|(with_reducible first|exact HB.out|apply below_alloc|apply pw_below_drewN|apply below_drew1|refine below_set ?_ GE102.out)|exact HB.out)) hb);have n3_:=Aside0.mk (hbox);have n4_:=Aside0.mk ((by rw [hg];exact (below_size (by repeat (first|(with_reducible first|exact HB.out|apply below_alloc|apply pw_below_drewN|apply below_drew1|refine below_set ?_ GE102.out)|exact HB.out))):w.heap.size≤gb111));have n5_:=Aside0.mk ((by rw [hg];exact (below_size (by repeat (first|(with_reducible first|exact HB.out|apply below_alloc|apply pw_below_drewN|apply below_drew1|refine below_set ?_ GE102.out)|exact HB.out))):w.heap.size≤gb111));have n6_:=Aside0.mk ((by rw [hg];exact Nat.ne_of_lt (blk_lt (g:=gb102) (o:= .cells #[.int .i64 x103000_1,.int .i64 x103001_1] 27 (0,0)) (by (with_reducible repeat (first|refine blk_drewN ?_ _|refine blk_drew ?_|refine blk_alloc ?_ _));exact BK102.out)):gb102≠gb111));have n7_:=Aside0.mk ((by rw [hg];exact Nat.ne_of_gt (blk_lt (g:=gb102) (o:= .cells #[.int .i64 x103000_1,.int .i64 x103001_1] 27 (0,0)) (by (with_reducible repeat (first|refine blk_drewN ?_ _|refine blk_drew ?_|refine blk_alloc ?_ _));exact BK102.out)):gb111≠gb102));clear HO_2;clear BK102;clear HB;have HO_2:=n0_;have BK102:=n1_;have HB:=n2_;have BK111:=n3_;have GW111:=n4_;have GE111:=n5_;have NB102_111:=n6_;have NB111_102:=n7_;clear n0_ n1_ n2_ n3_ n4_ n5_ n6_ n7_;clear hb hbox hg)|((with_reducible refine gate_dst (N:=7) rfl ?_);refine box_event ?hg (N:=7) ?hd (cs:= #[.int .i64 0,.int .i64 0]) (t:=27) ?hr ?_;(case hd=>rfl);(case hg=>rfl);(case hr=>first|(go_simp;done)|(go_simp;rfl));intro gb112 hg w20 hbox hb;have n0_:=Aside0.mk (Kd.R_below (by (with_reducible repeat (first|apply Kd.R_alloc|apply Kd.R_drewN|apply Kd.R_drew));exact HO_2.out) hb);have n1_:=Aside0.mk (blk_below (g:=gb102) (o:= .cells #[.int .i64 x103000_1,.int .i64 x103001_1] 27 (0,0)) (by (with_reducible repeat (first|refine blk_drewN ?_ _|refine blk_drew ?_|refine blk_alloc ?_ _));exact BK102.out) hb);have n2_:=Aside0.mk (blk_below (g:=gb111) (o:= .cells #[.int .i64 0,.int .i64 0,.int .i64 0,.int .i64 0,.string (⟨#[]⟩:ByteArray)] 36 (0,0)) (by (with_reducible repeat (first|refine blk_drewN ?_ _|refine blk_drew ?_|refine blk_alloc ?_ _));exact BK111.out) hb);have n3_:=Aside0.mk (below_step (by repeat (first|(with_reducible first|exact HB.out|apply below_alloc|apply pw_below_drewN|apply below_drew1|refine below_set ?_ GE102.out|refine below_set ?_ GE111.out)|exact HB.out)) hb);have n4_:=Aside0.mk (hbox);have n5_:=Aside0.mk ((by rw [hg];exact (below_size (by repeat (first|(with_reducible first|exact HB.out|apply below_alloc|apply pw_below_drewN|apply below_drew1|refine below_set ?_ GE102.out|refine below_set ?_ GE111.out)|exact HB.out))):w.heap.size≤gb112));have n6_:=Aside0.mk ((by rw [hg];exact (below_size (by repeat (first|(with_reducible first|exact HB.out|apply below_alloc|apply pw_below_drewN|apply below_drew1|refine below_set ?_ GE102.out|refine below_set ?_ GE111.out)|exact HB.out))):w.heap.size≤gb112));have n7_:=Aside0.mk ((by rw [hg];exact Nat.ne_of_lt (blk_lt (g:=gb102) (o:= .cells #[.int .i64 x103000_1,.int .i64 x103001_1] 27 (0,0)) (by (with_reducible repeat (first|refine blk_drewN ?_ _|refine blk_drew ?_|refine blk_alloc ?_ _));exact BK102.out)):gb102≠gb112));have n8_:=Aside0.mk ((by rw [hg];exact Nat.ne_of_gt (blk_lt (g:=gb102) (o:= .cells #[.int .i64 x103000_1,.int .i64 x103001_1] 27 (0,0)) (by (with_reducible repeat (first|refine blk_drewN ?_ _|refine blk_drew ?_|refine blk_alloc ?_ _));exact BK102.out)):gb112≠gb102));have n9_:=Aside0.mk ((by rw [hg];exact Nat.ne_of_lt (blk_lt (g:=gb111) (o:= .cells #[.int .i64 0,.int .i64 0,.int .i64 0,.int .i64 0,.string (⟨#[]⟩:ByteArray)] 36 (0,0)) (by (with_reducible repeat (first|refine blk_drewN ?_ _|refine blk_drew ?_|refine blk_alloc ?_ _));exact BK111.out)):gb111≠gb112));have n10_:=Aside0.mk ((by rw [hg];exact Nat.ne_of_gt (blk_lt (g:=gb111) (o:= .cells #[.int .i64 0,.int .i64 0,.int .i64 0,.int .i64 0,.string (⟨#[]⟩:ByteArray)] 36 (0,0)) (by (with_reducible repeat (first|refine blk_drewN ?_ _|refine blk_drew ?_|refine blk_alloc ?_ _));exact BK111.out)):gb112≠gb111));clear HO_2;clear BK102;clear BK111;clear HB;have HO_2:=n0_;have BK102:=n1_;have BK111:=n2_;have HB:=n3_;have BK112:=n4_;have GW112:=n5_;have GE112:=n6_;have NB102_112:=n7_;have NB112_102:=n8_;have NB111_112:=n9_;have NB112_111:=n10_;clear n0_ n1_ n2_ n3_ n4_ n5_ n6_ n7_ n8_ n9_ n10_;clear hb hbox hg;have hnb21:=NB111_102.out;have hnc21:=NB102_111.out;have hnb22:=NB111_112.out;have hnc22:=NB112_111.out;have hcz23_0:w20.cell? ⟨gb111,0,none⟩=some (.int .i64 0):=(blk_cell BK111.out 0).trans rfl;have hcz23_1:w20.cell? ⟨gb111,1,none⟩=some (.int .i64 0):=(blk_cell BK111.out 1).trans rfl;have hcz23_2:w20.cell? ⟨gb111,2,none⟩=some (.int .i64 0):=(blk_cell BK111.out 2).trans rfl;have hcz23_3:w20.cell? ⟨gb111,3,none⟩=some (.int .i64 0):=(blk_cell BK111.out 3).trans rfl;have hcz23_4:w20.cell? ⟨gb111,4,none⟩=some (.string (⟨#[]⟩:ByteArray)):=(blk_cell BK111.out 4).trans rfl;have hfz23_0:=blk_frozen BK111.out 0;have hfz23_1:=blk_frozen BK111.out 1;have hfz23_2:=blk_frozen BK111.out 2;have hfz23_3:=blk_frozen BK111.out 3;have hfz23_4:=blk_frozen BK111.out 4;have hnb24:=NB112_102.out;have hnc24:=NB102_112.out;have hcz25_0:w20.cell? ⟨gb112,0,none⟩=some (.int .i64 0):=(blk_cell BK112.out 0).trans rfl;have hcz25_1:w20.cell? ⟨gb112,1,none⟩=some (.int .i64 0):=(blk_cell BK112.out 1).trans rfl;have hfz25_0:=blk_frozen BK112.out 0;have hfz25_1:=blk_frozen BK112.out 1))
       have n0_:Aside0 (Kd.R k36 36 (((((((w20.setCell ⟨gb111,0,none⟩ (.int .i64 t103)).setCell ⟨gb111,1,none⟩ (.int .i64 t104)).setCell ⟨gb111,2,none⟩ (.int .i64 t105)).setCell ⟨gb111,3,none⟩ (.int .i64 t106)).setCell ⟨gb111,4,none⟩ (.string t107)).setCell ⟨gb112,0,none⟩ (.int .i64 t108)).setCell ⟨gb112,1,none⟩ (.int .i64 t109)) w.heap.size (fun k_=>k_≠gb111) u2 x2_1):=⟨by (with_reducible repeat (first|apply Kd.R_alloc|apply Kd.R_drewN|apply Kd.R_drew));exact Kd.R_mono (Kd.R_far (p:=⟨gb112,1,none⟩) (Kd.R_far (p:=⟨gb112,0,none⟩) (Kd.R_far (p:=⟨gb111,4,none⟩) (Kd.R_far (p:=⟨gb111,3,none⟩) (Kd.R_far (p:=⟨gb111,2,none⟩) (Kd.R_far (p:=⟨gb111,1,none⟩) (Kd.R_far (p:=⟨gb111,0,none⟩) (Kd.R_types (Kd.R_mono HO_2.out (fun k_ hk=>(⟨hk,hk.2⟩:_∧k_≠gb111))) BK112.out (by decide)) (fun _ hk=>hk.1.2) (.int .i64 t103)) (fun _ hk=>hk.1.2) (.int .i64 t104)) (fun _ hk=>hk.1.2) (.int .i64 t105)) (fun _ hk=>hk.1.2) (.int .i64 t106)) (fun _ hk=>hk.1.2) (.string t107)) (fun _ hk=>hk.2) (.int .i64 t108)) (fun _ hk=>hk.2) (.int .i64 t109)) (fun _ hk=>hk.1.1.2)⟩
       have n1_:Aside0 ((((((((w20.setCell ⟨gb111,0,none⟩ (.int .i64 t103)).setCell ⟨gb111,1,none⟩ (.int .i64 t104)).setCell ⟨gb111,2,none⟩ (.int .i64 t105)).setCell ⟨gb111,3,none⟩ (.int .i64 t106)).setCell ⟨gb111,4,none⟩ (.string t107)).setCell ⟨gb112,0,none⟩ (.int .i64 t108)).setCell ⟨gb112,1,none⟩ (.int .i64 t109)).heap[gb102]? =some (.cells #[.int .i64 x103000_1,.int .i64 x103001_1] 27 (0,0))):=⟨by (with_reducible repeat (first|refine blk_drewN ?_ _|refine blk_drew ?_|refine blk_alloc ?_ _));refine blk_far ?_ NB102_112.out _;(with_reducible repeat (first|refine blk_drewN ?_ _|refine blk_drew ?_|refine blk_alloc ?_ _));refine blk_far ?_ NB102_112.out _;(with_reducible repeat (first|refine blk_drewN ?_ _|refine blk_drew ?_|refine blk_alloc ?_ _));refine blk_far ?_ NB102_111.out _;(with_reducible repeat (first|refine blk_drewN ?_ _|refine blk_drew ?_|refine blk_alloc ?_ _));refine blk_far ?_ NB102_111.out _;(with_reducible repeat (first|refine blk_drewN ?_ _|refine blk_drew ?_|refine blk_alloc ?_ _));refine blk_far ?_ NB102_111.out _;(with_reducible repeat (first|refine blk_drewN ?_ _|refine blk_drew ?_|refine blk_alloc ?_ _));refine blk_far ?_ NB102_111.out _;(with_reducible repeat (first|refine blk_drewN ?_ _|refine blk_drew ?_|refine blk_alloc ?_ _));refine blk_far ?_ NB102_111.out _;(with_reducible repeat (first|refine blk_drewN ?_ _|refine blk_drew ?_|refine blk_alloc ?_ _));exact BK102.out⟩
       have n2_:Aside0 ((((((((w20.setCell ⟨gb111,0,none⟩ (.int .i64 t103)).setCell ⟨gb111,1,none⟩ (.int .i64 t104)).setCell ⟨gb111,2,none⟩ (.int .i64 t105)).setCell ⟨gb111,3,none⟩ (.int .i64 t106)).setCell ⟨gb111,4,none⟩ (.string t107)).setCell ⟨gb112,0,none⟩ (.int .i64 t108)).setCell ⟨gb112,1,none⟩ (.int .i64 t109)).heap[gb111]? =some (.cells #[.int .i64 t103,.int .i64 t104,.int .i64 t105,.int .i64 t106,.string t107] 36 (0,0))):=⟨by (with_reducible repeat (first|refine blk_drewN ?_ _|refine blk_drew ?_|refine blk_alloc ?_ _));refine blk_far ?_ NB111_112.out _;(with_reducible repeat (first|refine blk_drewN ?_ _|refine blk_drew ?_|refine blk_alloc ?_ _));refine blk_far ?_ NB111_112.out _;(with_reducible repeat (first|refine blk_drewN ?_ _|refine blk_drew ?_|refine blk_alloc ?_ _));refine blk_put (cs:= #[.int .i64 t103,.int .i64 t104,.int .i64 t105,.int .i64 t106,.string (⟨#[]⟩:ByteArray)]) ?_ 4 _ rfl;(with_reducible repeat (first|refine blk_drewN ?_ _|refine blk_drew ?_|refine blk_alloc ?_ _));refine blk_put (cs:= #[.int .i64 t103,.int .i64 t104,.int .i64 t105,.int .i64 0,.string (⟨#[]⟩:ByteArray)]) ?_ 3 _ rfl;(with_reducible repeat (first|refine blk_drewN ?_ _|refine blk_drew ?_|refine blk_alloc ?_ _));refine blk_put (cs:= #[.int .i64 t103,.int .i64 t104,.int .i64 0,.int .i64 0,.string (⟨#[]⟩:ByteArray)]) ?_ 2 _ rfl;(with_reducible repeat (first|refine blk_drewN ?_ _|refine blk_drew ?_|refine blk_alloc ?_ _));refine blk_put (cs:= #[.int .i64 t103,.int .i64 0,.int .i64 0,.int .i64 0,.string (⟨#[]⟩:ByteArray)]) ?_ 1 _ rfl;(with_reducible repeat (first|refine blk_drewN ?_ _|refine blk_drew ?_|refine blk_alloc ?_ _));refine blk_put (cs:= #[.int .i64 0,.int .i64 0,.int .i64 0,.int .i64 0,.string (⟨#[]⟩:ByteArray)]) ?_ 0 _ rfl;(with_reducible repeat (first|refine blk_drewN ?_ _|refine blk_drew ?_|refine blk_alloc ?_ _));exact BK111.out⟩
       have n3_:Aside0 ((((((((w20.setCell ⟨gb111,0,none⟩ (.int .i64 t103)).setCell ⟨gb111,1,none⟩ (.int .i64 t104)).setCell ⟨gb111,2,none⟩ (.int .i64 t105)).setCell ⟨gb111,3,none⟩ (.int .i64 t106)).setCell ⟨gb111,4,none⟩ (.string t107)).setCell ⟨gb112,0,none⟩ (.int .i64 t108)).setCell ⟨gb112,1,none⟩ (.int .i64 t109)).heap[gb112]? =some (.cells #[.int .i64 t108,.int .i64 t109] 27 (0,0))):=⟨by (with_reducible repeat (first|refine blk_drewN ?_ _|refine blk_drew ?_|refine blk_alloc ?_ _));refine blk_put (cs:= #[.int .i64 t108,.int .i64 0]) ?_ 1 _ rfl;(with_reducible repeat (first|refine blk_drewN ?_ _|refine blk_drew ?_|refine blk_alloc ?_ _));refine blk_put (cs:= #[.int .i64 0,.int .i64 0]) ?_ 0 _ rfl;(with_reducible repeat (first|refine blk_drewN ?_ _|refine blk_drew ?_|refine blk_alloc ?_ _));refine blk_far ?_ NB112_111.out _;(with_reducible repeat (first|refine blk_drewN ?_ _|refine blk_drew ?_|refine blk_alloc ?_ _));refine blk_far ?_ NB112_111.out _;(with_reducible repeat (first|refine blk_drewN ?_ _|refine blk_drew ?_|refine blk_alloc ?_ _));refine blk_far ?_ NB112_111.out _;(with_reducible repeat (first|refine blk_drewN ?_ _|refine blk_drew ?_|refine blk_alloc ?_ _));refine blk_far ?_ NB112_111.out _;(with_reducible repeat (first|refine blk_drewN ?_ _|refine blk_drew ?_|refine blk_alloc ?_ _));refine blk_far ?_ NB112_111.out _;(with_reducible repeat (first|refine blk_drewN ?_ _|refine blk_drew ?_|refine blk_alloc ?_ _));exact BK112.out⟩
       have n4_:Aside0 (Below w.heap.size w (((((((w20.setCell ⟨gb111,0,none⟩ (.int .i64 t103)).setCell ⟨gb111,1,none⟩ (.int .i64 t104)).setCell ⟨gb111,2,none⟩ (.int .i64 t105)).setCell ⟨gb111,3,none⟩ (.int .i64 t106)).setCell ⟨gb111,4,none⟩ (.string t107)).setCell ⟨gb112,0,none⟩ (.int .i64 t108)).setCell ⟨gb112,1,none⟩ (.int .i64 t109))):=⟨by repeat (first|(with_reducible first|exact HB.out|apply below_alloc|apply pw_below_drewN|apply below_drew1|refine below_set ?_ GE102.out|refine below_set ?_ GE111.out|refine below_set ?_ GE112.out)|exact HB.out)⟩
       (try clear HO_2)
       (try clear BK102)
       (try clear BK111)
       (try clear BK112)
       (try clear HB)
       generalize (((((((w20.setCell ⟨gb111,0,none⟩ (.int .i64 t103)).setCell ⟨gb111,1,none⟩ (.int .i64 t104)).setCell ⟨gb111,2,none⟩ (.int .i64 t105)).setCell ⟨gb111,3,none⟩ (.int .i64 t106)).setCell ⟨gb111,4,none⟩ (.string t107)).setCell ⟨gb112,0,none⟩ (.int .i64 t108)).setCell ⟨gb112,1,none⟩ (.int .i64 t109))=w26 at n0_ n1_ n2_ n3_ n4_ ⊢; have HO_2:=n0_;have BK102:=n1_;have BK111:=n2_;have BK112:=n3_;have HB:=n4_;clear n0_ n1_ n2_ n3_ n4_;have n0_:=Aside0.mk (Kd.R_drew HO_2.out);have n1_:=Aside0.mk (blk_drew BK102.out);have n2_:=Aside0.mk (blk_drew BK111.out);have n3_:=Aside0.mk (blk_drew BK112.out);have n4_:=Aside0.mk (below_drew1 HB.out);clear HO_2 BK102 BK111 BK112 HB;have HO_2:=n0_;have BK102:=n1_;have BK111:=n2_;have BK112:=n3_;have HB:=n4_;clear n0_ n1_ n2_ n3_ n4_;refine start_ (n:=5) (S:=fun w'=>w'.cell? ⟨gb112,0,none⟩=some (.int .i64 t108)∧w'.cell? ⟨gb112,1,none⟩=some (.int .i64 t109)) (ds:=[]) #[false,false,false,false,false] (by kernel_rfl) rfl rfl ⟨(blk_cell BK112.out 0).trans rfl,(blk_cell BK112.out 1).trans rfl⟩ (fun hHeld=>?_);generalize w26.drew=w27 at HO_2 BK102 BK111 BK112 HB hHeld ⊢; refine pure_ (i:=0) (N:=some 30) (v:=?_) (a':=?_) #[true,false,false,false,false] rfl rfl (by kernel_rfl) (fun _ _ _ h=>h) (Or.inl ⟨by rfl,?_⟩) ?_ ?_;rotate_left
       · intro w';go_simp
         with_reducible rfl
       rotate_left
       · simp only [Act.put,List.setIfInBounds_toArray,List.set_cons_zero,List.set_cons_succ,i64_w,i32_w];rfl
       refine pure_ (i:=2) (N:=some 2) (v:=?_) (a':=?_) #[true,false,true,false,false] rfl rfl (by kernel_rfl) (fun _ _ _ h=>h) (Or.inl ⟨by rfl,?_⟩) ?_ ?_;rotate_left
       · intro w';go_simp
         with_reducible rfl
       rotate_left
       · simp only [Act.put,List.setIfInBounds_toArray,List.set_cons_zero,List.set_cons_succ,i64_w,i32_w];rfl
       refine take_ (i:=1) (N:=some 31) (v:=?_) (a':=?_) #[true,true,true,false,false] rfl rfl (by kernel_rfl) (fun _ _ _ h=>h) (Or.inl ⟨by rfl,?_⟩) hHeld ?_ ?_;rotate_left
       · rintro w' ⟨s0,s1⟩;go_simp
         with_reducible rfl
       rotate_left
       · simp only [Act.put,List.setIfInBounds_toArray,List.set_cons_zero,List.set_cons_succ,i64_w,i32_w];rfl
       refine one_ (i:=3) (N:=none) #[true,true,true,true,false] rfl rfl (by kernel_rfl) (by decide) (fun K hK=>?_);have hs28:w27.cell? ⟨gb102,0,none⟩=some (.int .i64 x103000_1):=(blk_cell BK102.out 0).trans rfl;have hfs28:=blk_frozen BK102.out 0;have hns28_1:=NB111_102.out;have hns28_2:=NB112_102.out;have hms28_1:=NB102_111.out;have hms28_2:=NB102_112.out;have hs29:w27.cell? ⟨gb102,1,none⟩=some (.int .i64 x103001_1):=(blk_cell BK102.out 1).trans rfl;have hfs29:=blk_frozen BK102.out 1;have hns29_1:=NB111_102.out;have hns29_2:=NB112_102.out;have hms29_1:=NB102_111.out;have hms29_2:=NB102_112.out;refine skip_ (w1:=?_) (by rfl) rfl ?_ ?_;rotate_left
       · go_simp;rfl
       refine hK.out _ _ ⟨((cell_far (p:=⟨gb102,_,none⟩) NB112_102.out _).trans (((cell_far (p:=⟨gb102,_,none⟩) NB112_102.out _).trans (hHeld.1)))),((cell_far (p:=⟨gb102,_,none⟩) NB112_102.out _).trans (((cell_far (p:=⟨gb102,_,none⟩) NB112_102.out _).trans (hHeld.2))))⟩ (fun hHeld=>?_);clear hK K;refine pure_ (i:=4) (N:=some 4) (v:=?_) (a':=?_) #[true,true,true,true,true] rfl rfl (by kernel_rfl) (fun _ _ _ h=>h) (Or.inl ⟨by rfl,?_⟩) ?_ ?_;rotate_left
       · intro w';go_simp
         with_reducible rfl
       rotate_left
       · simp only [Act.put,List.setIfInBounds_toArray,List.set_cons_zero,List.set_cons_succ,i64_w,i32_w];rfl
       refine done_ (by kernel_rfl) ?_
       try go_wp2
       refine bodyPost_ret (results_list (rs:=[.tmp 2,.cell 3 27,.tmp 4]) rfl (by simp) (.tmp (.cell gb102 27 #[.int .i64 t108,.int .i64 t109] (0,0) _ rfl (by (with_reducible repeat (first|refine blk_drewN ?_ _|refine blk_drew ?_|refine blk_alloc ?_ _));refine blk_put (cs:= #[.int .i64 t108,.int .i64 x103001_1]) ?_ 1 _ rfl;(with_reducible repeat (first|refine blk_drewN ?_ _|refine blk_drew ?_|refine blk_alloc ?_ _));refine blk_put (cs:= #[.int .i64 x103000_1,.int .i64 x103001_1]) ?_ 0 _ rfl;(with_reducible repeat (first|refine blk_drewN ?_ _|refine blk_drew ?_|refine blk_alloc ?_ _));exact BK102.out) Tryd.underlying27 rfl (by kernel_rfl) (.tmp .nil)))) rfl ?_;exact ⟨_,by first|rfl|(simp [errW_none,errW_some]<;>rfl)|(simp [*, errW_none,errW_some]<;>rfl),by (with_reducible repeat (first|apply Kd.R_alloc|apply Kd.R_drewN|apply Kd.R_drew));exact Kd.R_mono (Kd.R_far (p:=⟨gb102,1,none⟩) (Kd.R_far (p:=⟨gb102,0,none⟩) (Kd.R_types HO_2.out BK102.out (by decide)) (fun _ hk=>hk.2) (.int .i64 t108)) (fun _ hk=>hk.2) (.int .i64 t109)) (fun _ hk=>trivial),by repeat (first|(with_reducible first|exact HB.out|apply below_alloc|apply pw_below_drewN|apply below_drew1|refine below_set ?_ GE102.out|refine below_set ?_ GE111.out|refine below_set ?_ GE112.out)|exact HB.out)⟩
     · rw [if_neg c17] at H;have c17b0:(t110==4)=false:=beq_eq_false_iff_ne.mpr c17;have c17b1:(t110 != 4)=true:=bne_iff_ne.mpr c17;simp only [Option.some.injEq,Prod.mk.injEq] at H;obtain ⟨rfl,rfl,rfl,rfl⟩:=H
       try go_wp2_with (first|((with_reducible refine gate_callee (f:=13) rfl ?_);refine goesL_ (some 12) rfl rfl Tryd.func13 (by kernel_rfl) rfl #[.slice A0 l0.length c0,.int .i64 x5_1] rfl (by (try simp only [List.map_toArray,List.map_cons,List.map_nil]);first|done|rfl|(simp only [List.length_drop,List.length_take];rfl)) ?_;(with_reducible refine (lexer_Next.calls _ _ l0 x5_1 t103 t104 t105 t106 t107 t108 t109 t110 _ ?side1 ?side2 ?side3 A3.out).mono ?_);(case side1=>repeat (first|exact (Kd.C_below HR0.out HB.out)|(with_reducible refine Kd.C_alloc ?_ _)|(with_reducible refine Kd.C_drewN ?_ _)|(with_reducible refine Kd.C_drew ?_)));(case side2=>exact HC0.out);(case side3=>exact G5_keep HGl.out (by repeat (first|(with_reducible first|exact HB.out|apply below_alloc|apply pw_below_drewN|apply below_drew1|refine below_set ?_ GE102.out)|exact HB.out)));rintro e w30 ⟨rfl,hb⟩;refine ⟨_,rfl,?_⟩;have n0_:=Aside0.mk (Kd.R_below (by (with_reducible repeat (first|apply Kd.R_alloc|apply Kd.R_drewN|apply Kd.R_drew));exact HO_2.out) hb);have n1_:=Aside0.mk (blk_below (g:=gb102) (o:= .cells #[.int .i64 x103000_1,.int .i64 x103001_1] 27 (0,0)) (by (with_reducible repeat (first|refine blk_drewN ?_ _|refine blk_drew ?_|refine blk_alloc ?_ _));exact BK102.out) hb);have n2_:=Aside0.mk (below_step (by repeat (first|(with_reducible first|exact HB.out|apply below_alloc|apply pw_below_drewN|apply below_drew1|refine below_set ?_ GE102.out)|exact HB.out)) hb);clear HO_2;clear BK102;clear HB;have HO_2:=n0_;have BK102:=n1_;have HB:=n2_;clear n0_ n1_ n2_;(try clear hb);(try clear hb2);(try clear hk);(try clear hi))|((with_reducible refine gate_dst (N:=6) rfl ?_);refine box_event ?hg (N:=6) ?hd (cs:= #[.int .i64 0,.int .i64 0,.int .i64 0,.int .i64 0,.string (⟨#[]⟩:ByteArray)]) (t:=36) ?hr ?_;(case hd=>rfl);(case hg=>rfl);(case hr=>first|(go_simp;done)|(go_simp;rfl));intro gb111 hg w31 hbox hb;have n0_:=Aside0.mk (Kd.R_below (Kd.R_elderB (by (with_reducible repeat (first|apply Kd.R_alloc|apply Kd.R_drewN|apply Kd.R_drew));exact HO_2.out) gb111 (Nat.le_of_eq hg.symm)) hb);have n1_:=Aside0.mk (blk_below (g:=gb102) (o:= .cells #[.int .i64 x103000_1,.int .i64 x103001_1] 27 (0,0)) (by (with_reducible repeat (first|refine blk_drewN ?_ _|refine blk_drew ?_|refine blk_alloc ?_ _));exact BK102.out) hb);have n2_:=Aside0.mk (below_step (by repeat (first|(with_reducible first|exact HB.out|apply below_alloc|apply pw_below_drewN|apply below_drew1|refine below_set ?_ GE102.out)|exact HB.out)) hb);have n3_:=Aside0.mk (hbox);have n4_:=Aside0.mk ((by rw [hg];exact (below_size (by repeat (first|(with_reducible first|exact HB.out|apply below_alloc|apply pw_below_drewN|apply below_drew1|refine below_set ?_ GE102.out)|exact HB.out))):w.heap.size≤gb111));have n5_:=Aside0.mk ((by rw [hg];exact (below_size (by repeat (first|(with_reducible first|exact HB.out|apply below_alloc|apply pw_below_drewN|apply below_drew1|refine below_set ?_ GE102.out)|exact HB.out))):w.heap.size≤gb111));have n6_:=Aside0.mk ((by rw [hg];exact Nat.ne_of_lt (blk_lt (g:=gb102) (o:= .cells #[.int .i64 x103000_1,.int .i64 x103001_1] 27 (0,0)) (by (with_reducible repeat (first|refine blk_drewN ?_ _|refine blk_drew ?_|refine blk_alloc ?_ _));exact BK102.out)):gb102≠gb111));have n7_:=Aside0.mk ((by rw [hg];exact Nat.ne_of_gt (blk_lt (g:=gb102) (o:= .cells #[.int .i64 x103000_1,.int .i64 x103001_1] 27 (0,0)) (by (with_reducible repeat (first|refine blk_drewN ?_ _|refine blk_drew ?_|refine blk_alloc ?_ _));exact BK102.out)):gb111≠gb102));clear HO_2;clear BK102;clear HB;have HO_2:=n0_;have BK102:=n1_;have HB:=n2_;have BK111:=n3_;have GW111:=n4_;have GE111:=n5_;have NB102_111:=n6_;have NB111_102:=n7_;clear n0_ n1_ n2_ n3_ n4_ n5_ n6_ n7_;clear hb hbox hg)|((with_reducible refine gate_dst (N:=7) rfl ?_);refine box_event ?hg (N:=7) ?hd (cs:= #[.int .i64 0,.int .i64 0]) (t:=27) ?hr ?_;(case hd=>rfl);(case hg=>rfl);(case hr=>first|(go_simp;done)|(go_simp;rfl));intro gb112 hg w32 hbox hb;have n0_:=Aside0.mk (Kd.R_below (by (with_reducible repeat (first|apply Kd.R_alloc|apply Kd.R_drewN|apply Kd.R_drew));exact HO_2.out) hb);have n1_:=Aside0.mk (blk_below (g:=gb102) (o:= .cells #[.int .i64 x103000_1,.int .i64 x103001_1] 27 (0,0)) (by (with_reducible repeat (first|refine blk_drewN ?_ _|refine blk_drew ?_|refine blk_alloc ?_ _));exact BK102.out) hb);have n2_:=Aside0.mk (blk_below (g:=gb111) (o:= .cells #[.int .i64 0,.int .i64 0,.int .i64 0,.int .i64 0,.string (⟨#[]⟩:ByteArray)] 36 (0,0)) (by (with_reducible repeat (first|refine blk_drewN ?_ _|refine blk_drew ?_|refine blk_alloc ?_ _));exact BK111.out) hb);have n3_:=Aside0.mk (below_step (by repeat (first|(with_reducible first|exact HB.out|apply below_alloc|apply pw_below_drewN|apply below_drew1|refine below_set ?_ GE102.out|refine below_set ?_ GE111.out)|exact HB.out)) hb);have n4_:=Aside0.mk (hbox);have n5_:=Aside0.mk ((by rw [hg];exact (below_size (by repeat (first|(with_reducible first|exact HB.out|apply below_alloc|apply pw_below_drewN|apply below_drew1|refine below_set ?_ GE102.out|refine below_set ?_ GE111.out)|exact HB.out))):w.heap.size≤gb112));have n6_:=Aside0.mk ((by rw [hg];exact (below_size (by repeat (first|(with_reducible first|exact HB.out|apply below_alloc|apply pw_below_drewN|apply below_drew1|refine below_set ?_ GE102.out|refine below_set ?_ GE111.out)|exact HB.out))):w.heap.size≤gb112));have n7_:=Aside0.mk ((by rw [hg];exact Nat.ne_of_lt (blk_lt (g:=gb102) (o:= .cells #[.int .i64 x103000_1,.int .i64 x103001_1] 27 (0,0)) (by (with_reducible repeat (first|refine blk_drewN ?_ _|refine blk_drew ?_|refine blk_alloc ?_ _));exact BK102.out)):gb102≠gb112));have n8_:=Aside0.mk ((by rw [hg];exact Nat.ne_of_gt (blk_lt (g:=gb102) (o:= .cells #[.int .i64 x103000_1,.int .i64 x103001_1] 27 (0,0)) (by (with_reducible repeat (first|refine blk_drewN ?_ _|refine blk_drew ?_|refine blk_alloc ?_ _));exact BK102.out)):gb112≠gb102));have n9_:=Aside0.mk ((by rw [hg];exact Nat.ne_of_lt (blk_lt (g:=gb111) (o:= .cells #[.int .i64 0,.int .i64 0,.int .i64 0,.int .i64 0,.string (⟨#[]⟩:ByteArray)] 36 (0,0)) (by (with_reducible repeat (first|refine blk_drewN ?_ _|refine blk_drew ?_|refine blk_alloc ?_ _));exact BK111.out)):gb111≠gb112));have n10_:=Aside0.mk ((by rw [hg];exact Nat.ne_of_gt (blk_lt (g:=gb111) (o:= .cells #[.int .i64 0,.int .i64 0,.int .i64 0,.int .i64 0,.string (⟨#[]⟩:ByteArray)] 36 (0,0)) (by (with_reducible repeat (first|refine blk_drewN ?_ _|refine blk_drew ?_|refine blk_alloc ?_ _));exact BK111.out)):gb112≠gb111));clear HO_2;clear BK102;clear BK111;clear HB;have HO_2:=n0_;have BK102:=n1_;have BK111:=n2_;have HB:=n3_;have BK112:=n4_;have GW112:=n5_;have GE112:=n6_;have NB102_112:=n7_;have NB112_102:=n8_;have NB111_112:=n9_;have NB112_111:=n10_;clear n0_ n1_ n2_ n3_ n4_ n5_ n6_ n7_ n8_ n9_ n10_;clear hb hbox hg;have hnb33:=NB111_102.out;have hnc33:=NB102_111.out;have hnb34:=NB111_112.out;have hnc34:=NB112_111.out;have hcz35_0:w32.cell? ⟨gb111,0,none⟩=some (.int .i64 0):=(blk_cell BK111.out 0).trans rfl;have hcz35_1:w32.cell? ⟨gb111,1,none⟩=some (.int .i64 0):=(blk_cell BK111.out 1).trans rfl;have hcz35_2:w32.cell? ⟨gb111,2,none⟩=some (.int .i64 0):=(blk_cell BK111.out 2).trans rfl;have hcz35_3:w32.cell? ⟨gb111,3,none⟩=some (.int .i64 0):=(blk_cell BK111.out 3).trans rfl;have hcz35_4:w32.cell? ⟨gb111,4,none⟩=some (.string (⟨#[]⟩:ByteArray)):=(blk_cell BK111.out 4).trans rfl;have hfz35_0:=blk_frozen BK111.out 0;have hfz35_1:=blk_frozen BK111.out 1;have hfz35_2:=blk_frozen BK111.out 2;have hfz35_3:=blk_frozen BK111.out 3;have hfz35_4:=blk_frozen BK111.out 4;have hnb36:=NB112_102.out;have hnc36:=NB102_112.out;have hcz37_0:w32.cell? ⟨gb112,0,none⟩=some (.int .i64 0):=(blk_cell BK112.out 0).trans rfl;have hcz37_1:w32.cell? ⟨gb112,1,none⟩=some (.int .i64 0):=(blk_cell BK112.out 1).trans rfl;have hfz37_0:=blk_frozen BK112.out 0;have hfz37_1:=blk_frozen BK112.out 1))
       have n0_:Aside0 (Kd.R k36 36 (((((((w32.setCell ⟨gb111,0,none⟩ (.int .i64 t103)).setCell ⟨gb111,1,none⟩ (.int .i64 t104)).setCell ⟨gb111,2,none⟩ (.int .i64 t105)).setCell ⟨gb111,3,none⟩ (.int .i64 t106)).setCell ⟨gb111,4,none⟩ (.string t107)).setCell ⟨gb112,0,none⟩ (.int .i64 t108)).setCell ⟨gb112,1,none⟩ (.int .i64 t109)) w.heap.size (fun k_=>k_≠gb111) u2 x2_1):=⟨by (with_reducible repeat (first|apply Kd.R_alloc|apply Kd.R_drewN|apply Kd.R_drew));exact Kd.R_mono (Kd.R_far (p:=⟨gb112,1,none⟩) (Kd.R_far (p:=⟨gb112,0,none⟩) (Kd.R_far (p:=⟨gb111,4,none⟩) (Kd.R_far (p:=⟨gb111,3,none⟩) (Kd.R_far (p:=⟨gb111,2,none⟩) (Kd.R_far (p:=⟨gb111,1,none⟩) (Kd.R_far (p:=⟨gb111,0,none⟩) (Kd.R_types (Kd.R_mono HO_2.out (fun k_ hk=>(⟨hk,hk.2⟩:_∧k_≠gb111))) BK112.out (by decide)) (fun _ hk=>hk.1.2) (.int .i64 t103)) (fun _ hk=>hk.1.2) (.int .i64 t104)) (fun _ hk=>hk.1.2) (.int .i64 t105)) (fun _ hk=>hk.1.2) (.int .i64 t106)) (fun _ hk=>hk.1.2) (.string t107)) (fun _ hk=>hk.2) (.int .i64 t108)) (fun _ hk=>hk.2) (.int .i64 t109)) (fun _ hk=>hk.1.1.2)⟩
       have n1_:Aside0 ((((((((w32.setCell ⟨gb111,0,none⟩ (.int .i64 t103)).setCell ⟨gb111,1,none⟩ (.int .i64 t104)).setCell ⟨gb111,2,none⟩ (.int .i64 t105)).setCell ⟨gb111,3,none⟩ (.int .i64 t106)).setCell ⟨gb111,4,none⟩ (.string t107)).setCell ⟨gb112,0,none⟩ (.int .i64 t108)).setCell ⟨gb112,1,none⟩ (.int .i64 t109)).heap[gb102]? =some (.cells #[.int .i64 x103000_1,.int .i64 x103001_1] 27 (0,0))):=⟨by (with_reducible repeat (first|refine blk_drewN ?_ _|refine blk_drew ?_|refine blk_alloc ?_ _));refine blk_far ?_ NB102_112.out _;(with_reducible repeat (first|refine blk_drewN ?_ _|refine blk_drew ?_|refine blk_alloc ?_ _));refine blk_far ?_ NB102_112.out _;(with_reducible repeat (first|refine blk_drewN ?_ _|refine blk_drew ?_|refine blk_alloc ?_ _));refine blk_far ?_ NB102_111.out _;(with_reducible repeat (first|refine blk_drewN ?_ _|refine blk_drew ?_|refine blk_alloc ?_ _));refine blk_far ?_ NB102_111.out _;(with_reducible repeat (first|refine blk_drewN ?_ _|refine blk_drew ?_|refine blk_alloc ?_ _));refine blk_far ?_ NB102_111.out _;(with_reducible repeat (first|refine blk_drewN ?_ _|refine blk_drew ?_|refine blk_alloc ?_ _));refine blk_far ?_ NB102_111.out _;(with_reducible repeat (first|refine blk_drewN ?_ _|refine blk_drew ?_|refine blk_alloc ?_ _));refine blk_far ?_ NB102_111.out _;(with_reducible repeat (first|refine blk_drewN ?_ _|refine blk_drew ?_|refine blk_alloc ?_ _));exact BK102.out⟩
       have n2_:Aside0 ((((((((w32.setCell ⟨gb111,0,none⟩ (.int .i64 t103)).setCell ⟨gb111,1,none⟩ (.int .i64 t104)).setCell ⟨gb111,2,none⟩ (.int .i64 t105)).setCell ⟨gb111,3,none⟩ (.int .i64 t106)).setCell ⟨gb111,4,none⟩ (.string t107)).setCell ⟨gb112,0,none⟩ (.int .i64 t108)).setCell ⟨gb112,1,none⟩ (.int .i64 t109)).heap[gb111]? =some (.cells #[.int .i64 t103,.int .i64 t104,.int .i64 t105,.int .i64 t106,.string t107] 36 (0,0))):=⟨by (with_reducible repeat (first|refine blk_drewN ?_ _|refine blk_drew ?_|refine blk_alloc ?_ _));refine blk_far ?_ NB111_112.out _;(with_reducible repeat (first|refine blk_drewN ?_ _|refine blk_drew ?_|refine blk_alloc ?_ _));refine blk_far ?_ NB111_112.out _;(with_reducible repeat (first|refine blk_drewN ?_ _|refine blk_drew ?_|refine blk_alloc ?_ _));refine blk_put (cs:= #[.int .i64 t103,.int .i64 t104,.int .i64 t105,.int .i64 t106,.string (⟨#[]⟩:ByteArray)]) ?_ 4 _ rfl;(with_reducible repeat (first|refine blk_drewN ?_ _|refine blk_drew ?_|refine blk_alloc ?_ _));refine blk_put (cs:= #[.int .i64 t103,.int .i64 t104,.int .i64 t105,.int .i64 0,.string (⟨#[]⟩:ByteArray)]) ?_ 3 _ rfl;(with_reducible repeat (first|refine blk_drewN ?_ _|refine blk_drew ?_|refine blk_alloc ?_ _));refine blk_put (cs:= #[.int .i64 t103,.int .i64 t104,.int .i64 0,.int .i64 0,.string (⟨#[]⟩:ByteArray)]) ?_ 2 _ rfl;(with_reducible repeat (first|refine blk_drewN ?_ _|refine blk_drew ?_|refine blk_alloc ?_ _));refine blk_put (cs:= #[.int .i64 t103,.int .i64 0,.int .i64 0,.int .i64 0,.string (⟨#[]⟩:ByteArray)]) ?_ 1 _ rfl;(with_reducible repeat (first|refine blk_drewN ?_ _|refine blk_drew ?_|refine blk_alloc ?_ _));refine blk_put (cs:= #[.int .i64 0,.int .i64 0,.int .i64 0,.int .i64 0,.string (⟨#[]⟩:ByteArray)]) ?_ 0 _ rfl;(with_reducible repeat (first|refine blk_drewN ?_ _|refine blk_drew ?_|refine blk_alloc ?_ _));exact BK111.out⟩
       have n3_:Aside0 ((((((((w32.setCell ⟨gb111,0,none⟩ (.int .i64 t103)).setCell ⟨gb111,1,none⟩ (.int .i64 t104)).setCell ⟨gb111,2,none⟩ (.int .i64 t105)).setCell ⟨gb111,3,none⟩ (.int .i64 t106)).setCell ⟨gb111,4,none⟩ (.string t107)).setCell ⟨gb112,0,none⟩ (.int .i64 t108)).setCell ⟨gb112,1,none⟩ (.int .i64 t109)).heap[gb112]? =some (.cells #[.int .i64 t108,.int .i64 t109] 27 (0,0))):=⟨by (with_reducible repeat (first|refine blk_drewN ?_ _|refine blk_drew ?_|refine blk_alloc ?_ _));refine blk_put (cs:= #[.int .i64 t108,.int .i64 0]) ?_ 1 _ rfl;(with_reducible repeat (first|refine blk_drewN ?_ _|refine blk_drew ?_|refine blk_alloc ?_ _));refine blk_put (cs:= #[.int .i64 0,.int .i64 0]) ?_ 0 _ rfl;(with_reducible repeat (first|refine blk_drewN ?_ _|refine blk_drew ?_|refine blk_alloc ?_ _));refine blk_far ?_ NB112_111.out _;(with_reducible repeat (first|refine blk_drewN ?_ _|refine blk_drew ?_|refine blk_alloc ?_ _));refine blk_far ?_ NB112_111.out _;(with_reducible repeat (first|refine blk_drewN ?_ _|refine blk_drew ?_|refine blk_alloc ?_ _));refine blk_far ?_ NB112_111.out _;(with_reducible repeat (first|refine blk_drewN ?_ _|refine blk_drew ?_|refine blk_alloc ?_ _));refine blk_far ?_ NB112_111.out _;(with_reducible repeat (first|refine blk_drewN ?_ _|refine blk_drew ?_|refine blk_alloc ?_ _));refine blk_far ?_ NB112_111.out _;(with_reducible repeat (first|refine blk_drewN ?_ _|refine blk_drew ?_|refine blk_alloc ?_ _));exact BK112.out⟩
       have n4_:Aside0 (Below w.heap.size w (((((((w32.setCell ⟨gb111,0,none⟩ (.int .i64 t103)).setCell ⟨gb111,1,none⟩ (.int .i64 t104)).setCell ⟨gb111,2,none⟩ (.int .i64 t105)).setCell ⟨gb111,3,none⟩ (.int .i64 t106)).setCell ⟨gb111,4,none⟩ (.string t107)).setCell ⟨gb112,0,none⟩ (.int .i64 t108)).setCell ⟨gb112,1,none⟩ (.int .i64 t109))):=⟨by repeat (first|(with_reducible first|exact HB.out|apply below_alloc|apply pw_below_drewN|apply below_drew1|refine below_set ?_ GE102.out|refine below_set ?_ GE111.out|refine below_set ?_ GE112.out)|exact HB.out)⟩
       (try clear HO_2)
       (try clear BK102)
       (try clear BK111)
       (try clear BK112)
       (try clear HB)
       generalize (((((((w32.setCell ⟨gb111,0,none⟩ (.int .i64 t103)).setCell ⟨gb111,1,none⟩ (.int .i64 t104)).setCell ⟨gb111,2,none⟩ (.int .i64 t105)).setCell ⟨gb111,3,none⟩ (.int .i64 t106)).setCell ⟨gb111,4,none⟩ (.string t107)).setCell ⟨gb112,0,none⟩ (.int .i64 t108)).setCell ⟨gb112,1,none⟩ (.int .i64 t109))=w38 at n0_ n1_ n2_ n3_ n4_ ⊢; have HO_2:=n0_;have BK102:=n1_;have BK111:=n2_;have BK112:=n3_;have HB:=n4_;clear n0_ n1_ n2_ n3_ n4_;have n0_:=Aside0.mk (Kd.R_drew HO_2.out);have n1_:=Aside0.mk (blk_drew BK102.out);have n2_:=Aside0.mk (blk_drew BK111.out);have n3_:=Aside0.mk (blk_drew BK112.out);have n4_:=Aside0.mk (below_drew1 HB.out);clear HO_2 BK102 BK111 BK112 HB;have HO_2:=n0_;have BK102:=n1_;have BK111:=n2_;have BK112:=n3_;have HB:=n4_;clear n0_ n1_ n2_ n3_ n4_;refine start_ (n:=5) (S:=fun w'=>w'.cell? ⟨gb112,0,none⟩=some (.int .i64 t108)∧w'.cell? ⟨gb112,1,none⟩=some (.int .i64 t109)) (ds:=[]) #[false,false,false,false,false] (by kernel_rfl) rfl rfl ⟨(blk_cell BK112.out 0).trans rfl,(blk_cell BK112.out 1).trans rfl⟩ (fun hHeld=>?_);generalize w38.drew=w39 at HO_2 BK102 BK111 BK112 HB hHeld ⊢; refine pure_ (i:=1) (N:=some 18) (v:=?_) (a':=?_) #[false,true,false,false,false] rfl rfl (by kernel_rfl) (fun _ _ _ h=>h) (Or.inl ⟨by rfl,?_⟩) ?_ ?_;rotate_left
       · intro w';go_simp
         with_reducible rfl
       rotate_left
       · simp only [Act.put,List.setIfInBounds_toArray,List.set_cons_zero,List.set_cons_succ,i64_w,i32_w];rfl
       refine pure_ (i:=2) (N:=some 2) (v:=?_) (a':=?_) #[false,true,true,false,false] rfl rfl (by kernel_rfl) (fun _ _ _ h=>h) (Or.inl ⟨by rfl,?_⟩) ?_ ?_;rotate_left
       · intro w';go_simp
         with_reducible rfl
       rotate_left
       · simp only [Act.put,List.setIfInBounds_toArray,List.set_cons_zero,List.set_cons_succ,i64_w,i32_w];rfl
       refine take_ (i:=0) (N:=some 17) (v:=?_) (a':=?_) #[true,true,true,false,false] rfl rfl (by kernel_rfl) (fun _ _ _ h=>h) (Or.inl ⟨by rfl,?_⟩) hHeld ?_ ?_;rotate_left
       · rintro w' ⟨s0,s1⟩;go_simp
         with_reducible rfl
       rotate_left
       · simp only [Act.put,List.setIfInBounds_toArray,List.set_cons_zero,List.set_cons_succ,i64_w,i32_w];rfl
       refine one_ (i:=3) (N:=none) #[true,true,true,true,false] rfl rfl (by kernel_rfl) (by decide) (fun K hK=>?_);have hs40:w39.cell? ⟨gb102,0,none⟩=some (.int .i64 x103000_1):=(blk_cell BK102.out 0).trans rfl;have hfs40:=blk_frozen BK102.out 0;have hns40_1:=NB111_102.out;have hns40_2:=NB112_102.out;have hms40_1:=NB102_111.out;have hms40_2:=NB102_112.out;have hs41:w39.cell? ⟨gb102,1,none⟩=some (.int .i64 x103001_1):=(blk_cell BK102.out 1).trans rfl;have hfs41:=blk_frozen BK102.out 1;have hns41_1:=NB111_102.out;have hns41_2:=NB112_102.out;have hms41_1:=NB102_111.out;have hms41_2:=NB102_112.out;refine skip_ (w1:=?_) (by rfl) rfl ?_ ?_;rotate_left
       · go_simp;rfl
       refine hK.out _ _ ⟨((cell_far (p:=⟨gb102,_,none⟩) NB112_102.out _).trans (((cell_far (p:=⟨gb102,_,none⟩) NB112_102.out _).trans (hHeld.1)))),((cell_far (p:=⟨gb102,_,none⟩) NB112_102.out _).trans (((cell_far (p:=⟨gb102,_,none⟩) NB112_102.out _).trans (hHeld.2))))⟩ (fun hHeld=>?_);clear hK K;refine pure_ (i:=4) (N:=some 4) (v:=?_) (a':=?_) #[true,true,true,true,true] rfl rfl (by kernel_rfl) (fun _ _ _ h=>h) (Or.inl ⟨by rfl,?_⟩) ?_ ?_;rotate_left
       · intro w';go_simp
         with_reducible rfl
       rotate_left
       · simp only [Act.put,List.setIfInBounds_toArray,List.set_cons_zero,List.set_cons_succ,i64_w,i32_w];rfl
       refine done_ (by kernel_rfl) ?_
       try go_wp2
       refine bodyPost_ret (results_list (rs:=[.tmp 2,.cell 3 27,.tmp 4]) rfl (by simp) (.tmp (.cell gb102 27 #[.int .i64 t108,.int .i64 t109] (0,0) _ rfl (by (with_reducible repeat (first|refine blk_drewN ?_ _|refine blk_drew ?_|refine blk_alloc ?_ _));refine blk_put (cs:= #[.int .i64 t108,.int .i64 x103001_1]) ?_ 1 _ rfl;(with_reducible repeat (first|refine blk_drewN ?_ _|refine blk_drew ?_|refine blk_alloc ?_ _));refine blk_put (cs:= #[.int .i64 x103000_1,.int .i64 x103001_1]) ?_ 0 _ rfl;(with_reducible repeat (first|refine blk_drewN ?_ _|refine blk_drew ?_|refine blk_alloc ?_ _));exact BK102.out) Tryd.underlying27 rfl (by kernel_rfl) (.tmp .nil)))) rfl ?_;exact ⟨_,by first|rfl|(simp [errW_none,errW_some]<;>rfl)|(simp [*, errW_none,errW_some]<;>rfl),by first|exact Kd.R_nil _ _ _ _ _|exact Kd.N_nil _ _ _ _ _|exact Kd.V_nil _ _ _ _ _|exact Kd.Q_nil _ _ _ _ _|exact Kd.S_nil _ _ _ _ _,by repeat (first|(with_reducible first|exact HB.out|apply below_alloc|apply pw_below_drewN|apply below_drew1|refine below_set ?_ GE102.out|refine below_set ?_ GE111.out|refine below_set ?_ GE112.out)|exact HB.out)⟩
end Go.Proofs.YtdffphkbidfejaaDoor.Q
end
section
namespace Go.Proofs.YtdffphkbidfejaaDoor.Q
open Go.RowKit Go.Proofs.YtdffphkbidfejaaDoorW.PrintWords Go.Proofs.YtdffphkbidfejaaDoorW.PrintLast Go.Proofs.YtdffphkbidfejaaDoorW.PrintMore
set_option linter.unusedVariables false
set_option linter.unusedSimpArgs false
abbrev SP:=S27
def gapsF:Int→List S36→Int→List SP
 |fr,[],n=>[⟨fr,n⟩]
 |fr,t::ts,n=>⟨fr,t.f1.f0⟩::gapsF t.f1.f1 ts n
theorem gapsF_len: ∀(fr:Int) (ts:List S36) (n:Int),(gapsF fr ts n).length=ts.length+1
 |_,[],_=>rfl
 |_,t::ts,n=>by show _+1=_+1+1;rw [gapsF_len]
theorem gapsF_last: ∀(fr:Int) (ts:List S36) (n v:Int) (R:List SP),(gapsF fr ts n++R).set ts.length ⟨((gapsF fr ts n++R).getD ts.length z27).f0,v⟩=gapsF fr ts v++R
 |_,[],_,_,_=>rfl
 |_,t::ts,n,v,R=>by
  have:=gapsF_last t.f1.f1 ts n v R
  show (_::(gapsF t.f1.f1 ts n++R)).set (ts.length+1) _=_::(gapsF t.f1.f1 ts v++R)
  rw [List.set_cons_succ];exact congrArg _ this
theorem gapsF_snoc: ∀(fr:Int) (ts:List S36) (x:S36) (n:Int),gapsF fr (ts++[x]) n=gapsF fr ts x.f1.f0++[⟨x.f1.f1,n⟩]
 |_,[],_,_=>rfl
 |_,t::ts,x,n=>by
  show _::gapsF _ (ts++[x]) n=_::(gapsF _ ts _++_)
  rw [gapsF_snoc]
def gapsO (toks:List S36) (k:Nat):List SP:=gapsF 0 (toks.take k) 0++List.replicate (toks.length-k) z27
theorem gapsO_len (toks:List S36) (k:Nat) (hk:k≤toks.length):(gapsO toks k).length=toks.length+1:=by
 unfold gapsO;rw [List.length_append,gapsF_len,List.length_take,List.length_replicate];omega
theorem gapsO_zero (toks:List S36):gapsO toks 0=List.replicate (toks.length+1) z27:=by
 unfold gapsO;rw [List.take_zero,Nat.sub_zero];rfl
def setTo (O:List SP) (i:Nat) (v:Int):List SP:=O.set i ⟨(O.getD i z27).f0,v⟩
def setFrom (O:List SP) (i:Nat) (v:Int):List SP:=O.set i ⟨v,(O.getD i z27).f1⟩
theorem gapsO_step (toks:List S36) (k:Nat) (hk:k<toks.length):setFrom (setTo (gapsO toks k) k (rd_T36 toks k).f1.f0) (k+1) (rd_T36 toks k).f1.f1=gapsO toks (k+1):=by
 have e:rd_T36 toks (k:Int)=toks[k]:=by unfold rd_T36;simp [List.getD_eq_getElem?_getD,List.getElem?_eq_getElem hk]
 have htl:(toks.take k).length=k:=by rw [List.length_take];omega
 have h1:=gapsF_last 0 (toks.take k) 0 (toks[k]).f1.f0 (List.replicate (toks.length-k) z27);rw [htl] at h1;rw [e];unfold setTo gapsO;rw [h1,List.take_succ_eq_append_getElem hk,gapsF_snoc]
 have hr:List.replicate (toks.length-k) z27=z27::List.replicate (toks.length-(k+1)) z27:=by
  rw [show toks.length-k=(toks.length-(k+1))+1 by omega];rfl
 rw [hr]
 have hl:(gapsF 0 (toks.take k) (toks[k]).f1.f0).length=k+1:=by rw [gapsF_len,htl]
 unfold setFrom;rw [List.set_append_right _ _ (by omega),hl,Nat.sub_self,List.set_cons_zero,List.getD_eq_getElem?_getD,List.getElem?_append_right (by omega),hl,Nat.sub_self,List.append_assoc];rfl
theorem gapsO_end (toks:List S36) (n:Int):setTo (gapsO toks toks.length) toks.length n=gapsF 0 toks n:=by
 have h1:=gapsF_last 0 toks 0 n [];unfold setTo gapsO;rw [List.take_length,Nat.sub_self,show List.replicate 0 z27=[] from rfl,h1,List.append_nil]
section
variable {W:World} {base g n cap:Nat} {ok:Nat→Prop} {O:List SP}
theorem sp_cells (h:Kd.R k27 27 W base ok (.slice (some ⟨g,0,none⟩) n cap) O) (i:Nat) (hi:i<n):
 W.cell? ⟨g,i*2,none⟩=some (.int .i64 (O.getD i z27).f0)∧W.cell? ⟨g,i*2+1,none⟩=some (.int .i64 (O.getD i z27).f1)∧W.frozen? ⟨g,i*2,none⟩=false∧W.frozen? ⟨g,i*2+1,none⟩=false:=by
 obtain ⟨cs,hcl,hcM,hcc,hcf⟩:=Kd.R_elem h z27 (i:Int) (by omega) (by omega);rw [Int.toNat_natCast] at hcM hcc hcf;obtain rfl:=k27_openM hcM;exact ⟨hcc 0 _ rfl,hcc 1 _ rfl,hcf 0,hcf 1⟩
theorem sp_to (h:Kd.R k27 27 W base ok (.slice (some ⟨g,0,none⟩) n cap) O) (i:Nat) (hi:i<n) (v:Int):
 Kd.R k27 27 (W.setCell ⟨g,i*2+1,none⟩ (.int .i64 v)) base ok (.slice (some ⟨g,0,none⟩) n cap) (setTo O i v):=by
 obtain ⟨cs,hcl,hcM,hcc,hcf⟩:=Kd.R_elem h z27 (i:Int) (by omega) (by omega);rw [Int.toNat_natCast] at hcM;have hM:=hcM;obtain rfl:=k27_openM hcM;exact (Kd.R_seg h (i:Int) (by omega) (by omega) (seg:=[.int .i64 v]) (j:=1) hcl hcc (by show 1+1≤2;omega) (x':=⟨(O.getD i z27).f0,v⟩) (okp:=fun _=>False) (k27_mkM _ _ _ ⟨(O.getD i z27).f0,v⟩) (fun _ hk=>hk.elim)).1
theorem sp_from (h:Kd.R k27 27 W base ok (.slice (some ⟨g,0,none⟩) n cap) O) (i:Nat) (hi:i<n) (v:Int):
 Kd.R k27 27 (W.setCell ⟨g,i*2,none⟩ (.int .i64 v)) base ok (.slice (some ⟨g,0,none⟩) n cap) (setFrom O i v):=by
 obtain ⟨cs,hcl,hcM,hcc,hcf⟩:=Kd.R_elem h z27 (i:Int) (by omega) (by omega);rw [Int.toNat_natCast] at hcM;obtain rfl:=k27_openM hcM;exact (Kd.R_seg h (i:Int) (by omega) (by omega) (seg:=[.int .i64 v]) (j:=0) hcl hcc (by show 0+1≤2;omega) (x':=⟨v,(O.getD i z27).f1⟩) (okp:=fun _=>False) (k27_mkM _ _ _ ⟨v,(O.getD i z27).f1⟩) (fun _ hk=>hk.elim)).1
end
end Go.Proofs.YtdffphkbidfejaaDoor.Q
end
section
namespace Go.Proofs.YtdffphkbidfejaaDoor.Q
open Go.RowKit Go.Proofs.YtdffphkbidfejaaDoorW.PrintWords Go.Proofs.YtdffphkbidfejaaDoorW.PrintLast Go.Proofs.YtdffphkbidfejaaDoorW.PrintMore
set_option linter.unusedVariables false
set_option linter.unusedSimpArgs false
set_option maxRecDepth 100000 in
set_option maxHeartbeats 4000000 in
theorem gaps_bad (A0:Option Addr) (c0 n:Nat) (e p q:Int) (toks:List S36) (w:World) (he:e≠0)
 (hL:Calls Tryd.prog 10 #[.slice A0 n c0] w fun x w'=> ∃v0_:Value,x= .returned (.tuple #[v0_,.agg #[.int .i64 p,.int .i64 q],.int .i64 e])∧Kd.R k36 36 w' w.heap.size (fun _=>True) v0_ toks∧Below w.heap.size w w'):
 Calls Tryd.prog 14 #[.slice A0 n c0] w fun x w'=>x= .returned (.tuple #[.slice none 0 0,.int .i64 e])∧Below w.heap.size w w':=by
 have hq:(e != 0)=true:=bne_iff_ne.mpr he;have HL:=Aside0.mk hL;clear hL he;go_enter Tryd.func14,Tryd.ntmps14
 go_wp2_with (go_at_call 10;refine HL.out.mono ?_;rintro x w1 ⟨v0,rfl,hr,hb⟩;have HB:=Aside0.mk hb;clear hr hb)
 go_ret2;refine ⟨rfl,?_⟩
 (repeat (with_reducible first|exact HB.out|apply below_alloc|apply below_set))<;>omega
theorem R36_set {W:World} {base g n cap j:Nat} {ok ok2:Nat→Prop} {O:List SP} {v:Value} {u:Value} {T:List S36} (hO:Kd.R k27 27 W base ok (.slice (some ⟨g,0,none⟩) n cap) O) (h:Kd.R k36 36 W base ok2 v T):
 Kd.R k36 36 (W.setCell ⟨g,j,none⟩ u) base ok2 v T:=by
 obtain ⟨_,inner,ho,_⟩:=hO;obtain ⟨cells,hc⟩:=own_typed ho g (by simp [Value.ownBlock]);exact Kd.R_set h hc (by decide) j u
theorem gen_wld {c:Code} {P:Program} {Q:Exit→Act→World→Prop} {a:Act} {W:World} (F:World→Prop) (h:F W) (k: ∀W',F W'→c.wp P Q a W'):c.wp P Q a W:=k W h
theorem sp_form {W:World} {base:Nat} {ok:Nat→Prop} {v:Value} {O:List SP} (h:Kd.R k27 27 W base ok v O) (hl:0<O.length): ∃g cap cur,v= .slice (some ⟨g,0,none⟩) O.length cap∧O.length≤cap∧base≤g∧W.heap[g]? =some (.cells cur 27 (0,0)):=by
 obtain ⟨_,inner,⟨_,ho⟩,_⟩:=h
 rcases ho with ⟨_,h0⟩|⟨g,cap,cur,hv,hb,hg,hc,_⟩
 · omega
 · exact ⟨g,cap,cur,hv,hc,hb,hg⟩
set_option maxRecDepth 100000 in
set_option maxHeartbeats 4000000 in
theorem gaps_ok (A0:Option Addr) (c0 n:Nat) (p q:Int) (toks:List S36) (w:World) (hn:n≤1000000) (ht:toks.length≤1000000)
 (hL:Calls Tryd.prog 10 #[.slice A0 n c0] w fun x w'=> ∃v0_:Value,x= .returned (.tuple #[v0_,.agg #[.int .i64 p,.int .i64 q],.int .i64 0])∧Kd.R k36 36 w' w.heap.size (fun _=>True) v0_ toks∧Below w.heap.size w w'):
 Calls Tryd.prog 14 #[.slice A0 n c0] w fun x w'=> ∃v0_:Value,x= .returned (.tuple #[v0_,.int .i64 0])∧Kd.R k27 27 w' w.heap.size (fun _=>True) v0_ (gapsF 0 toks n)∧Below w.heap.size w w':=by
 have HL:=Aside0.mk hL;clear hL;go_enter Tryd.func14,Tryd.ntmps14
 go_wp2_with (first
  |(go_at_call 10;refine HL.out.mono ?_;rintro x w1 ⟨v0,rfl,hr,hb⟩;have HR:=Aside0.mk hr;have HB:=Aside0.mk hb;clear hr hb;obtain ⟨At,ct,ev⟩:=Kd.R_slice HR.out;subst ev)
  |((with_reducible refine gate_dst (N:=22) rfl ?_)
    refine Kd.R_make k27 _ 27 ?hg (N:=22) ?hd 41 (.tmp 21) (.tmp 21) ?ho ((toks.length:Int)+1) ?hx ?hy Tryd.underlying41 (.agg #[.int .i64 0,.int .i64 0]) 16 info27 rfl (by decide) (by decide) z27 (ok:=fun _=>True) (okp:=fun _=>True) ?hz (fun _ hk=>hk) trivial (by omega) (by omega) (Below.refl _ _) (Nat.le_refl _) ?_
    (case hg=>rfl)
    (case hd=>rfl)
    (case ho=>rfl)
    (case hx=>rfl)
    (case hy=>rfl)
    (case hz=>exact k27_mkM _ _ _ z27)
    intro v1 w2 ho2 hb2 hg2 hnew2;clear hg2 hnew2;have HO2:=Aside0.mk (Kd.R_lower ho2 (below_alloc HB.out _).size);have HR2:=Aside0.mk (Kd.R_below (Kd.R_alloc HR.out _) hb2);have HB2:=Aside0.mk (below_step (below_alloc HB.out _) hb2)
    clear ho2 hb2 HR HB))
 have hO:=HO2.out
 have e1:((toks.length:Int)+1).toNat=toks.length+1:=by omega
 rw [e1,←gapsO_zero] at hO;obtain ⟨g,cap,cur,ev,hcap,hbg,hbk⟩:=sp_form hO (by rw [gapsO_len toks 0 (Nat.zero_le _)];omega);subst ev;rw [gapsO_len toks 0 (Nat.zero_le _)] at hO hcap HO2 ⊢; have HO:=Aside0.mk hO;clear hO HO2 hbk
 obtain ⟨N,hN⟩: ∃N,toks.length+1=N:=⟨_,rfl⟩
 rw [hN] at HO hcap ⊢
 obtain ⟨L,hLt⟩: ∃L,toks.length=L:=⟨_,rfl⟩
 have HLt:=Aside0.mk hLt;rw [hLt] at hN HR2 ht ⊢
 have hNL:N≤L+1:=by omega
 have hNL2:L+1≤N:=by omega
 clear hLt hN e1
 go_loopw [25] (fun v wr=> ∃k:Nat,v= .int .i64 k∧k≤L∧Aside0 (Kd.R k27 27 wr w.heap.size (fun _=>True) (.slice (some ⟨g,0,none⟩) N cap) (gapsO toks k))∧Aside0 (Kd.R k36 36 wr w.heap.size (fun _=>True) (.slice At L ct) toks)∧Aside0 (Below w.heap.size w wr)) (fun v _=>L-(intOf v).toNat)
 case atStart=>exact ⟨0,rfl,Nat.zero_le _,HO,HR2,HB2⟩
 case round=>
  obtain ⟨k,rfl,hk,HOk,HRk,HBk⟩:=hrel;clear HO HR2 HB2;by_cases hlt:k<L
  · have hkI:(k:Int)<L:=by omega
    have hC:=(Kd.R_reads' HRk.out).2.2;rw [HLt.out] at hC;obtain ⟨ad,e0,x0,x1,x2,x3,x4⟩:=at_T36 hC (k:Int) (by omega) hkI;have hst:=gapsO_step toks k (by rw [HLt.out];exact hlt);subst e0;generalize rd_T36 toks (k:Int)=x at *; simp only [Int.toNat_natCast] at x0 x1 x2 x3 x4;have HST:=Aside0.mk hst;clear hC hst;have q0:(ad.add (k*5)).block<wr.heap.size:=World.block_lt_of_cell? wr _ x0;have hbox:=blk_new wr (.cells #[.int .i64 x.f0,.int .i64 x.f1.f0,.int .i64 x.f1.f1,.int .i64 x.f2,.string x.f3] 36);have hO1:=Kd.R_alloc HOk.out (.cells #[.int .i64 x.f0,.int .i64 x.f1.f0,.int .i64 x.f1.f1,.int .i64 x.f2,.string x.f3] 36);have hR1:=Kd.R_alloc HRk.out (.cells #[.int .i64 x.f0,.int .i64 x.f1.f0,.int .i64 x.f1.f1,.int .i64 x.f2,.string x.f3] 36);have hB1:=below_alloc HBk.out (.cells #[.int .i64 x.f0,.int .i64 x.f1.f0,.int .i64 x.f1.f1,.int .i64 x.f2,.string x.f3] 36)
    go_upto_region 8 with fail
    refine gen_wld (fun W=>W.heap[wr.heap.size]? =some (.cells #[.int .i64 x.f0,.int .i64 x.f1.f0,.int .i64 x.f1.f1,.int .i64 x.f2,.string x.f3] 36 (0,0))∧Kd.R k27 27 W w.heap.size (fun _=>True) (.slice (some ⟨g,0,none⟩) N cap) (gapsO toks k)∧Kd.R k36 36 W w.heap.size (fun _=>True) (.slice (some ad) L ct) toks∧Below w.heap.size w W) ⟨hbox,hO1,hR1,hB1⟩ ?_;rintro W1 ⟨hx1,ho1,hr1,hb1⟩;clear hbox hO1 hR1 hB1 x0 x1 x2 x3 x4 q0 HOk HRk HBk;have c1:=(blk_cell hx1 1).trans rfl;have c2:=(blk_cell hx1 2).trans rfl;obtain ⟨s0,s1,s2,s3⟩:=sp_cells ho1 k (by omega);obtain ⟨t0,t1,t2,t3⟩:=sp_cells ho1 (k+1) (by omega)
    have hk1:(k:Int)<N:=by omega
    have hk2:(k:Int)+1<N:=by omega
    have hk3:k<N:=by omega
    have hk4:k+1<N:=by omega
    have HX1:=Aside0.mk hx1;have HO1:=Aside0.mk ho1;have HR1:=Aside0.mk hr1;have HB1:=Aside0.mk hb1;clear hx1 ho1 hr1 hb1;generalize wr.heap.size=bb at *; clear wr
    go_region
    all_goals go_wp2_with fail
    go_roundw
    case rel=>
        have e:=HST.out;refine ⟨k+1,by go_num,by omega,⟨?_⟩,⟨?_⟩,⟨?_⟩⟩
        · have h2:=Kd.R_drew (sp_from (sp_to HO1.out k hk3 x.f1.f0) (k+1) hk4 x.f1.f1);rw [e] at h2;exact h2
        · exact Kd.R_drew (R36_set (sp_to HO1.out k hk3 x.f1.f0) (R36_set HO1.out HR1.out))
        · exact below_drew (below_set (below_set HB1.out hbg) hbg)
    case measure=>simp [intOf];omega
  · obtain rfl:k=L:=by omega
    obtain ⟨s0,s1,s2,s3⟩:=sp_cells HOk.out k (by omega)
    have hk1:(k:Int)<N:=by omega
    have hk3:k<N:=by omega
    have hend:=gapsO_end toks n;rw [HLt.out] at hend;have HEN:=Aside0.mk hend;clear hend hlt
    go_wp2_with fail
    go_ret2;refine ⟨_,rfl,?_,below_set HBk.out hbg⟩;have h2:=sp_to HOk.out k hk3 n;rw [HEN.out] at h2;exact h2
def lexer_Gaps.f (l0:List Int):Option ((List (S27))×Int):=match lexer_Lex.f 8002 l0 with
 |some (toks,p,q,e)=>if l0.length≤8000∧toks.length≤1000000 then (if e=0 then some (gapsF 0 toks l0.length,0) else some ([],e)) else none
 |none=>none
theorem lexer_Gaps.calls (A0:Option Addr) (c0:Nat) (l0:List Int) (r1:List (S27)) (r2:Int) (w:World) (hr0:Kd.C (Kd.int .u8) w A0 l0.length l0) (hc0:l0.length≤c0) (hG:G5 w) (h:lexer_Gaps.f l0=some (r1,r2)):
 Calls Tryd.prog 14 #[.slice A0 l0.length c0] w fun e w'=> ∃v0_:Value,e= .returned (.tuple #[v0_,.int .i64 r2])∧Kd.R k27 27 w' w.heap.size (fun _=>True) v0_ r1∧Below w.heap.size w w':=by
 unfold lexer_Gaps.f at h
 cases hL:lexer_Lex.f 8002 l0 with
 |none=>rw [hL] at h;cases h
 |some x=>
  obtain ⟨toks,p,q,e⟩:=x;rw [hL] at h;simp only at h;have hC:=lexer_Lex.calls 8002 A0 c0 l0 toks p q e w hr0 hc0 hG hL;by_cases c:l0.length≤8000∧toks.length≤1000000
  · rw [if_pos c] at h;by_cases e0:e=0
    · rw [if_pos e0] at h;obtain ⟨rfl,rfl⟩:=Prod.mk.inj (Option.some.inj h);subst e0;exact gaps_ok A0 c0 l0.length p q toks w (by omega) c.2 hC
    · rw [if_neg e0] at h;obtain ⟨rfl,rfl⟩:=Prod.mk.inj (Option.some.inj h);refine (gaps_bad A0 c0 l0.length e p q toks w e0 hC).mono ?_;rintro x w' ⟨rfl,hb⟩;exact ⟨_,rfl,Kd.R_nil _ _ _ _ _,hb⟩
  · rw [if_neg c] at h;cases h
end Go.Proofs.YtdffphkbidfejaaDoor.Q
end
section
namespace Go.Proofs.YtdffphkbidfejaaDoor.Q
open Go.RowKit Go.Proofs.YtdffphkbidfejaaDoorW.PrintWords
set_option linter.unusedSimpArgs false
set_option linter.unusedVariables false
structure TailBad (g r:List Int) (z:Nat) (e:Int):Prop where
 gap:CG g∨(OG g∧decR r=none)
 ne:0<r.length
 c1:(clsR r 0).1≠1
 c6:(clsR r 0).1≠6
 err:(kindR r 0 (clsR r 0).1 (clsR r 0).2).2.2.2=e
 e0:e≠0
 fin:endR r 0 (clsR r 0).1 (clsR r 0).2=z
theorem skip_OG_bad {g r:List Int} (hg:OG g) (hr:decR r=none) (hne:0<r.length) (h10: ∀t,r≠10::t):skipR (g++r) 0=g.length:=by
 obtain ⟨a,c,ha,hc,rfl⟩:=hg;have h6:=cls_semi (c++r);rw [List.append_assoc,List.cons_append,skip_CG ha,skipR_cmt _ 0 (by simp) (by rw [h6]),h6]
 have hm:cmtR (59::(c++r)) 1=1+c.length:=by
  have e:(59::(c++r)).drop 1=c++r:=rfl;unfold cmtR;rw [e,lineR_app hc.1]
  have hz:decR (lineR r)=none:=by
   obtain ⟨rest,h1,h2⟩:=line_split r;rw [h1] at hr;exact decR_none_pre hr
  have:=while_app commentP rfl c (lineR r) (by rw [cls_none hz];rfl) c.length 0 (by omega) (Nat.zero_le _) hc.2;rw [this]
 have hd:(59::(c++r)).drop (1+c.length)=r:=by
  rw [Nat.add_comm,List.drop_succ_cons,List.drop_left]
 rw [hm,skipR_stop]
 · simp only [List.length_append,List.length_cons];omega
 · rw [clsR_shift,hd,cls_none hr];exact show (0:Int)≠1 by decide
 · rw [clsR_shift,hd,cls_none hr];exact show (0:Int)≠6 by decide
theorem TailBad.skip {g r:List Int} {z:Nat} {e:Int} (h:TailBad g r z e):skipR (g++r) 0=g.length:=by
 rcases h.gap with hg|⟨hg,hr⟩
 · rw [skip_CG hg,skipR_stop r 0 h.c1 h.c6];omega
 · refine skip_OG_bad hg hr h.ne ?_;rintro t rfl;rw [decR_one 10 t (by omega)] at hr;cases hr
end Go.Proofs.YtdffphkbidfejaaDoor.Q
end
