import Derived.Deep.Cut
import Derived.Lib.ItoaLen
import Derived.LoopTactic
import Derived.Test.YtdffphkbidfejaaDoorMK20
section
namespace Go.Proofs.YtdffphkbidfejaaDoor.Q
open Go.RowKit Go.Proofs.YtdffphkbidfejaaDoorW.PrintWords Go.Proofs.YtdffphkbidfejaaDoorW.PrintLast Go.Proofs.YtdffphkbidfejaaDoorW.PrintMore
set_option linter.unusedVariables false
set_option linter.unusedSimpArgs false
def blankP (last:Int) (x:S36):Bool:=x.f0 != 2&&(last != 1&&(last != 3&&last != 4))
def putF:Int→List S36→List UInt8
 |_,[]=>[]
 |last,x::xs=>(if blankP last x=true then [32] else [])++(textB x++putF x.f0 xs)
def badF:Int→List S36→Option (Int×Int)
 |_,[]=>none
 |i,x::xs=>if chkT x=0 then badF (i+1) xs else some (i,chkT x)
def printR (l:List S36):ByteArray×Int×Int:=match badF 0 l with
 |some p=>(⟨#[]⟩,p.1,p.2)
 |none=>if 8000<(putF 1 l).length then (⟨#[]⟩,0,3) else (⟨(putF 1 l).toArray⟩,0,0)
theorem isB_below {T e:TypeId} {B b:Nat} {bs:List Value} {w w':World} (h:Lib.IsBuilderF T e B b bs w) (hb:Below w.heap.size w w'):Lib.IsBuilderF T e B b bs w':=by
 have go: ∀p,Lib.BuilderAtF T e B b p bs w→Lib.BuilderAtF T e B b p bs w':=by
  rintro p ⟨hB,v,hk,⟨h1,h2⟩,hne⟩;refine ⟨hB,v,blk_below hk hb,⟨h1,?_⟩,hne⟩
  rcases h2 with h2|⟨g,cap,cur,fz,hv,hg,hh,h3⟩
  · exact Or.inl h2
  · exact Or.inr ⟨g,cap,cur,fz,hv,hg,blk_below hh hb,h3⟩
 rcases h with h|h
 · exact Or.inl (go _ h)
 · exact Or.inr (go _ h)
theorem badF_drop (l:List S36) (k:Nat) (h:k<l.length):badF k (l.drop k)=if chkT (rd_T36 l k)=0 then badF (k+1:Nat) (l.drop (k+1)) else some ((k:Int),chkT (rd_T36 l k)):=by
 rw [List.drop_eq_getElem_cons h]
 have e:rd_T36 l (k:Int)=l[k]:=by unfold rd_T36;simp [List.getD_eq_getElem?_getD,List.getElem?_eq_getElem h]
 rw [e,badF];rfl
theorem putF_drop (l:List S36) (last:Int) (k:Nat) (h:k<l.length):putF last (l.drop k)=(if blankP last (rd_T36 l k)=true then [32] else [])++(textB (rd_T36 l k)++putF (rd_T36 l k).f0 (l.drop (k+1))):=by
 rw [List.drop_eq_getElem_cons h]
 have e:rd_T36 l (k:Int)=l[k]:=by unfold rd_T36;simp [List.getD_eq_getElem?_getD,List.getElem?_eq_getElem h]
 rw [e,putF]
theorem rd_mem (l:List S36) (k:Nat) (h:k<l.length):rd_T36 l k∈l:=by
 have e:rd_T36 l (k:Int)=l[k]:=by unfold rd_T36;simp [List.getD_eq_getElem?_getD,List.getElem?_eq_getElem h]
 rw [e];exact List.getElem_mem h
theorem badF_none: ∀(i:Int) (l:List S36),badF i l=none→ ∀x∈l,chkT x=0
 |_,[],_,x,hx=>by cases hx
 |i,y::l,h,x,hx=>by
  unfold badF at h;by_cases c:chkT y=0
  · rw [if_pos c] at h
    rcases List.mem_cons.1 hx with rfl|hx
    · exact c
    · exact badF_none _ l h x hx
  · rw [if_neg c] at h;cases h
theorem gen_w {c:Code} {P:Program} {Q:Exit→Act→World→Prop} {a:Act} {W:World} (F:World→Prop) (h:F W) (k: ∀W',F W'→c.wp P Q a W'):c.wp P Q a W:=k W h
theorem kept_box {b g:Nat} {cs:Array Value} {W W':World} (hk:Lib.OthersKept 5 (some b) W W') (h:W.heap[g]? =some (.cells cs 36 (0,0))) (hne:g≠b):W'.heap[g]? =some (.cells cs 36 (0,0)):=
 hk g _ h (fun e=>hne (Option.some.inj e)) (fun c fz e=>by injection e with _ e2 _;exact absurd e2 (by decide))
theorem blankP_two {last:Int} {x:S36} (h:x.f0=2):blankP last x=false:=by unfold blankP;simp [h]
theorem blankP_last {last:Int} {x:S36} (h:last=1∨last=3∨last=4):blankP last x=false:=by unfold blankP;rcases h with rfl|rfl|rfl<;>simp
theorem blankP_yes {last:Int} {x:S36} (h:x.f0≠2) (h1:last≠1) (h3:last≠3) (h4:last≠4):blankP last x=true:=by unfold blankP;simp [h,h1,h3,h4]
theorem isB_lt {T e:TypeId} {B b:Nat} {bs:List Value} {w:World} (h:Lib.IsBuilderF T e B b bs w):b<w.heap.size:=by
 rcases h with ⟨_,v,h,_⟩|⟨_,v,h,_⟩<;>exact blk_lt h
def TokB (x:S36):Prop:=x.f3.size≤1000000∧ -9223372036854775808≤x.f2∧x.f2≤9223372036854775807
theorem textB_len (x:S36) (h:TokB x):(textB x).length≤1000000:=by
 have hi:=Lib.itoa_length_le x.f2 h.2.1 h.2.2
 have hs:x.f3.data.toList.length≤1000000:=by rw [Array.length_toList];exact h.1
 unfold textB
 repeat' split
 all_goals first|omega|(simp only [List.length_cons,List.length_nil];omega)
set_option maxRecDepth 100000 in
set_option maxHeartbeats 4000000 in
theorem prt_walk (A0:Option Addr) (c0 n:Nat) (l:List S36) (w:World) (hn:l.length=n) (hsz:n≤1000000) (hr:Kd.C k36 w A0 n l) (hc:n≤c0) (hG:G5 w) (hT: ∀x∈l,TokB x):
 Calls Tryd.prog 11 #[.slice A0 n c0] w fun e w'=>e= .returned (.tuple #[.string (printR l).1,.int .i64 (printR l).2.1,.int .i64 (printR l).2.2])∧Below w.heap.size w w':=by
 have HN:=Aside0.mk hn;have HR:=Aside0.mk hr
 have HG:=Aside0.mk fun (W:World) (hW:Below w.heap.size w W)=>G5_keep hG hW
 have HT:=Aside0.mk fun (k:Nat) (hk:k<n)=>hT _ (rd_mem l k (by omega))
 have HBN:=Aside0.mk fun (h:badF 0 l=none) (k:Nat) (hk:k<n)=>badF_none 0 l h _ (rd_mem l k (by omega))
 clear hr hG hT hn;generalize hP:printR l=P;have HP:=Aside0.mk hP;clear hP;go_enter Tryd.func11,Tryd.ntmps11;go_wp2
 go_loopw [14] (fun v wr=> ∃k:Nat,v= .int .i64 k∧k≤n∧Aside0 (badF k (l.drop k)=badF 0 l)∧Aside0 (Below w.heap.size w wr)) (fun v _=>n-(intOf v).toNat)
 case atStart=>exact ⟨0,rfl,Nat.zero_le _,⟨rfl⟩,⟨Below.refl _ _⟩⟩
 case round=>
  obtain ⟨k,rfl,hk,HS,HB⟩:=hrel;by_cases hlt:k<n
  · have hkI:(k:Int)<n:=by omega
    obtain ⟨ad,e0,x0,x1,x2,x3,x4⟩:=at_T36 (Kd.C_below HR.out HB.out) (k:Int) (by omega) hkI;have hd:=badF_drop l k (by rw [HN.out];exact hlt);have hx:=HT.out k hlt;subst e0;generalize rd_T36 l (k:Int)=x at *; simp only [Int.toNat_natCast] at x0 x1 x2 x3 x4;have q0:(ad.add (k*5)).block<wr.heap.size:=World.block_lt_of_cell? wr _ x0
    have q1:(ad.add (k*5)).block<wr.heap.size+1:=by omega
    have HCK:=Aside0.mk fun (W:World) (hW:Below w.heap.size w W)=>lexer_Check.calls 5 x.f0 x.f1.f0 x.f1.f1 x.f2 x.f3 (chkT x) W (HG.out W hW) (chk_some x hx.1)
    have HX:=Aside0.mk hx;rw [HS.out] at hd;have HD:=Aside0.mk hd;clear hd hx;generalize hq:chkT x=q at *; have HQ:=Aside0.mk hq;clear hq;by_cases hq0:q=0
    · subst hq0
      go_wp2_with (go_at_call 18;refine (HCK.out _ (by exact below_alloc HB.out _)).mono ?_;rintro e w1 ⟨rfl,hb1⟩;have HB1:=Aside0.mk (below_step (below_alloc HB.out _) hb1);clear hb1)
      go_roundw
      case rel=>
       refine ⟨k+1,by go_num,by omega,⟨?_⟩,HB1⟩;have:=HD.out
       first|rw [if_pos rfl] at this|rw [if_pos trivial] at this
       exact this.symm
      case measure=>simp [intOf];omega
    · have hqB:(q != 0)=true:=bne_iff_ne.mpr hq0
      have e:P=(⟨#[]⟩,(k:Int),q):=by
       rw [←HP.out];unfold printR;have:=HD.out;rw [if_neg hq0] at this;rw [this]
      subst e;clear hq0
      go_wp2_with (go_at_call 18;refine (HCK.out _ (by exact below_alloc HB.out _)).mono ?_;rintro e w1 ⟨rfl,hb1⟩;have HB1:=Aside0.mk (below_step (below_alloc HB.out _) hb1);clear hb1)
      go_ret3
      exact ⟨rfl,HB1.out⟩
  · obtain rfl:k=n:=by omega
    have hbad:badF 0 l=none:=by
        rw [←HS.out,List.drop_eq_nil_of_le (by rw [HN.out];omega)];rfl
    have HOK:=Aside0.mk (HBN.out hbad)
    have HP2:Aside0 ((if 8000<(putF 1 l).length then ((⟨#[]⟩:ByteArray),(0:Int),(3:Int)) else (⟨(putF 1 l).toArray⟩,0,0))=P):=⟨by rw [←HP.out];unfold printR;rw [hbad]⟩
    clear hbad HP HBN HS hlt;go_wp2;have hz:=HB.out.size
    have hI0:Lib.IsBuilderF 52 5 w.heap.size wr.heap.size (Lib.byteCells []) (wr.alloc (.cells #[.pointer none,.slice none 0 0] 52)):=
        Lib.IsBuilderF.of (Or.inl ⟨hz,.slice none 0 0,blk_new wr _,World.ownsRow_nil _ _ _ _,by simp [Value.ownBlock]⟩)
    have hB0:Below w.heap.size w (wr.alloc (.cells #[.pointer none,.slice none 0 0] 52)):=below_alloc HB.out _
    have hsz0:wr.heap.size<(wr.alloc (.cells #[.pointer none,.slice none 0 0] 52)).heap.size:=by rw [World.size_alloc];omega
    generalize wr.heap.size=bb at *; generalize wr.alloc (.cells #[.pointer none,.slice none 0 0] 52)=W0 at *; have HI0:=Aside0.mk hI0;have HB0:=Aside0.mk hB0;clear hI0 hB0 HB
    go_loopw [9,28] (fun v9 v w2=> ∃(j:Nat) (last:Int) (acc:List UInt8),v9= .int .i64 last∧v= .int .i64 j∧j≤k∧acc.length≤j*1000001∧bb<w2.heap.size∧Aside0 (acc++putF last (l.drop j)=putF 1 l)∧Aside0 (Lib.IsBuilderF 52 5 w.heap.size bb (Lib.byteCells acc) w2)∧Aside0 (Below w.heap.size w w2)) (fun _ v _=>k-(intOf v).toNat)
    case atStart=>exact ⟨0,1,[],rfl,rfl,Nat.zero_le _,Nat.zero_le _,hsz0,⟨rfl⟩,HI0,HB0⟩
    case round=>
        obtain ⟨j,last,acc,rfl,rfl,hj,hacc,hbw,HA,HI,HB⟩:=hrel;clear HI0 HB0 hsz0;by_cases hlt:j<k
        · have hjI:(j:Int)<k:=by omega
          obtain ⟨ad,e0,x0,x1,x2,x3,x4⟩:=at_T36 (Kd.C_below HR.out HB.out) (j:Int) (by omega) hjI;have hd:=putF_drop l last j (by rw [HN.out];exact hlt);have hx:=HT.out j hlt;have hok:=HOK.out j hlt;subst e0;rw [hd] at HA;generalize rd_T36 l (j:Int)=x at *; simp only [Int.toNat_natCast] at x0 x1 x2 x3 x4;have q0:(ad.add (j*5)).block<wr.heap.size:=World.block_lt_of_cell? wr _ x0
          have q1:(ad.add (j*5)).block<wr.heap.size+1:=by omega
          have htx:=text_some x hok hx.2.1 hx.2.2;have htl:=textB_len x hx
          have HTX:=Aside0.mk fun (W:World) (hW:Below w.heap.size w W)=>lexer_text.calls x.f0 x.f1.f0 x.f1.f1 x.f2 x.f3 _ W (HG.out W hW) htx
          clear hd hx hok htx;generalize textB x=tb at *; have hbox:=blk_new wr (.cells #[.int .i64 x.f0,.int .i64 x.f1.f0,.int .i64 x.f1.f1,.int .i64 x.f2,.string x.f3] 36);have hI1:=Lib.IsBuilderF.alloc HI.out (.cells #[.int .i64 x.f0,.int .i64 x.f1.f0,.int .i64 x.f1.f1,.int .i64 x.f2,.string x.f3] 36);have hB1:Below w.heap.size w (wr.alloc (.cells #[.int .i64 x.f0,.int .i64 x.f1.f0,.int .i64 x.f1.f1,.int .i64 x.f2,.string x.f3] 36)):=below_alloc HB.out _
          go_upto_region 13 with fail
          refine gen_w (fun W=>W.heap[wr.heap.size]? =some (.cells #[.int .i64 x.f0,.int .i64 x.f1.f0,.int .i64 x.f1.f1,.int .i64 x.f2,.string x.f3] 36 (0,0))∧Lib.IsBuilderF 52 5 w.heap.size bb (Lib.byteCells acc) W∧Below w.heap.size w W) ⟨hbox,hI1,hB1⟩ ?_;rintro W1 ⟨hx1,hi1,hb1⟩
          have hgb:wr.heap.size≠bb:=by omega
          have hts:(⟨tb.toArray⟩:ByteArray).size=tb.length:=by simp [ByteArray.size]
          have c0:=(blk_cell hx1 0).trans rfl;have c1:=(blk_cell hx1 1).trans rfl;have c2:=(blk_cell hx1 2).trans rfl;have c3:=(blk_cell hx1 3).trans rfl;have c4:=(blk_cell hx1 4).trans rfl;have HX1:=Aside0.mk hx1;have HI1:=Aside0.mk hi1;have HB1:=Aside0.mk hb1;clear hx1 hi1 hb1 hbox hI1 hB1 x0 x1 x2 x3 x4 q0 q1 HI HB;generalize wr.heap.size=g at *; clear wr;by_cases k2:x.f0=2
          · have b2:(x.f0 != 2)=false:=bne_eq_false_iff_eq.mpr k2;have HBL:=Aside0.mk (blankP_two (last:=last) k2);clear k2
            go_wp2_with (first
             |(go_at_call 21;refine (HTX.out _ HB1.out).mono ?_;rintro e W3 ⟨rfl,hb3⟩
               have HB3:=Aside0.mk (below_step HB1.out hb3);have HI3:=Aside0.mk (isB_below HI1.out hb3);have HX3:=Aside0.mk (blk_below HX1.out hb3)
               clear hb3)
             |(go_at_call 20;refine (bld_WriteString w.heap.size bb _ ⟨tb.toArray⟩ _ HI3.out (by rw [Lib.byteCells_length,hts];(try simp only [List.length_append,List.length_singleton]);omega) HB3.out.size).mono ?_;rintro e W4 ⟨rfl,h4,hb4,hk4⟩
               have HB4:=Aside0.mk (HB3.out.trans hb4)
               have HI4:Aside0 (Lib.IsBuilderF 52 5 w.heap.size bb (Lib.byteCells (acc++tb)) W4):=⟨Or.inr (by rw [Lib.byteCells_append];exact h4)⟩
               have HX4:=Aside0.mk (kept_box hk4 HX3.out hgb);have f0:=(blk_cell HX4.out 0).trans rfl;have f1:=(blk_cell HX4.out 1).trans rfl;have f2:=(blk_cell HX4.out 2).trans rfl;have f3:=(blk_cell HX4.out 3).trans rfl;have f4:=(blk_cell HX4.out 4).trans rfl
               clear h4 hb4 hk4))
            go_roundw
            case rel=>
             refine ⟨j+1,x.f0,acc++tb,rfl,by go_num,by omega,by simp only [List.length_append];omega,isB_lt HI4.out,⟨?_⟩,HI4,HB4⟩;rw [←HA.out,HBL.out,if_neg (by decide)]
             try simp [List.append_assoc]
            case measure=>simp [intOf];omega
          have b2:(x.f0 != 2)=true:=bne_iff_ne.mpr k2;by_cases l1:last=1
          · have e1:(last != 1)=false:=bne_eq_false_iff_eq.mpr l1;have HBL:=Aside0.mk (blankP_last (x:=x) (Or.inl l1));clear k2 l1
            go_wp2_with (first
             |(go_at_call 21;refine (HTX.out _ HB1.out).mono ?_;rintro e W3 ⟨rfl,hb3⟩
               have HB3:=Aside0.mk (below_step HB1.out hb3);have HI3:=Aside0.mk (isB_below HI1.out hb3);have HX3:=Aside0.mk (blk_below HX1.out hb3)
               clear hb3)
             |(go_at_call 20;refine (bld_WriteString w.heap.size bb _ ⟨tb.toArray⟩ _ HI3.out (by rw [Lib.byteCells_length,hts];(try simp only [List.length_append,List.length_singleton]);omega) HB3.out.size).mono ?_;rintro e W4 ⟨rfl,h4,hb4,hk4⟩
               have HB4:=Aside0.mk (HB3.out.trans hb4)
               have HI4:Aside0 (Lib.IsBuilderF 52 5 w.heap.size bb (Lib.byteCells (acc++tb)) W4):=⟨Or.inr (by rw [Lib.byteCells_append];exact h4)⟩
               have HX4:=Aside0.mk (kept_box hk4 HX3.out hgb);have f0:=(blk_cell HX4.out 0).trans rfl;have f1:=(blk_cell HX4.out 1).trans rfl;have f2:=(blk_cell HX4.out 2).trans rfl;have f3:=(blk_cell HX4.out 3).trans rfl;have f4:=(blk_cell HX4.out 4).trans rfl
               clear h4 hb4 hk4))
            go_roundw
            case rel=>
             refine ⟨j+1,x.f0,acc++tb,rfl,by go_num,by omega,by simp only [List.length_append];omega,isB_lt HI4.out,⟨?_⟩,HI4,HB4⟩;rw [←HA.out,HBL.out,if_neg (by decide)]
             try simp [List.append_assoc]
            case measure=>simp [intOf];omega
          have e1:(last != 1)=true:=bne_iff_ne.mpr l1;by_cases l3:last=3
          · have e3:(last != 3)=false:=bne_eq_false_iff_eq.mpr l3;have HBL:=Aside0.mk (blankP_last (x:=x) (Or.inr (Or.inl l3)));clear k2 l3
            go_wp2_with (first
             |(go_at_call 21;refine (HTX.out _ HB1.out).mono ?_;rintro e W3 ⟨rfl,hb3⟩
               have HB3:=Aside0.mk (below_step HB1.out hb3);have HI3:=Aside0.mk (isB_below HI1.out hb3);have HX3:=Aside0.mk (blk_below HX1.out hb3)
               clear hb3)
             |(go_at_call 20;refine (bld_WriteString w.heap.size bb _ ⟨tb.toArray⟩ _ HI3.out (by rw [Lib.byteCells_length,hts];(try simp only [List.length_append,List.length_singleton]);omega) HB3.out.size).mono ?_;rintro e W4 ⟨rfl,h4,hb4,hk4⟩
               have HB4:=Aside0.mk (HB3.out.trans hb4)
               have HI4:Aside0 (Lib.IsBuilderF 52 5 w.heap.size bb (Lib.byteCells (acc++tb)) W4):=⟨Or.inr (by rw [Lib.byteCells_append];exact h4)⟩
               have HX4:=Aside0.mk (kept_box hk4 HX3.out hgb);have f0:=(blk_cell HX4.out 0).trans rfl;have f1:=(blk_cell HX4.out 1).trans rfl;have f2:=(blk_cell HX4.out 2).trans rfl;have f3:=(blk_cell HX4.out 3).trans rfl;have f4:=(blk_cell HX4.out 4).trans rfl
               clear h4 hb4 hk4))
            go_roundw
            case rel=>
             refine ⟨j+1,x.f0,acc++tb,rfl,by go_num,by omega,by simp only [List.length_append];omega,isB_lt HI4.out,⟨?_⟩,HI4,HB4⟩;rw [←HA.out,HBL.out,if_neg (by decide)]
             try simp [List.append_assoc]
            case measure=>simp [intOf];omega
          have e3:(last != 3)=true:=bne_iff_ne.mpr l3;by_cases l4:last=4
          · have e4:(last != 4)=false:=bne_eq_false_iff_eq.mpr l4;have HBL:=Aside0.mk (blankP_last (x:=x) (Or.inr (Or.inr l4)));clear k2 l4
            go_wp2_with (first
             |(go_at_call 21;refine (HTX.out _ HB1.out).mono ?_;rintro e W3 ⟨rfl,hb3⟩
               have HB3:=Aside0.mk (below_step HB1.out hb3);have HI3:=Aside0.mk (isB_below HI1.out hb3);have HX3:=Aside0.mk (blk_below HX1.out hb3)
               clear hb3)
             |(go_at_call 20;refine (bld_WriteString w.heap.size bb _ ⟨tb.toArray⟩ _ HI3.out (by rw [Lib.byteCells_length,hts];(try simp only [List.length_append,List.length_singleton]);omega) HB3.out.size).mono ?_;rintro e W4 ⟨rfl,h4,hb4,hk4⟩
               have HB4:=Aside0.mk (HB3.out.trans hb4)
               have HI4:Aside0 (Lib.IsBuilderF 52 5 w.heap.size bb (Lib.byteCells (acc++tb)) W4):=⟨Or.inr (by rw [Lib.byteCells_append];exact h4)⟩
               have HX4:=Aside0.mk (kept_box hk4 HX3.out hgb);have f0:=(blk_cell HX4.out 0).trans rfl;have f1:=(blk_cell HX4.out 1).trans rfl;have f2:=(blk_cell HX4.out 2).trans rfl;have f3:=(blk_cell HX4.out 3).trans rfl;have f4:=(blk_cell HX4.out 4).trans rfl
               clear h4 hb4 hk4))
            go_roundw
            case rel=>
             refine ⟨j+1,x.f0,acc++tb,rfl,by go_num,by omega,by simp only [List.length_append];omega,isB_lt HI4.out,⟨?_⟩,HI4,HB4⟩;rw [←HA.out,HBL.out,if_neg (by decide)]
             try simp [List.append_assoc]
            case measure=>simp [intOf];omega
          have e4:(last != 4)=true:=bne_iff_ne.mpr l4;have HBL:=Aside0.mk (blankP_yes k2 l1 l3 l4);clear k2 l1 l3 l4
          go_wp2_with (first
           |(go_at_call 19;refine (bld_WriteByte w.heap.size bb _ 32 _ HI1.out (by rw [Lib.byteCells_length];omega) HB1.out.size).mono ?_;rintro e W2 ⟨rfl,h2,hb2,hk2⟩
             have HB2:=Aside0.mk (HB1.out.trans hb2)
             have HI2:Aside0 (Lib.IsBuilderF 52 5 w.heap.size bb (Lib.byteCells (acc++[32])) W2):=⟨Or.inr (by rw [Lib.byteCells_append];exact h2)⟩
             have HX2:=Aside0.mk (kept_box hk2 HX1.out hgb);have d0:=(blk_cell HX2.out 0).trans rfl;have d1:=(blk_cell HX2.out 1).trans rfl;have d2:=(blk_cell HX2.out 2).trans rfl;have d3:=(blk_cell HX2.out 3).trans rfl;have d4:=(blk_cell HX2.out 4).trans rfl;clear HB1 HI1 HX1 h2 hb2 hk2;have HB1:=HB2;have HI1:=HI2;have HX1:=HX2
             clear HB2 HI2 HX2)
           |(go_at_call 21;refine (HTX.out _ HB1.out).mono ?_;rintro e W3 ⟨rfl,hb3⟩
             have HB3:=Aside0.mk (below_step HB1.out hb3);have HI3:=Aside0.mk (isB_below HI1.out hb3);have HX3:=Aside0.mk (blk_below HX1.out hb3)
             clear hb3)
           |(go_at_call 20;refine (bld_WriteString w.heap.size bb _ ⟨tb.toArray⟩ _ HI3.out (by rw [Lib.byteCells_length,hts];(try simp only [List.length_append,List.length_singleton]);omega) HB3.out.size).mono ?_;rintro e W4 ⟨rfl,h4,hb4,hk4⟩
             have HB4:=Aside0.mk (HB3.out.trans hb4)
             have HI4:Aside0 (Lib.IsBuilderF 52 5 w.heap.size bb (Lib.byteCells ((acc++[32])++tb)) W4):=⟨Or.inr (by rw [Lib.byteCells_append];exact h4)⟩
             have HX4:=Aside0.mk (kept_box hk4 HX3.out hgb);have f0:=(blk_cell HX4.out 0).trans rfl;have f1:=(blk_cell HX4.out 1).trans rfl;have f2:=(blk_cell HX4.out 2).trans rfl;have f3:=(blk_cell HX4.out 3).trans rfl;have f4:=(blk_cell HX4.out 4).trans rfl
             clear h4 hb4 hk4))
          go_roundw
          case rel=>
           refine ⟨j+1,x.f0,(acc++[32])++tb,rfl,by go_num,by omega,by simp only [List.length_append,List.length_singleton];omega,isB_lt HI4.out,⟨?_⟩,HI4,HB4⟩;rw [←HA.out,HBL.out,if_pos rfl]
           try simp [List.append_assoc]
          case measure=>simp [intOf];omega
        · obtain rfl:j=k:=by omega
          have hall:acc=putF 1 l:=by
           rw [←HA.out,List.drop_eq_nil_of_le (by rw [HN.out];omega)];simp [putF]
          subst hall;clear hlt;have hP2:=HP2.out;by_cases h8:8000<(putF 1 l).length
          · rw [if_pos h8] at hP2
            have d8:decide ((8000:Int)<(Lib.byteCells (putF 1 l)).length)=true:=by rw [Lib.byteCells_length];exact decide_eq_true (by omega)
            generalize putF 1 l=t at *; clear h8;subst hP2
            go_wp2_with (first
             |(go_at_call 22;refine (bld_Len w.heap.size bb _ _ HI.out).mono ?_;rintro e W5 ⟨rfl,rfl⟩))
            go_ret3
            exact ⟨rfl,HB.out⟩
          · rw [if_neg h8] at hP2
            have d8:decide ((8000:Int)<(Lib.byteCells (putF 1 l)).length)=false:=by rw [Lib.byteCells_length];exact decide_eq_false (by omega)
            generalize putF 1 l=t at *; clear h8;subst hP2
            go_wp2_with (first
             |(go_at_call 22;refine (bld_Len w.heap.size bb _ _ HI.out).mono ?_;rintro e W5 ⟨rfl,rfl⟩)
             |(go_at_call 23;refine (bld_String w.heap.size bb t _ HI.out HB.out.size).mono ?_;rintro e W6 ⟨rfl,h6,hb6,hk6⟩;have HB6:=Aside0.mk (HB.out.trans hb6);clear h6 hb6 hk6))
            go_ret3
            exact ⟨rfl,HB6.out⟩
def lexer_Print.f (l0:List (S36)):Option (ByteArray×Int×Int):=if l0.length≤1000000∧(∀x∈l0,x.f3.size≤1000000∧ -9223372036854775808≤x.f2∧x.f2≤9223372036854775807) then some (printR l0) else none
theorem lexer_Print.calls (A0:Option Addr) (c0:Nat) (l0:List (S36)) (r1:ByteArray) (r2:Int) (r3:Int) (w:World) (hr0:Kd.C k36 w A0 l0.length l0) (hc0:l0.length≤c0) (hG:G5 w) (h:lexer_Print.f l0=some (r1,r2,r3)):
 Calls Tryd.prog 11 #[.slice A0 l0.length c0] w fun e w'=>e= .returned (.tuple #[.string r1,.int .i64 r2,.int .i64 r3])∧Below w.heap.size w w':=by
 unfold lexer_Print.f at h
 by_cases c:l0.length≤1000000∧(∀x∈l0,x.f3.size≤1000000∧ -9223372036854775808≤x.f2∧x.f2≤9223372036854775807)
 · rw [if_pos c] at h;have h2:=Option.some.inj h;have:=prt_walk A0 c0 l0.length l0 w rfl c.1 hr0 hc0 hG c.2;rw [h2] at this;exact this
 · rw [if_neg c] at h;cases h
end Go.Proofs.YtdffphkbidfejaaDoor.Q
end
