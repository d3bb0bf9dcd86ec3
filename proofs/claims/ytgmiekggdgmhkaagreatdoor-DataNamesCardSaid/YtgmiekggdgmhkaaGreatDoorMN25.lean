import Derived.Test.YtgmiekggdgmhkaaGreatDoorMN11
import Derived.Test.YtgmiekggdgmhkaaGreatDoorMN16
import Derived.Test.YtgmiekggdgmhkaaGreatDoorMN23
import Derived.Test.YtgmiekggdgmhkaaGreatDoorMN24
section
namespace Go.Proofs.YtgmiekggdgmhkaaGreatDoor.Q
open Go.RowKit Go.Proofs.YtgmiekggdgmhkaaGreatDoorW.PrintWords Go.Proofs.YtgmiekggdgmhkaaGreatDoorW.PrintLast Go.Proofs.YtgmiekggdgmhkaaGreatDoorW.PrintMore Go.Shelf
set_option linter.unusedVariables false
set_option linter.unusedSimpArgs false
attribute [local go_sem] Oper.semAt_some
set_option maxRecDepth 100000 in
set_option maxHeartbeats 2000000 in
theorem above_any (A0:Option Addr) (n0 c0 c1:Nat) (ad:Addr) (es:List Int) (i:Nat) (W:World) (hr1:Kd.C (Kd.int .i64) W (some ad) es.length es) (hi:0<i) (hl:i<es.length) (h0:(i:Int)<rd es 0) (h400:es.length≤400):
 Calls Tryz.prog 38 #[.agg #[.slice A0 n0 c0,.slice (some ad) es.length c1],.int .i64 i] W fun e w'=>e= .returned (.int .i64 (aboveF es i (i-1):Nat))∧Below W.heap.size W w':=by
 have hread:ReadsInt W .i64 (some ad) es.length es:=Kd.reads_of_C hr1;have HRD:=Aside0.mk hread
 obtain ⟨q,hq⟩: ∃q,aboveF es i (i-1)=q:=⟨_,rfl⟩
 have HQ:=Aside0.mk hq;rw [hq];have H0:=Aside0.mk h0
 have hi1:(1:Int)≤i:=by omega
 have hi4:(i:Int)≤400:=by omega
 have hu78:=Tryz.underlying52;clear hr1 hread hq h0;go_enter Tryz.func38,Tryz.ntmps38;go_wp2;have hB:Below W.heap.size W (W.alloc (.cells #[.slice A0 n0 c0,.slice (some ad) es.length c1] 52)):=below_alloc (Below.refl _ _) _;have hbx:(W.alloc (.cells #[.slice A0 n0 c0,.slice (some ad) es.length c1] 52)).cell? ⟨W.heap.size,1,none⟩=some (.slice (some ad) es.length c1):=blk2_cell1 (World.alloc_heap_new W _);generalize W.alloc (.cells #[.slice A0 n0 c0,.slice (some ad) es.length c1] 52)=W1 at *; have HRD1:=Aside0.mk (HRD.out.below hB);have HB:=Aside0.mk hB;clear hB
 go_loopw [5] (fun p wr=> ∃k:Nat,p= .int .i64 k∧k<i∧Aside0 (aboveF es i k=q)∧W1=wr) (fun p _=>(intOf p).toNat)
 case atStart=>exact ⟨i-1,by congr 1;omega,by omega,HQ,rfl⟩
 case round=>
  obtain ⟨k,rfl,hk,HK,rfl⟩:=hrel;obtain ⟨ad',had,hcell⟩:=HRD1.out.at_ k (by omega) (by omega);obtain rfl:=Option.some.inj had;rw [Int.toNat_natCast] at hcell;by_cases hc:rd es k≤i
  · have hk0:k≠0:=by
        rintro rfl;exact absurd H0.out (by have:rd es ((0:Nat):Int)=rd es 0:=rfl;rw [this] at hc;omega)
    obtain ⟨m,hm⟩: ∃m:Nat,k=m+1:=⟨k-1,by omega⟩
    have hst:aboveF es i m=q:=by
        have:=HK.out;subst hm;unfold aboveF at this
        rwa [if_pos hc] at this
    have HST:=Aside0.mk hst;have hd:decide (rd es (k:Int)≤i)=true:=decide_eq_true hc;have HM:=Aside0.mk hm;clear hst hc HK hm;go_wp2;go_roundw
    case rel=>exact ⟨m,by have:=HM.out;congr 1;omega,by have:=HM.out;omega,HST,trivial⟩
    case measure=>have:=HM.out;simp [intOf];omega
  · have hst:k=q:=by
        have:=HK.out
        cases k with
        |zero=>exact this
        |succ k=>
         unfold aboveF at this
         rwa [if_neg hc] at this
    have hd:decide (rd es (k:Int)≤i)=false:=decide_eq_false hc;have HST:=Aside0.mk hst;clear hst hc;go_wp2;go_ret;exact ⟨by rw [HST.out];rfl,HB.out⟩
theorem rev_own (base:Nat) (v:Value) (acc:List Int) (W:World) (hrow:W.ownsRow base 3 1 v acc.length (nums .i64 acc)) (hlen:acc.length≤9223372036854775807):
 Calls Tryz.prog 40 #[v] W fun e w'=>e= .returned (.tuple #[])∧w'.ownsRow base 3 1 v acc.length (nums .i64 acc.reverse)∧Below base W w'∧w'.heap.size=W.heap.size∧(∀k,some k≠v.ownBlock→w'.heap[k]? =W.heap[k]?):=by
 obtain ⟨h1,h2⟩:=hrow
 rcases h2 with ⟨rfl,h0⟩|⟨g,cap,cur,rfl,hb,hg,hnc,hcm,hcs,ht⟩
 · have e:acc=[]:=List.length_eq_zero_iff.mp h0;subst e
   exact (Any.slices_Reverse_int_empty Tryz.lays112 none 0 W).mono fun e w' ⟨he,hw⟩=>by
    subst hw;exact ⟨he,own_nil _ _ _ _,Below.refl _ _,rfl,fun _ _=>rfl⟩
 · rw [Nat.mul_one] at ht hcs
   have hcl:cur.toList.length=cap:=by rw [Array.length_toList];exact hcs
   have hcell: ∀j,j<acc.length→W.cell? ⟨g,0+j,none⟩=some (.int .i64 (acc.getD j 0)):=fun j hj=>by
    rw [blk_cell hg,Nat.zero_add,←Array.getElem?_toList]
    have e1:(cur.toList.take acc.length)[j]? =cur.toList[j]? :=by rw [List.getElem?_take,if_pos hj]
    rw [←e1,ht];simp [nums,List.getD_eq_getElem?_getD,List.getElem?_eq_getElem hj]
   refine (Any.slices_Reverse_int_cells Tryz.lays112 g 0 acc.length cap acc W (Nat.le_refl _) hlen hcell (fun j _=>blk_frozen hg _)).mono ?_;rintro e w' ⟨he,q,rfl⟩;rw [List.take_length];have hg':(W.drewN q).heap[g]? =some (.cells cur 3 (0,0)):=hg;obtain ⟨cur',hk1,hk2,hk3⟩:=setCells_row (acc.reverse.map (Value.int .i64)) 0 (W.drewN q) cur hg' (by simp;omega);obtain ⟨s1,s2,s3,s4⟩:=setCells_same g (acc.reverse.map (Value.int .i64)) 0 (W.drewN q);refine ⟨he,⟨by simp [nums],.inr ⟨g,cap,cur',rfl,hb,hk1,hnc,hcm,by rw [hk2,Nat.mul_one];exact hcs,?_⟩⟩,?_,s4,fun k hk=>?_⟩
   · rw [hk3,Nat.mul_one];simp [nums]
   · refine ⟨s1,s2,s3,Nat.le_of_eq s4.symm,fun k hk=>?_⟩;rw [setCells_far _ _ k (by omega)];rfl
   · rw [setCells_far _ _ k (by rintro rfl;exact hk rfl)];rfl
theorem nodeE_ok {t:List S40} {i:Int} (h:nodeE t i=0):0≤i∧i<t.length:=by
 unfold nodeE at h;by_cases hh:(chkF t).2≠0
 · rw [if_pos hh] at h;exact absurd h hh
 · rw [if_neg hh] at h;by_cases h2:i<0∨(t.length:Int)≤i
   · rw [if_pos h2] at h;cases h
   · omega
def numsOf (l:List (Int×Int)) (j:Nat):List Int:=(l.filter (fun x=>x.2==(j:Int))).map (·.1)
def pathUp (es:List Int):Nat→Nat→List Int
 |0,_=>[]
 |_+1,0=>[]
 |f+1,i+1=>numsOf (kidsL es (aboveF es (i+1) i)) (i+1)++pathUp es f (aboveF es (i+1) i)
theorem kitF_len: ∀(f:Nat) (es:List Int) (e n k:Int),(kitF f es e n k).length≤f
 |0,_,_,_,_=>Nat.le_refl _
 |f+1,es,e,n,k=>by
  unfold kitF
  split
  · have:=kitF_len f es e (n+1) (rd es k);simp;omega
  · simp
theorem numsOf_len (l:List (Int×Int)) (j:Nat):(numsOf l j).length≤l.length:=by
 unfold numsOf;rw [List.length_map];exact List.length_filter_le ..
theorem kids_len (es:List Int) (p:Nat):(kidsL es p).length≤es.length:=kitF_len _ _ _ _ _
theorem pathUp_len (es:List Int): ∀f i,(pathUp es f i).length≤f*es.length
 |0,_=>by simp [pathUp]
 |f+1,0=>by simp [pathUp]
 |f+1,i+1=>by
  unfold pathUp;have h1:=pathUp_len es f (aboveF es (i+1) i);have h2:=numsOf_len (kidsL es (aboveF es (i+1) i)) (i+1);have h3:(kidsL es (aboveF es (i+1) i)).length≤es.length:=kitF_len _ _ _ _ _;rw [List.length_append,Nat.succ_mul];omega
theorem numsOf_snoc (l:List (Int×Int)) (x:Int×Int) (j:Nat):numsOf (l++[x]) j=numsOf l j++(if x.2=j then [x.1] else []):=by
 unfold numsOf;rw [List.filter_append,List.map_append]
 congr 1
 by_cases h:x.2=(j:Int)
 · rw [if_pos h];simp [h]
 · rw [if_neg h];simp [h]
structure PathRel (es:List Int) (w w1:World) (A1:Option Addr) (n1 c1 c2 g i:Nat) (ds:List Deferred) (j:Nat) (acc:List Int) (f:Nat) (wr:World):Prop where
 hj:j≤i
 hf:j<f
 hacc:acc++pathUp es f j=pathUp es (i+1) i
 bi:wr.heap[w.heap.size]? =some (.cells #[.int .i64 j] 3 (0,0))
 bx:wr.heap[w1.heap.size]? =some (.cells #[.slice A1 n1 c1,.slice (some ⟨g,0,none⟩) es.length c2] 52 (0,0))
 bl: ∃v,Boxed wr (w1.heap.size+1) 44 v∧wr.ownsRow w1.heap.size 3 1 v acc.length (nums .i64 acc)
 bg:wr.heap[g]? =w1.heap[g]?
 below:Below w.heap.size w wr
 marks:Marks w1.heap.size ds wr
 size:w1.heap.size+2≤wr.heap.size
set_option maxRecDepth 100000 in
set_option maxHeartbeats 2000000 in
theorem path_in (A:Option Addr) (c:Nat) (t:List S40) (i:Nat) (w:World) (hr:Kd.C k40 w A t.length t) (hc:t.length≤c) (hG:G0 w) (hR:InR t) (hn:nodeE t i=0):
 CallsIn Fence.wide 4 Tryz.prog 18 #[.slice A t.length c,.int .i64 i] w (fun e w'=> ∃v,e= .returned (.tuple #[v,.int .i64 0])∧Kd.R (Kd.int .i64) 3 w' w.heap.size (fun _=>True) v (pathUp (endsAll (kidsOf t)) (i+1) i).reverse∧Below w.heap.size w w'):=by
 obtain ⟨i0,hi,hz0,hz1,hz2⟩:=info_parts (show (Tryz.prog.info? 3).map (fun i=>(i.zero,i.size,i.bytes))=some (some (.int .i64 0),1,8) by kernel_rfl);refine callsIn_of_wp_marks Tryz.func18 rfl trivial ?_ rfl;simp only [Tryz.ntmps18,List.size_toArray,List.length_cons,List.length_nil,Nat.reduceAdd,Nat.reduceSub,Array.replicate_succ,Array.replicate_zero,List.push_toArray,List.append_toArray,List.nil_append,List.cons_append]
 have hN: ∀W,Below w.heap.size w W→_:=fun W hb=>node_ok2 A c t i W (Kd.C_below hr hb) hc (G0_keep hG hb) hR hn
 have hchk:(chkF t).2=0∧i<t.length:=by
  unfold nodeE at hn;by_cases hh:(chkF t).2≠0
  · rw [if_pos hh] at hn;exact absurd hn hh
  · rw [if_neg hh] at hn;by_cases h2:(i:Int)<0∨(t.length:Int)≤i
    · rw [if_pos h2] at hn;cases hn
    · exact ⟨Decidable.not_not.mp hh,by omega⟩
 obtain ⟨hgood,h00⟩:=ends_good t hR hchk.1;obtain ⟨_,_,_,h400,_⟩:=chkF_ok t hR hchk.1
 have hlen:(endsAll (kidsOf t)).length=t.length:=by simp [endsAll,kidsOf]
 generalize hes:endsAll (kidsOf t)=es at *; have HN:=Aside0.mk hN;have HGD:=Aside0.mk hgood;have H00:=Aside0.mk h00
 have hil:i<es.length:=by omega
 have hel:es.length≤400:=by omega
 have HEL:=Aside0.mk hlen;clear hr hG hR hn hN hgood h00 hchk hlen hes h400
 gi_wp2_with (first
  |(refine ⟨trivial,?_⟩;gi_at_call 37;refine (callsIn_wide.2 (HN.out _ (by repeat (first|exact Below.refl _ _|apply below_alloc)))).mono ?_;rintro e w1 ⟨A1,c1,g,c2,rfl,_,⟨hc2,hC2,hg1,hg2,hg3⟩,hb1⟩))
 rw [World.size_alloc] at hg1;have hB1:Below w.heap.size w w1:=below_step (below_alloc (Below.refl _ _) _) hb1
 refine wpIn_loop (fun a' wr=> ∃(u9 u10 u11 u21 u22 u23 u24 u25 u26 u27 u28 u29 u30 u31 u32 u33 u34 u35 u36 u37 u38:Value) (ds:List Deferred) (j:Nat) (acc:List Int) (f:Nat),PathRel es w w1 A1 t.length c1 c2 g i ds j acc f wr∧
  a'={ tmps:= #[.slice A t.length c,.int .i64 i,undef,.pointer (some ⟨w.heap.size,0,none⟩),.slice none 0 0,.int .i64 0,.pointer (some ⟨w1.heap.size,0,none⟩),.int .i64 0,.pointer (some ⟨w1.heap.size+1,0,none⟩),u9,u10,u11,
   .tuple #[.agg #[.slice A1 t.length c1,.slice (some ⟨g,0,none⟩) es.length c2],.int .i64 0],.slice A t.length c,.int .i64 i,.tuple #[.agg #[.slice A1 t.length c1,.slice (some ⟨g,0,none⟩) es.length c2],.int .i64 0],
   .agg #[.slice A1 t.length c1,.slice (some ⟨g,0,none⟩) es.length c2],.int .i64 0,.int .i64 0,.bool false,undef,u21,u22,u23,u24,u25,u26,u27,u28,u29,u30,u31,u32,u33,u34,u35,u36,u37,u38,undef,undef,undef],defers:=ds })
  (fun _ wr=>(intOf ((wr.cell? ⟨w.heap.size,0,none⟩).getD undef)).toNat) ?start ?round
 case start=>
  refine ⟨undef,undef,undef,undef,undef,undef,undef,undef,undef,undef,undef,undef,undef,undef,undef,undef,undef,undef,undef,undef,undef,[],i,[],i+1,?_,rfl⟩;have e1:=World.alloc_heap_new w1 (.cells #[.slice A1 t.length c1,.slice (some ⟨g,0,none⟩) es.length c2] 52);have hz:=hB1.size;refine ⟨Nat.le_refl _,Nat.lt_succ_self _,List.nil_append _,?_,?_,⟨.slice none 0 0,?_,own_nil _ _ _ _⟩,?_,below_alloc (below_alloc hB1 _) _,trivial,by simp⟩
  · refine (Below.heap_alloc _ _ _ (by simp;omega)).trans ((Below.heap_alloc _ _ _ (by simp at hb1 hg1;omega)).trans ((hb1.block _ (by simp)).trans (World.alloc_heap_new w _)))
  · exact (Below.heap_alloc _ _ _ (by simp)).trans e1
  · have:=Boxed.new (w1.alloc (.cells #[.slice A1 t.length c1,.slice (some ⟨g,0,none⟩) es.length c2] 52)) 44 (.slice none 0 0)
    rwa [World.size_alloc] at this
  · exact (Below.heap_alloc _ _ _ (by simp;omega)).trans (Below.heap_alloc _ _ _ hg2)
 case round=>
  rintro a' wr ⟨u9,u10,u11,u21,u22,u23,u24,u25,u26,u27,u28,u29,u30,u31,u32,u33,u34,u35,u36,u37,u38,ds,j,acc,f,hrel,rfl⟩;have hbi:=blk1_cell hrel.bi;by_cases hj0:j=0
  · subst hj0;obtain ⟨hj,hf,hacc,bi,bx,⟨v,bl,hrow⟩,bg,below,marks,size⟩:=hrel
    obtain ⟨f,rfl⟩: ∃m,f=m+1:=⟨f-1,by omega⟩
    rw [show pathUp es (f+1) 0=[] from rfl,List.append_nil] at hacc
    have hlen:acc.length≤9223372036854775807:=by
        rw [hacc];have:=pathUp_len es (i+1) i;have h2:(i+1)*es.length≤400*400:=Nat.mul_le_mul (by omega) hel;omega
    have hrev:=rev_own w1.heap.size v acc wr hrow hlen;have hblc:=bl.cell;have HREV:=Aside0.mk hrev;have HACC:=Aside0.mk hacc;have HBL:=Aside0.mk bl;have HROW:=Aside0.mk hrow;have HBE:=Aside0.mk below;have HM:=Aside0.mk marks;clear hrev hacc bi bx bl hrow bg below marks hC2 hlen
    gi_wp2_with fail
    refine ⟨trivial,?_⟩;refine (callsIn_wide.2 HREV.out).mono ?_;rintro e w2 ⟨rfl,hrow2,hb2,hs2,hk2⟩;have hbl2:=Boxed.cell ((hk2 _ (HBL.out.not_row (by decide) HROW.out)).trans HBL.out)
    gi_wp2
    refine leaves_marks ds w2 (HM.out.keep (by omega) fun D hD=>?_) ?_
    · obtain ⟨D',e,_,_,h4⟩:=HM.out.mem _ hD;cases e;exact hk2 D (row_ne HROW.out h4 (fun cur e=>by cases e))
    · intro w' hb' hk';have hz1:=hB1.size
      have hown:w'.ownsRow w1.heap.size 3 1 v acc.length (nums .i64 acc.reverse):=own_move hrow2 (fun k hk=>by
       obtain ⟨cells,hc⟩:=own_typed hrow2 k hk
       exact (hk' k _ _ hc).trans hc.symm)
      refine ⟨.tuple #[v,.int .i64 0],by simp [results,Tryz.results18,go_sem],v,rfl,?_,(HBE.out.trans (hb2.mono hz1)).trans (hb'.mono hz1)⟩;rw [←HACC.out];refine Kd.R_lower (Kd.R_of_own (enc:=Value.int .i64) ?_ (fun _ _=>trivial)) hz1;rw [List.length_reverse];exact hown
  · have hjI:decide ((0:Int)<j)=true:=decide_eq_true (by omega);have hjN:decide (0<j)=true:=decide_eq_true (by omega)
    have hj1:1≤j:=by omega
    obtain ⟨hj,hf,hacc,bi,bx,⟨v,bl,hrow⟩,bg,below,marks,size⟩:=hrel;have hC:Kd.C (Kd.int .i64) wr (some ⟨g,0,none⟩) es.length es:=C_of_blk hC2 bg;have hab:=above_any A1 t.length c1 c2 ⟨g,0,none⟩ es j wr hC (by omega) (by omega) (by rw [H00.out];have:=HEL.out;omega) hel;have hpl:=aboveF_le es j (j-1)
    obtain ⟨p,hp⟩: ∃p,aboveF es j (j-1)=p:=⟨_,rfl⟩
    rw [hp] at hab hpl;have hbx0:=blk2_cell0 bx;have hbx1:=blk2_cell1 bx;have HAB:=Aside0.mk hab;have HP:=Aside0.mk hp;have HACC:=Aside0.mk hacc;have HBI:=Aside0.mk bi;have HBX:=Aside0.mk bx;have HBL:=Aside0.mk bl;have HROW:=Aside0.mk hrow;have HBG:=Aside0.mk bg;have HBE:=Aside0.mk below;have HM:=Aside0.mk marks;have HC:=Aside0.mk hC;have HC2:=Aside0.mk hC2;clear hab hp hacc bi bx bl hrow bg below marks hC hC2 hj0
    gi_wp2_with (first
        |(refine ⟨trivial,?_⟩;gi_at_call 38;refine (callsIn_wide.2 HAB.out).mono ?_;rintro e w2 ⟨rfl,hb2⟩;have hbx2:=(hb2.block _ (Array.getElem?_eq_some_iff.1 HBX.out).1).trans HBX.out;have hbx20:=blk2_cell0 hbx2;have hbx21:=blk2_cell1 hbx2;have HBX2:=Aside0.mk hbx2;clear hbx2)
        |(refine ⟨trivial,?_⟩;gi_at_call 39;refine (callsIn_wide.2 (kids_calls _ _ _ _ _ _ _ _)).mono ?_;rintro e w' ⟨rfl,rfl⟩))
    have e1:=World.alloc_heap_new w2 (.cells #[.slice A1 t.length c1,.slice (some ⟨g,0,none⟩) es.length c2] 52);have e2:=World.alloc_heap_new (w2.alloc (.cells #[.slice A1 t.length c1,.slice (some ⟨g,0,none⟩) es.length c2] 52)) (.cells #[.int .i64 p] 3);rw [World.size_alloc] at e2;have e3:=(Below.heap_alloc (w2.alloc (.cells #[.slice A1 t.length c1,.slice (some ⟨g,0,none⟩) es.length c2] 52)) (.cells #[.int .i64 p] 3) w2.heap.size (by simp)).trans e1;have hB0:Below wr.heap.size wr ((w2.alloc (.cells #[.slice A1 t.length c1,.slice (some ⟨g,0,none⟩) es.length c2] 52)).alloc (.cells #[.int .i64 p] 3)):=below_alloc (below_alloc hb2 _) _
    have hs0:((w2.alloc (.cells #[.slice A1 t.length c1,.slice (some ⟨g,0,none⟩) es.length c2] 52)).alloc (.cells #[.int .i64 p] 3)).heap.size=w2.heap.size+2:=by simp
    have hs2:=hb2.size;generalize (w2.alloc (.cells #[.slice A1 t.length c1,.slice (some ⟨g,0,none⟩) es.length c2] 52)).alloc (.cells #[.int .i64 p] 3)=W0 at *; have hz1:=hB1.size
    have nv: ∀b,v.ownBlock=some b→w1.heap.size≤b∧b<wr.heap.size∧b≠w1.heap.size:=fun b hb=>⟨own_base HROW.out b hb,own_lt HROW.out b hb,fun e=>row_ne HROW.out HBX.out (fun cur e=>by cases e) (by rw [hb,e])⟩
    have NV:=Aside0.mk nv;clear nv;have bi0:=(hB0.block _ (by omega)).trans HBI.out;have bx0:=(hB0.block _ (by omega)).trans HBX.out;have bl0:Boxed W0 (w1.heap.size+1) 44 v:=(hB0.block _ (by omega)).trans HBL.out;have bg0:=(hB0.block g (by omega)).trans HBG.out;have row0:=own_move HROW.out (fun k hk=>hB0.block k (NV.out k hk).2.1);have BI0:=Aside0.mk bi0;have BX0:=Aside0.mk bx0;have BG0:=Aside0.mk bg0;have E2:=Aside0.mk e2;have E3:=Aside0.mk e3;have HB0:=Aside0.mk hB0;clear bi0 bx0 bg0 e1 e2 e3 hB0
    have hst:BagI w1.heap.size W0 (w1.heap.size+1) 44 3 v (Value.int .i64) (fun pre=>acc++numsOf pre j) [] W0:=⟨v,by
        have:=Bag.start bl0 row0
        simpa [numsOf,nums,encs] using this⟩
    have hkl:=kids_len es p;have HKL:=Aside0.mk hkl;clear bl0 row0 hkl
    refine wpIn_rangeFunc_ownG rfl (by omega) (gf:=67) (lb:= #[.pointer (some ⟨w2.heap.size+1,0,none⟩),.pointer (some ⟨w2.heap.size,0,none⟩)]) rfl trivial (enters_of Tryz.func67 (by kernel_rfl) rfl)
        (kids_stops _ (by omega) wr W0 (w2.heap.size+1) w2.heap.size t.length c1 c2 w1.heap.size A1 ⟨g,0,none⟩ es HC.out hc2 (by omega) HGD.out p (by omega) (by rw [BG0.out,HBG.out]) (show g<W0.heap.size by omega) E2.out E3.out) (fun h k=>h.t k) (KpC.b (by omega) (by omega) (by omega) (show g<W0.heap.size by omega)) (Below.refl _ _) (fun _=>rfl)
        (BagI w1.heap.size W0 (w1.heap.size+1) 44 3 v (Value.int .i64) (fun pre=>acc++numsOf pre j))
        (fun _ _ _=>False) (BagI.own (Nat.le_refl _) (by omega)) (fun _ _ _ _ _ hs _ _=>hs) hst ?a1 ?assign ?body ?done ?stop
    case assign=>
        intro l x W K hK
        gi_wp2
        exact hK
    case body=>
        rintro l pre ⟨n,k⟩ W ⟨v',hbag⟩ hlt;have hfi:=hbag.far w.heap.size (by omega) (by omega) (fun e=>by have:=(NV.out _ e.symm).1;omega);have hbi2:=blk1_cell (hfi.trans BI0.out);have hblc:=hbag.box.cell;have hpl2:(numsOf pre j).length≤pre.length:=numsOf_len _ _
        have hsn:acc++numsOf (pre++[(n,k)]) j=(acc++numsOf pre j)++(if k=(j:Int) then [n] else []):=by rw [numsOf_snoc,List.append_assoc]
        have hyl:(acc++numsOf pre j).length≤200000:=by
         rw [List.length_append]
         have h3:acc.length≤(pathUp es (i+1) i).length:=by rw [←HACC.out,List.length_append];omega
         have:=pathUp_len es (i+1) i;have h2:(i+1)*es.length≤400*400:=Nat.mul_le_mul (by omega) hel;have:=HKL.out;omega
        dsimp only at hbag;generalize acc++numsOf pre j=ys at hsn hyl hbag;have HBAG:=Aside0.mk hbag;clear hbag hfi hpl2;by_cases hk:k=j
        · have hkB:(k==(j:Int))=true:=beq_iff_eq.2 hk;rw [if_pos hk] at hsn;have HSN:=Aside0.mk hsn;clear hsn hk
          gi_wp2_with (gi_at_builtin;refine Aside0.out ?_)
          refine Aside0.mk ?_;refine HBAG.out.append (by decide) (by omega) (by omega) (by omega) rfl (.tmp 34) (.tmp 36) 44 rfl 8 (.int .i64 0) Tryz.underlying44 (by kernel_rfl) rfl (.int .i64 n) rfl rfl rfl (by unfold maxLen;omega) (by omega) ?_;intro g' cap w3 hv3 hbag3 hk3 hb3 hfar3;have hv3c:=hv3.cell;have hv3f:=hv3.frozen;have HB3:=Aside0.mk hbag3;have HF3:=Aside0.mk hfar3;clear hbag3 hfar3 hv3
          gi_wp2
          have hfr:=HF3.out;refine ⟨hk3.from _,⟨hb3,hfr _ (by omega) (by omega) (fun e=>by have:=(NV.out _ e.symm).2.1;omega),hfr _ (by omega) (by omega) (fun e=>by have:=(NV.out _ e.symm).2.1;omega),hfr _ (by omega) (by omega) (fun e=>by have:=(NV.out _ e.symm).1;omega)⟩,.slice (some ⟨g',0,none⟩) (ys.length+1) cap,?_⟩;dsimp only;rw [HSN.out];have:=HB3.out
          simpa [nums,encs] using this
        · have hkB:(k==(j:Int))=false:=by simpa using hk
          rw [if_neg hk,List.append_nil] at hsn;have HSN:=Aside0.mk hsn;clear hsn hk
          gi_wp2
          refine ⟨KeepsFrom.refl _ _,KpC.refl _ _ _ _ _,v',?_⟩;dsimp only;rw [HSN.out];exact HBAG.out
    case done=>
        rintro D ys W hD rfl ⟨v',hbag⟩ hK;have hfi:=hbag.far w.heap.size (by omega) (by omega) (fun e=>by have:=(NV.out _ e.symm).1;omega);have bi3:=hfi.trans BI0.out;have hbi2:=blk1_cell bi3;have hbi3:=Boxed.frozen (show Boxed W w.heap.size 3 (.int .i64 j) from bi3);have HBAG:=Aside0.mk hbag;have HK:=Aside0.mk hK;have BI3:=Aside0.mk bi3;clear hbag hfi bi3 hK
        gi_wp2
        obtain ⟨f,rfl⟩: ∃m,f=m+1:=⟨f-1,by omega⟩
        obtain ⟨j',rfl⟩: ∃m,j=m+1:=⟨j-1,by omega⟩
        have hfar: ∀k,k<W0.heap.size→k≠w1.heap.size+1→k≠w.heap.size→some k≠v.ownBlock→(W.setCell ⟨w.heap.size,0,none⟩ (.int .i64 p)).heap[k]? =W0.heap[k]? :=fun k h1 h2 h3 h4=>(Below.heap_setCell W ⟨w.heap.size,0,none⟩ _ k h3).trans (HBAG.out.far k h1 h2 h4)
        refine ⟨⟨p,acc++numsOf (kidsL es p) (j'+1),f,?_⟩,by simp [intOf];omega⟩;have hsW:=HBAG.out.below.size;refine ⟨by omega,by omega,?_,Boxed.set _ (show Boxed W w.heap.size 3 (.int .i64 ↑(j'+1)) from BI3.out),?_,⟨v',?_,?_⟩,?_,?_,?_,?_⟩
        · rw [List.append_assoc,←HACC.out]
          congr 1
          show _=numsOf (kidsL es (aboveF es (j'+1) j')) (j'+1)++pathUp es f (aboveF es (j'+1) j');have hp':aboveF es (j'+1) j'=p:=HP.out;rw [hp']
        · exact (hfar _ (by omega) (by omega) (by omega) (fun e=>(NV.out _ e.symm).2.2 rfl)).trans BX0.out
        · exact (Below.heap_setCell W ⟨w.heap.size,0,none⟩ _ _ (by simp;omega)).trans HBAG.out.box
        · refine own_move (w:=W) HBAG.out.row (fun k hk=>Below.heap_setCell W ⟨w.heap.size,0,none⟩ _ _ ?_);have:=own_base HBAG.out.row k hk;simp;omega
        · exact (hfar _ (by omega) (by omega) (by omega) (fun e=>by have:=(NV.out _ e.symm).1;omega)).trans BG0.out
        · exact ((HBE.out.trans (HB0.out.mono (by omega))).trans (HBAG.out.below.mono (by omega))).setCell (p:=⟨w.heap.size,0,none⟩) (Nat.le_refl _) _
        · refine HM.out.cons (w:=wr) (by omega) (by omega) ((Below.heap_setCell W ⟨w.heap.size,0,none⟩ _ D (by simp;omega)).trans HK.out) (by simp;omega) (fun k hk=>?_);obtain ⟨D2,e,h2,h3,h4⟩:=HM.out.mem _ hk;cases e;refine (Below.heap_setCell W ⟨w.heap.size,0,none⟩ _ k (by simp;omega)).trans (Eq.trans ?_ h4.symm);exact HBAG.out.keeps.same k _ (Nat.zero_le _) ((HB0.out.block k h3).trans h4) rfl
        · simp;omega
    case stop=>
        rintro D c pre W _ _ h _;exact h.elim
set_option maxRecDepth 100000 in
set_option maxHeartbeats 1000000 in
theorem path_bad (A:Option Addr) (c:Nat) (t:List S40) (i:Int) (w:World) (hr:Kd.C k40 w A t.length t) (hc:t.length≤c) (hG:G0 w) (hR:InR t) (hn:nodeE t i≠0):
 Calls Tryz.prog 18 #[.slice A t.length c,.int .i64 i] w fun e w'=>e= .returned (.tuple #[.slice none 0 0,.int .i64 (nodeE t i)])∧Below w.heap.size w w':=by
 have hN: ∀W,Below w.heap.size w W→_:=fun W hb=>node_bad A c t i W (Kd.C_below hr hb) hc (G0_keep hG hb) hR
 generalize hq:nodeE t i=q at*
 have hne:(q != 0)=true:=by rw [bne_iff_ne];exact hn
 have HN:=Aside0.mk hN;clear hr hG hR hn hN hq;go_enter Tryz.func18,Tryz.ntmps18
 go_wp2_with (go_at_call 37;refine (HN.out _ (by repeat (first|exact Below.refl _ _|apply below_alloc))).mono ?_;rintro e w1 ⟨⟨A1',n1',c1',A2',n2',c2',rfl⟩,hb1⟩)
 go_ret2;exact ⟨rfl,below_alloc (below_step (below_alloc (Below.refl _ _) _) hb1) _⟩
def pathF (t:List S40) (i:Int):List Int×Int:=if nodeE t i≠0 then ([],nodeE t i) else ((pathUp (endsAll (kidsOf t)) (i.toNat+1) i.toNat).reverse,0)
def data_Path.f (l0:List (S40)) (a1:Int):Option (List Int×Int):=if inR l0=true then some (pathF l0 a1) else none
theorem data_Path.calls (A0:Option Addr) (c0:Nat) (l0:List (S40)) (a1:Int) (r1:List Int) (r2:Int) (w:World) (hr0:Kd.C k40 w A0 l0.length l0) (hc0:l0.length≤c0) (hG:G0 w) (h:data_Path.f l0 a1=some (r1,r2)):
 Calls Tryz.prog 18 #[.slice A0 l0.length c0,.int .i64 a1] w fun e w'=> ∃v0_:Value,e= .returned (.tuple #[v0_,.int .i64 r2])∧Kd.R (Kd.int .i64) 3 w' w.heap.size (fun _=>True) v0_ r1∧Below w.heap.size w w':=by
 unfold data_Path.f at h;by_cases hin:inR l0=true
 · rw [if_pos hin] at h;have hR:=(inR_iff l0).mp hin;have h2:pathF l0 a1=(r1,r2):=Option.some.inj h;unfold pathF at h2;by_cases e1:nodeE l0 a1≠0
   · rw [if_pos e1] at h2;obtain ⟨rfl,rfl⟩:=Prod.mk.inj h2
     exact (path_bad A0 c0 l0 a1 w hr0 hc0 hG hR e1).mono fun e w' ⟨he,hb⟩=>⟨_,he,Kd.R_nil _ _ _ _ _,hb⟩
   · rw [if_neg e1] at h2;have e1':=Decidable.not_not.mp e1;obtain ⟨rfl,rfl⟩:=Prod.mk.inj h2;obtain ⟨h0,_⟩:=nodeE_ok e1';obtain ⟨i,rfl⟩:=Int.eq_ofNat_of_zero_le h0;rw [Int.toNat_natCast];exact callsIn_wide.1 (path_in A0 c0 l0 i w hr0 hc0 hG hR e1')
 · rw [if_neg hin] at h;cases h
end Go.Proofs.YtgmiekggdgmhkaaGreatDoor.Q
end
