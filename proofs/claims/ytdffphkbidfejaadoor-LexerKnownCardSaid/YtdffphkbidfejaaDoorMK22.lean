import Derived.BigRegion
import Derived.Deep.Cut
import Derived.Deep.CutRange
import Derived.LoopTactic
import Derived.Outline
import Derived.Test.YtdffphkbidfejaaDoorMK5
section
namespace Go.Proofs.YtdffphkbidfejaaDoor.Q
open Go.RowKit Go.Proofs.YtdffphkbidfejaaDoorW.PrintWords Go.Proofs.YtdffphkbidfejaaDoorW.PrintLast Go.Proofs.YtdffphkbidfejaaDoorW.PrintMore
set_option linter.unusedVariables false
set_option linter.unusedSimpArgs false
def tokE (sp:Bool) (x y:S36):Bool:=x.f0==y.f0&&((!sp||(x.f1.f0==y.f1.f0&&x.f1.f1==y.f1.f1))&&(x.f2==y.f2&&decide (x.f3.toList=y.f3.toList)))
def sameL:List S36→List S36→Bool→Bool
 |[],[],_=>true
 |x::a,y::b,sp=>tokE sp x y&&sameL a b sp
 |_,_,_=>false
theorem new_2 (w:World) (a b:Obj):((w.alloc a).alloc b).heap[w.heap.size]? =some a∧((w.alloc a).alloc b).heap[w.heap.size+1]? =some b:=by
 have h1:=blk_new w a;have h2:=blk_new (w.alloc a) b;rw [World.size_alloc] at h2;exact ⟨blk_alloc h1 b,h2⟩
theorem same_len (a b:List S36) (sp:Bool) (h:a.length≠b.length):sameL a b sp=false:=by
 induction a generalizing b with
 |nil=>
  cases b with
  |nil=>exact absurd rfl h
  |cons y b=>rfl
 |cons x a ih=>
  cases b with
  |nil=>rfl
  |cons y b=>
   unfold sameL;rw [ih b (by simpa using h)];simp
theorem same_drop (a b:List S36) (sp:Bool) (k:Nat) (ha:k<a.length) (hb:k<b.length):sameL (a.drop k) (b.drop k) sp=(tokE sp (rd_T36 a k) (rd_T36 b k)&&sameL (a.drop (k+1)) (b.drop (k+1)) sp):=by
 rw [List.drop_eq_getElem_cons ha,List.drop_eq_getElem_cons hb];rw [sameL];unfold rd_T36;simp [List.getD_eq_getElem?_getD,List.getElem?_eq_getElem ha,List.getElem?_eq_getElem hb]
set_option maxRecDepth 100000 in
set_option maxHeartbeats 4000000 in
theorem same_walk (A0:Option Addr) (c0:Nat) (l0:List S36) (A1:Option Addr) (c1:Nat) (l1:List S36) (sp:Bool) (n:Nat) (w:World) (h0:l0.length=n) (h1:l1.length=n) (hn:n≤9223372036854775807)
 (hr0:Kd.C k36 w A0 n l0) (hc0:n≤c0) (hr1:Kd.C k36 w A1 n l1) (hc1:n≤c1):
 Calls Tryd.prog 12 #[.slice A0 n c0,.slice A1 n c1,.bool sp] w fun e w'=>e= .returned (.bool (sameL l0 l1 sp))∧Below w.heap.size w w':=by
 have H0:=Aside0.mk hr0;have H1:=Aside0.mk hr1;have HL0:=Aside0.mk h0;have HL1:=Aside0.mk h1;clear hr0 hr1 h0 h1 hc0 hc1;generalize hR:sameL l0 l1 sp=R;have HR:=Aside0.mk hR;clear hR;go_enter Tryd.func12,Tryd.ntmps12;go_wp2
 go_loopw [7] (fun v wr=> ∃k:Nat,v= .int .i64 k∧k≤n∧Aside0 (sameL (l0.drop k) (l1.drop k) sp=R)∧Aside0 (Below w.heap.size w wr)) (fun v _=>n-(intOf v).toNat)
 case atStart=>exact ⟨0,rfl,Nat.zero_le _,HR,⟨Below.refl _ _⟩⟩
 case round=>
  obtain ⟨k,rfl,hk,HS,HB⟩:=hrel;by_cases hlt:k<n
  · have hkI:(k:Int)<n:=by omega
    obtain ⟨ad0,e0,x0,x1,x2,x3,x4⟩:=at_T36 (Kd.C_below H0.out HB.out) (k:Int) (by omega) hkI;obtain ⟨ad1,e1,y0,y1,y2,y3,y4⟩:=at_T36 (Kd.C_below H1.out HB.out) (k:Int) (by omega) hkI;have hd:=same_drop l0 l1 sp k (by rw [HL0.out];exact hlt) (by rw [HL1.out];exact hlt);subst e0 e1;rw [hd] at HS;clear hd;generalize rd_T36 l0 (k:Int)=x at *; generalize rd_T36 l1 (k:Int)=y at *; simp only [Int.toNat_natCast] at x0 x1 x2 x3 x4 y0 y1 y2 y3 y4;have q0:(ad0.add (k*5)).block<wr.heap.size:=World.block_lt_of_cell? wr _ x0
    have q1:(ad0.add (k*5)).block<wr.heap.size+1:=by omega
    have q2:(ad1.add (k*5)).block<wr.heap.size:=World.block_lt_of_cell? wr _ y0
    have q3:(ad1.add (k*5)).block<wr.heap.size+1:=by omega
    go_upto_region 6 with fail
    go_cut [8,9] from 15 to 37 (fun v8 v9 wx=> ∃p q:Nat,v8= .pointer (some ⟨p,0,none⟩)∧v9= .pointer (some ⟨q,0,none⟩)∧p≠q∧wr.heap.size≤p∧wr.heap.size≤q∧Below wr.heap.size wr wx∧
        wx.heap[p]? =some (.cells #[.int .i64 x.f0,.int .i64 x.f1.f0,.int .i64 x.f1.f1,.int .i64 x.f2,.string x.f3] 36 (0,0))∧wx.heap[q]? =some (.cells #[.int .i64 y.f0,.int .i64 y.f1.f0,.int .i64 y.f1.f1,.int .i64 y.f2,.string y.f3] 36 (0,0)))
    case first=>
        go_region
        all_goals (go_wp2_with fail;go_meet)
        all_goals case rel=>
         have n2:=fun (a b:Obj)=>new_2 wr a b
         refine ⟨_,_,rfl,rfl,by omega,by omega,by omega,below_drew (below_alloc (below_alloc (Below.refl _ _) _) _),?_,?_⟩
         all_goals first
          |exact (n2 _ _).1
          |exact (n2 _ _).2
    case rest=>
        obtain ⟨p,q,rfl,rfl,hpq,hp,hq,hbc,ep,eq⟩:=hcut;have hne:(p==q)=false:=beq_eq_false_iff_ne.mpr hpq
        have hne2: ¬q=p:=fun h=>hpq h.symm
        cases sp
        · skip
          have p0:=(blk_cell ep 0).trans rfl;have p1:=(blk_cell ep 1).trans rfl;have p2:=(blk_cell ep 2).trans rfl;have p3:=(blk_cell ep 3).trans rfl;have p4:=(blk_cell ep 4).trans rfl;have r0:=(blk_cell eq 0).trans rfl;have r1:=(blk_cell eq 1).trans rfl;have r2:=(blk_cell eq 2).trans rfl;have r3:=(blk_cell eq 3).trans rfl;have r4:=(blk_cell eq 4).trans rfl;have f1:=blk_frozen ep 1;have f2:=blk_frozen ep 2;have g1:=blk_frozen eq 1;have g2:=blk_frozen eq 2;clear x0 x1 x2 x3 x4 y0 y1 y2 y3 y4 ep eq q0 q1 q2 q3;have hBW:=HB.out.size
          go_wp2_with fail
          all_goals first
           |(go_ret
             have hE:tokE false x y=false:=by unfold tokE;simp [*]
             rw [hE] at HS;refine ⟨by rw [HS.out.symm.trans (Bool.false_and _)];rfl,?_⟩
             (repeat (with_reducible first|exact below_step HB.out hbc|apply below_set))<;>omega)
           |(go_roundw
             case rel=>
              have hE:tokE false x y=true:=by unfold tokE;simp [*]
              rw [hE,Bool.true_and] at HS;refine ⟨k+1,by go_num,by omega,HS,⟨?_⟩⟩
              (repeat (with_reducible first|exact below_step HB.out hbc|apply below_set))<;>omega
             case measure=>simp [intOf];omega)
        · skip
          have p0:=(blk_cell ep 0).trans rfl;have p1:=(blk_cell ep 1).trans rfl;have p2:=(blk_cell ep 2).trans rfl;have p3:=(blk_cell ep 3).trans rfl;have p4:=(blk_cell ep 4).trans rfl;have r0:=(blk_cell eq 0).trans rfl;have r1:=(blk_cell eq 1).trans rfl;have r2:=(blk_cell eq 2).trans rfl;have r3:=(blk_cell eq 3).trans rfl;have r4:=(blk_cell eq 4).trans rfl;have f1:=blk_frozen ep 1;have f2:=blk_frozen ep 2;have g1:=blk_frozen eq 1;have g2:=blk_frozen eq 2;clear x0 x1 x2 x3 x4 y0 y1 y2 y3 y4 ep eq q0 q1 q2 q3;have hBW:=HB.out.size
          go_wp2_with fail
          all_goals first
           |(go_ret
             have hE:tokE true x y=false:=by unfold tokE;simp [*]
             rw [hE] at HS;refine ⟨by rw [HS.out.symm.trans (Bool.false_and _)];rfl,?_⟩
             (repeat (with_reducible first|exact below_step HB.out hbc|apply below_set))<;>omega)
           |(go_roundw
             case rel=>
              have hE:tokE true x y=true:=by unfold tokE;simp [*]
              rw [hE,Bool.true_and] at HS;refine ⟨k+1,by go_num,by omega,HS,⟨?_⟩⟩
              (repeat (with_reducible first|exact below_step HB.out hbc|apply below_set))<;>omega
             case measure=>simp [intOf];omega)
  · obtain rfl:k=n:=by omega
    have e:R=true:=by
        rw [←HS.out,List.drop_eq_nil_of_le (by rw [HL0.out];omega),List.drop_eq_nil_of_le (by rw [HL1.out];omega)];rfl
    subst e;go_wp2;go_ret;exact ⟨rfl,HB.out⟩
set_option maxRecDepth 100000 in
theorem same_no (A0:Option Addr) (c0 n m:Nat) (A1:Option Addr) (c1:Nat) (sp:Bool) (w:World) (h:n≠m):
 Calls Tryd.prog 12 #[.slice A0 n c0,.slice A1 m c1,.bool sp] w fun e w'=>e= .returned (.bool false)∧w=w':=by
 have h1:((n:Int) != (m:Int))=true:=bne_iff_ne.mpr (by omega);have h2:((n:Int)==(m:Int))=false:=beq_eq_false_iff_ne.mpr (by omega);clear h;go_enter Tryd.func12,Tryd.ntmps12;go_wp2;go_ret;exact ⟨rfl,rfl⟩
def mummerref05_Same.f (l0:List (S36)) (l1:List (S36)) (a2:Bool):Option (Bool):=if l0.length≤1000000 then some (sameL l0 l1 a2) else none
theorem mummerref05_Same.calls (A0:Option Addr) (c0:Nat) (l0:List (S36)) (A1:Option Addr) (c1:Nat) (l1:List (S36)) (a2:Bool) (r:Bool) (w:World) (hr0:Kd.C k36 w A0 l0.length l0) (hc0:l0.length≤c0) (hr1:Kd.C k36 w A1 l1.length l1) (hc1:l1.length≤c1) (h:mummerref05_Same.f l0 l1 a2=some r):
 Calls Tryd.prog 12 #[.slice A0 l0.length c0,.slice A1 l1.length c1,.bool a2] w fun e w'=>e= .returned (.bool r)∧Below w.heap.size w w':=by
 unfold mummerref05_Same.f at h;by_cases c:l0.length≤1000000
 · rw [if_pos c] at h;obtain rfl:=Option.some.inj h;by_cases e:l0.length=l1.length
   · have:=same_walk A0 c0 l0 A1 c1 l1 a2 l0.length w rfl e.symm (by omega) hr0 hc0 (by rw [e];exact hr1) (by omega);rw [←e];exact this
   · rw [same_len l0 l1 a2 e];refine (same_no A0 c0 _ _ A1 c1 a2 w e).mono ?_;rintro x w' ⟨rfl,rfl⟩;exact ⟨rfl,Below.refl _ _⟩
 · rw [if_neg c] at h;cases h
end Go.Proofs.YtdffphkbidfejaaDoor.Q
end
