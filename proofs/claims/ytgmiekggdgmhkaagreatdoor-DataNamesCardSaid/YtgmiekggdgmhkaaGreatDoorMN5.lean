import Derived.ArgAppend
import Derived.Below
import Derived.BigQuiet
import Derived.Deep.AppendLies
import Derived.Deep.CutBlock
import Derived.Deep.DeepCutAuto
import Derived.Deep.Draws
import Derived.Deep.LoopGhost
import Derived.Deep.OwnRows
import Derived.Deep.QuietTactic
import Derived.Deep.RegionHeld3
import Derived.KernelRfl
import Derived.Laws.BitsLemmas
import Derived.Laws.BytesArg
import Derived.Laws.IdiomCopy
import Derived.Laws.MakeOwn
import Derived.Laws.OwnMore
import Derived.Laws.Rows
import Derived.Laws.Slices
import Derived.Lib.AppendStr
import Derived.Lib.ConvBytes
import Derived.Maps.AppendAt
import Derived.OrdersHeld
import Derived.OwnWalk
import Derived.RowKit
import Derived.RowKit3
import Derived.Tactics
import Derived.Test.YtgmiekggdgmhkaaGreatDoorProg
import Derived.WalkKit
import Derived.WideLaws
import Derived.Test.YtgmiekggdgmhkaaGreatDoorMN0
import Derived.Test.YtgmiekggdgmhkaaGreatDoorMN2
import Derived.Test.YtgmiekggdgmhkaaGreatDoorMN3
import Derived.Test.YtgmiekggdgmhkaaGreatDoorMN4
section
namespace Go.Proofs.YtgmiekggdgmhkaaGreatDoor.Q
open Go.RowKit Go.Proofs.YtgmiekggdgmhkaaGreatDoorW.PrintWords Go.Proofs.YtgmiekggdgmhkaaGreatDoorW.PrintLast Go.Proofs.YtgmiekggdgmhkaaGreatDoorW.PrintMore
attribute [local go_sem] max2_int min2_int max_two min_two max_three min_three max_four min_four
set_option linter.unusedVariables false
set_option linter.unusedSimpArgs false
def errW:Option Int→Value
 |none=> .nilIface
 |some c=> .iface 0 (.int .i64 c)
theorem errW_none:errW none= .nilIface:=rfl
theorem errW_some (c:Int):errW (some c)= .iface 0 (.int .i64 c):=rfl
theorem info3:(Tryz.prog.info? 3).map (fun i=>(i.zero,i.size,i.bytes))=some (some (.int .i64 0),1,8):=by kernel_rfl
theorem info9:(Tryz.prog.info? 9).map (fun i=>(i.zero,i.size,i.bytes))=some (some (.string ⟨#[]⟩),1,16):=by kernel_rfl
theorem info40:(Tryz.prog.info? 40).map (fun i=>(i.zero,i.size,i.bytes))=some (some (.agg #[(.int .i64 0),(.int .i64 0),(.int .i64 0),(.string ⟨#[]⟩)]),4,40):=by kernel_rfl
structure S40 where
 f0:Int
 f1:Int
 f2:Int
 f3:ByteArray
def z40:S40:=⟨(0:Int),(0:Int),(0:Int),(⟨#[]⟩:ByteArray)⟩
def k40:Kd S40:=Kd.iso (Kd.pair (Kd.int .i64) (Kd.pair (Kd.int .i64) (Kd.pair (Kd.int .i64) Kd.string))) (fun x:S40=>(x.f0,x.f1,x.f2,x.f3))
theorem k40_heap:Kd.Heap k40:=Kd.heap_iso _ (Kd.heap_pair (Kd.heap_int .i64) (Kd.heap_pair (Kd.heap_int .i64) (Kd.heap_pair (Kd.heap_int .i64) Kd.heap_string)))
theorem k40_open {w:World} {x:S40} {cs:List Value} (h:k40.K w x cs):cs=[.int .i64 x.f0,.int .i64 x.f1,.int .i64 x.f2,.string x.f3]:=by
 obtain ⟨_,_,rfl,rfl,⟨_,_,rfl,rfl,⟨_,_,rfl,rfl,rfl⟩⟩⟩:=h;exact rfl
theorem k40_openM {w:World} {base:Nat} {ok:Nat→Prop} {x:S40} {cs:List Value} (h:k40.M w base ok x cs):cs=[.int .i64 x.f0,.int .i64 x.f1,.int .i64 x.f2,.string x.f3]:=by
 obtain ⟨_,_,rfl,rfl,⟨_,_,rfl,rfl,⟨_,_,rfl,rfl,rfl⟩⟩⟩:=h;exact rfl
theorem k40_mkM (w:World) (base:Nat) (ok:Nat→Prop) (x:S40)  :k40.M w base ok x [.int .i64 x.f0,.int .i64 x.f1,.int .i64 x.f2,.string x.f3]:=⟨[.int .i64 x.f0],[.int .i64 x.f1,.int .i64 x.f2,.string x.f3],rfl,rfl,⟨[.int .i64 x.f1],[.int .i64 x.f2,.string x.f3],rfl,rfl,⟨[.int .i64 x.f2],[.string x.f3],rfl,rfl,rfl⟩⟩⟩
def rd_T40 (xs:List S40) (i:Int):S40:=xs.getD i.toNat z40
theorem at_T40 {w:World} {A:Option Addr} {n:Nat} {xs:List S40} (h:Kd.C k40 w A n xs) (i:Int) (h0:0≤i) (h1:i<n): ∃ad ,A=some ad∧w.cell? (ad.add (i.toNat*4))=some (.int .i64 (rd_T40 xs i).f0)∧w.cell? ⟨(ad.add (i.toNat*4)).block,(ad.add (i.toNat*4)).off+1,none⟩=some (.int .i64 (rd_T40 xs i).f1)∧w.cell? ⟨(ad.add (i.toNat*4)).block,(ad.add (i.toNat*4)).off+2,none⟩=some (.int .i64 (rd_T40 xs i).f2)∧w.cell? ⟨(ad.add (i.toNat*4)).block,(ad.add (i.toNat*4)).off+3,none⟩=some (.string (rd_T40 xs i).f3):=by
 obtain ⟨ad,c,e,_,hK,hc0⟩:=Kd.C_get h z40 i h0 h1;have hc: ∀j u,c[j]? =some u→w.cell? (ad.add (i.toNat*4+j))=some u:=hc0;obtain rfl:=k40_open hK;exact ⟨ad,e,hc 0 _ rfl,by rw [←add_field _ _ 1 (by omega)];exact hc 1 _ rfl,by rw [←add_field _ _ 2 (by omega)];exact hc 2 _ rfl,by rw [←add_field _ _ 3 (by omega)];exact hc 3 _ rfl⟩
end Go.Proofs.YtgmiekggdgmhkaaGreatDoor.Q
end
section
namespace Go.Proofs.YtgmiekggdgmhkaaGreatDoor.U
open Go.RowKit Go.Proofs.YtgmiekggdgmhkaaGreatDoorW.PrintWords Go.Proofs.YtgmiekggdgmhkaaGreatDoorW.PrintLast Go.Proofs.YtgmiekggdgmhkaaGreatDoorW.PrintMore
attribute [local go_sem] max2_int min2_int max_two min_two max_three min_three max_four min_four
set_option linter.unusedVariables false
set_option linter.unusedSimpArgs false
def errW:Option Int→Value
 |none=> .nilIface
 |some c=> .iface 0 (.int .i64 c)
theorem errW_none:errW none= .nilIface:=rfl
theorem errW_some (c:Int):errW (some c)= .iface 0 (.int .i64 c):=rfl
def data_place_string.l0:Nat→ByteArray→List ByteArray→Int→Int→Option (Int)
 |0,_,_,_,_=>none
 |k+1,x1,x7,x8,x9=>if x9<x8 then (if 0≤x9 then (if x9<(x7.length:Int) then (if x1.toList=(rdOf ByteArray.empty x7 x9).toList then (some x9) else (data_place_string.l0 k x1 x7 x8 (wrap64 (x9+1)))) else (none)) else (none)) else (some (-1))
def data_place_string.f (k:Nat) (l0:List ByteArray) (a1:ByteArray):Option (Int):=data_place_string.l0 k a1 l0 (l0.length:Int) 0
set_option maxHeartbeats 8000000 in
set_option maxRecDepth 100000 in
theorem data_place_string.calls (k:Nat) (A0:Option Addr) (c0:Nat) (l0:List ByteArray) (a1:ByteArray) (r:Int) (w:World) (hr0:Kd.C Kd.string w A0 l0.length l0) (hc0:l0.length≤c0) (h:data_place_string.f k l0 a1=some r):
 Calls Tryz.prog 32 #[.slice A0 l0.length c0,.string a1] w fun e w'=>e= .returned (.int .i64 r)∧Drawn0 w w':=by
 have HR0:=Aside0.mk hr0;have HC0:=Aside0.mk hc0;clear hr0 hc0;have H:(data_place_string.l0 k a1 l0 (l0.length:Int) 0)=some r:=h;clear h;have H':=Aside0.mk H;clear H;go_enter Tryz.func32,Tryz.ntmps32;go_wp2
 go_loopg [9] k (fun kq v9 w'=> ∃(x9_1:Int),v9= .int .i64 x9_1∧Aside0 (data_place_string.l0 kq a1 l0 (l0.length:Int) x9_1=some r)∧Aside0 (kq≤k)∧Drawn0 w w')
 case atStart=>exact ⟨(0),(by first|rfl|(simp;done)|(simp [*];done)),H',⟨Nat.le_refl _⟩,by repeat (first|exact Drawn0.refl _|apply Drawn0.step)⟩
 case round=>
  clear H'
  try clear p2
  obtain ⟨x9_1,rfl,HA,HK1,⟨m1,rfl⟩⟩:=hrel
  cases gk with
  |zero=>exact absurd HA.out (by simp [data_place_string.l0])
  |succ k1=>
   have H:=HA.out;clear HA;simp only [data_place_string.l0] at H;by_cases c3:x9_1<(l0.length:Int)
   · rw [if_pos c3] at H;have c3b0:decide (x9_1<(l0.length:Int))=true:=decide_eq_true c3;clear c3;by_cases c4:0≤x9_1
     · rw [if_pos c4] at H;have c4b0:decide (0≤x9_1)=true:=decide_eq_true c4;clear c4;by_cases c5:x9_1<(l0.length:Int)
       · rw [if_pos c5] at H;have c5b0:decide (x9_1<(l0.length:Int))=true:=decide_eq_true c5;clear c5;by_cases c6:a1.toList=(rdOf ByteArray.empty l0 x9_1).toList
         · rw [if_pos c6] at H;have c6b0:(a1.toList==(rdOf ByteArray.empty l0 x9_1).toList)=true:=beq_iff_eq.mpr c6;have c6b1:(a1.toList != (rdOf ByteArray.empty l0 x9_1).toList)=false:=bne_eq_false_iff_eq.mpr c6;clear c6;obtain rfl:=Option.some.inj H;have p108:0≤(x9_1:Int):=of_decide_eq_true (by first|(with_reducible assumption)|assumption);have q108:x9_1<(l0.length:Int):=of_decide_eq_true (by first|(with_reducible assumption)|assumption);obtain ⟨ad108,e108,hx108_0⟩:=Kd.at_string HR0.out x9_1 p108 q108;cases e108;replace p108:=eq_true p108;replace q108:=eq_true q108;go_wp2;go_ret;exact ⟨by first|rfl|(simp;done)|(simp [*];done),by repeat (first|exact Drawn0.refl _|apply Drawn0.step)⟩
         · rw [if_neg c6] at H;have c6b0:(a1.toList==(rdOf ByteArray.empty l0 x9_1).toList)=false:=beq_eq_false_iff_ne.mpr c6;have c6b1:(a1.toList != (rdOf ByteArray.empty l0 x9_1).toList)=true:=bne_iff_ne.mpr c6;have H':=Aside0.mk H;clear H;have p108:0≤(x9_1:Int):=of_decide_eq_true (by first|(with_reducible assumption)|assumption);have q108:x9_1<(l0.length:Int):=of_decide_eq_true (by first|(with_reducible assumption)|assumption);obtain ⟨ad108,e108,hx108_0⟩:=Kd.at_string HR0.out x9_1 p108 q108;cases e108;replace p108:=eq_true p108;replace q108:=eq_true q108;go_wp2;go_roundg k1
           case measure=>have:=HK1.out;omega
           case rel=>exact ⟨(wrap64 (x9_1+1)),(by first|rfl|(simp;done)|(simp [*];done)),H',⟨by have:=HK1.out;omega⟩,by repeat (first|exact Drawn0.refl _|apply Drawn0.step)⟩
       · rw [if_neg c5] at H;exact absurd H (by simp)
     · rw [if_neg c4] at H;exact absurd H (by simp)
   · rw [if_neg c3] at H;have c3b0:decide (x9_1<(l0.length:Int))=false:=decide_eq_false c3;clear c3;obtain rfl:=Option.some.inj H;go_wp2;go_ret;exact ⟨by first|rfl|(simp;done)|(simp [*];done),by repeat (first|exact Drawn0.refl _|apply Drawn0.step)⟩
end Go.Proofs.YtgmiekggdgmhkaaGreatDoor.U
end
section
namespace Go.Proofs.YtgmiekggdgmhkaaGreatDoor.Q
open Go.RowKit Go.Proofs.YtgmiekggdgmhkaaGreatDoorW.PrintWords Go.Proofs.YtgmiekggdgmhkaaGreatDoorW.PrintLast Go.Proofs.YtgmiekggdgmhkaaGreatDoorW.PrintMore
attribute [local go_sem] max2_int min2_int max_two min_two max_three min_three max_four min_four
set_option linter.unusedVariables false
set_option linter.unusedSimpArgs false
theorem eqA40 (d:Nat) (w:World) (x0 y0:Int) (x1 y1:Int) (x2 y2:Int) (x3 y3:ByteArray):
 (Op.equalIn (d+2) 40 (.agg #[.int .i64 x0,.int .i64 x1,.int .i64 x2,.string x3]) (.agg #[.int .i64 y0,.int .i64 y1,.int .i64 y2,.string y3])).run Tryz.prog w= .ok (x0==y0&&(x1==y1&&(x2==y2&&(x3.toList==y3.toList)))) w:=by
 refine eqA_of Tryz.underlying40 (by kernel_rfl) ?_;refine eqf_cons (by rfl) (by go_simp;rfl) (by go_simp;rfl) (by go_simp) ?_;refine eqf_cons (by rfl) (by go_simp;rfl) (by go_simp;rfl) (by go_simp) ?_;refine eqf_cons (by rfl) (by go_simp;rfl) (by go_simp;rfl) (by go_simp) ?_;exact eqf_last (by rfl) (by go_simp;rfl) (by go_simp;rfl) (by go_simp)
def mummerref04_form.f (a0_0:Int) (a0_1:Int) (a0_2:Int) (a0_3:ByteArray):Option (Int):=if a0_0<1 then (some 6) else (if a0_0>4 then (some 6) else (if a0_1<0 then (some 6) else (if a0_0=4 then (if a0_0=1 then (if a0_0=3 then (some 0) else (if a0_3.toList=([]:List UInt8) then (some 0) else (some 6))) else (if a0_0=2 then (if a0_0=3 then (some 0) else (if a0_3.toList=([]:List UInt8) then (some 0) else (some 6))) else (if a0_2=0 then (if a0_0=3 then (some 0) else (if a0_3.toList=([]:List UInt8) then (some 0) else (some 6))) else (some 6)))) else (if a0_1=0 then (if a0_0=1 then (if a0_0=3 then (some 0) else (if a0_3.toList=([]:List UInt8) then (some 0) else (some 6))) else (if a0_0=2 then (if a0_0=3 then (some 0) else (if a0_3.toList=([]:List UInt8) then (some 0) else (some 6))) else (if a0_2=0 then (if a0_0=3 then (some 0) else (if a0_3.toList=([]:List UInt8) then (some 0) else (some 6))) else (some 6)))) else (some 6)))))
set_option maxHeartbeats 8000000 in
set_option maxRecDepth 100000 in
theorem mummerref04_form.calls (a0_0:Int) (a0_1:Int) (a0_2:Int) (a0_3:ByteArray) (r:Int) (w:World) (h:mummerref04_form.f a0_0 a0_1 a0_2 a0_3=some r):
 Calls Tryz.prog 56 #[.agg #[.int .i64 a0_0,.int .i64 a0_1,.int .i64 a0_2,.string a0_3]] w fun e w'=>e= .returned (.int .i64 r)∧Below w.heap.size w w':=by
 have hu40:=Tryz.underlying40;have HB:=Aside0.mk (Below.refl w.heap.size w);have H:(if a0_0<1 then (some 6) else (if a0_0>4 then (some 6) else (if a0_1<0 then (some 6) else (if a0_0=4 then (if a0_0=1 then (if a0_0=3 then (some 0) else (if a0_3.toList=([]:List UInt8) then (some 0) else (some 6))) else (if a0_0=2 then (if a0_0=3 then (some 0) else (if a0_3.toList=([]:List UInt8) then (some 0) else (some 6))) else (if a0_2=0 then (if a0_0=3 then (some 0) else (if a0_3.toList=([]:List UInt8) then (some 0) else (some 6))) else (some 6)))) else (if a0_1=0 then (if a0_0=1 then (if a0_0=3 then (some 0) else (if a0_3.toList=([]:List UInt8) then (some 0) else (some 6))) else (if a0_0=2 then (if a0_0=3 then (some 0) else (if a0_3.toList=([]:List UInt8) then (some 0) else (some 6))) else (if a0_2=0 then (if a0_0=3 then (some 0) else (if a0_3.toList=([]:List UInt8) then (some 0) else (some 6))) else (some 6)))) else (some 6))))))=some r:=h;clear h;by_cases c2:a0_0<1
 · rw [if_pos c2] at H;have c2b0:decide (a0_0<1)=true:=decide_eq_true c2;clear c2;obtain rfl:=Option.some.inj H;go_enter Tryz.func56,Tryz.ntmps56
   go_wp2_with (first|((with_reducible refine gate_dst (N:=1) rfl ?_);refine box_event ?hg (N:=1) ?hd (cs:= #[.int .i64 a0_0,.int .i64 a0_1,.int .i64 a0_2,.string a0_3]) (t:=40) ?hr ?_;(case hd=>rfl);(case hg=>rfl);(case hr=>first|(go_simp;done)|(go_simp;rfl));intro gb221 hg w3 hbox hb;have n0_:=Aside0.mk (below_step (by repeat (first|(with_reducible first|exact HB.out|apply below_alloc|apply pw_below_drewN|apply below_drew1)|exact HB.out)) hb);have n1_:=Aside0.mk (hbox);have n2_:=Aside0.mk ((by rw [hg];exact (below_size (by repeat (first|(with_reducible first|exact HB.out|apply below_alloc|apply pw_below_drewN|apply below_drew1)|exact HB.out))):w.heap.size≤gb221));have n3_:=Aside0.mk ((by rw [hg];exact (below_size (by repeat (first|(with_reducible first|exact HB.out|apply below_alloc|apply pw_below_drewN|apply below_drew1)|exact HB.out))):w.heap.size≤gb221));clear HB;have HB:=n0_;have BK221:=n1_;have GW221:=n2_;have GE221:=n3_;clear n0_ n1_ n2_ n3_;clear hb hbox hg;have hcz4_0:w3.cell? ⟨gb221,0,none⟩=some (.int .i64 a0_0):=(blk_cell BK221.out 0).trans rfl;have hcz4_1:w3.cell? ⟨gb221,1,none⟩=some (.int .i64 a0_1):=(blk_cell BK221.out 1).trans rfl;have hcz4_2:w3.cell? ⟨gb221,2,none⟩=some (.int .i64 a0_2):=(blk_cell BK221.out 2).trans rfl;have hcz4_3:w3.cell? ⟨gb221,3,none⟩=some (.string a0_3):=(blk_cell BK221.out 3).trans rfl;have hfz4_0:=blk_frozen BK221.out 0;have hfz4_1:=blk_frozen BK221.out 1;have hfz4_2:=blk_frozen BK221.out 2;have hfz4_3:=blk_frozen BK221.out 3))
   go_ret;exact ⟨by first|rfl|(simp [errW_none,errW_some]<;>rfl)|(simp [*, errW_none,errW_some]<;>rfl),by repeat (first|(with_reducible first|exact HB.out|apply below_alloc|apply pw_below_drewN|apply below_drew1|refine below_set ?_ GE221.out)|exact HB.out)⟩
 · rw [if_neg c2] at H;have c2b0:decide (a0_0<1)=false:=decide_eq_false c2;clear c2;by_cases c5:a0_0>4
   · rw [if_pos c5] at H;have c5b0:decide (4<a0_0)=true:=decide_eq_true c5;clear c5;obtain rfl:=Option.some.inj H;go_enter Tryz.func56,Tryz.ntmps56
     go_wp2_with (first|((with_reducible refine gate_dst (N:=1) rfl ?_);refine box_event ?hg (N:=1) ?hd (cs:= #[.int .i64 a0_0,.int .i64 a0_1,.int .i64 a0_2,.string a0_3]) (t:=40) ?hr ?_;(case hd=>rfl);(case hg=>rfl);(case hr=>first|(go_simp;done)|(go_simp;rfl));intro gb221 hg w6 hbox hb;have n0_:=Aside0.mk (below_step (by repeat (first|(with_reducible first|exact HB.out|apply below_alloc|apply pw_below_drewN|apply below_drew1)|exact HB.out)) hb);have n1_:=Aside0.mk (hbox);have n2_:=Aside0.mk ((by rw [hg];exact (below_size (by repeat (first|(with_reducible first|exact HB.out|apply below_alloc|apply pw_below_drewN|apply below_drew1)|exact HB.out))):w.heap.size≤gb221));have n3_:=Aside0.mk ((by rw [hg];exact (below_size (by repeat (first|(with_reducible first|exact HB.out|apply below_alloc|apply pw_below_drewN|apply below_drew1)|exact HB.out))):w.heap.size≤gb221));clear HB;have HB:=n0_;have BK221:=n1_;have GW221:=n2_;have GE221:=n3_;clear n0_ n1_ n2_ n3_;clear hb hbox hg;have hcz7_0:w6.cell? ⟨gb221,0,none⟩=some (.int .i64 a0_0):=(blk_cell BK221.out 0).trans rfl;have hcz7_1:w6.cell? ⟨gb221,1,none⟩=some (.int .i64 a0_1):=(blk_cell BK221.out 1).trans rfl;have hcz7_2:w6.cell? ⟨gb221,2,none⟩=some (.int .i64 a0_2):=(blk_cell BK221.out 2).trans rfl;have hcz7_3:w6.cell? ⟨gb221,3,none⟩=some (.string a0_3):=(blk_cell BK221.out 3).trans rfl;have hfz7_0:=blk_frozen BK221.out 0;have hfz7_1:=blk_frozen BK221.out 1;have hfz7_2:=blk_frozen BK221.out 2;have hfz7_3:=blk_frozen BK221.out 3))
     go_ret;exact ⟨by first|rfl|(simp [errW_none,errW_some]<;>rfl)|(simp [*, errW_none,errW_some]<;>rfl),by repeat (first|(with_reducible first|exact HB.out|apply below_alloc|apply pw_below_drewN|apply below_drew1|refine below_set ?_ GE221.out)|exact HB.out)⟩
   · rw [if_neg c5] at H;have c5b0:decide (4<a0_0)=false:=decide_eq_false c5;clear c5;by_cases c8:a0_1<0
     · rw [if_pos c8] at H;have c8b0:decide (a0_1<0)=true:=decide_eq_true c8;clear c8;obtain rfl:=Option.some.inj H;go_enter Tryz.func56,Tryz.ntmps56
       go_wp2_with (first|((with_reducible refine gate_dst (N:=1) rfl ?_);refine box_event ?hg (N:=1) ?hd (cs:= #[.int .i64 a0_0,.int .i64 a0_1,.int .i64 a0_2,.string a0_3]) (t:=40) ?hr ?_;(case hd=>rfl);(case hg=>rfl);(case hr=>first|(go_simp;done)|(go_simp;rfl));intro gb221 hg w9 hbox hb;have n0_:=Aside0.mk (below_step (by repeat (first|(with_reducible first|exact HB.out|apply below_alloc|apply pw_below_drewN|apply below_drew1)|exact HB.out)) hb);have n1_:=Aside0.mk (hbox);have n2_:=Aside0.mk ((by rw [hg];exact (below_size (by repeat (first|(with_reducible first|exact HB.out|apply below_alloc|apply pw_below_drewN|apply below_drew1)|exact HB.out))):w.heap.size≤gb221));have n3_:=Aside0.mk ((by rw [hg];exact (below_size (by repeat (first|(with_reducible first|exact HB.out|apply below_alloc|apply pw_below_drewN|apply below_drew1)|exact HB.out))):w.heap.size≤gb221));clear HB;have HB:=n0_;have BK221:=n1_;have GW221:=n2_;have GE221:=n3_;clear n0_ n1_ n2_ n3_;clear hb hbox hg;have hcz10_0:w9.cell? ⟨gb221,0,none⟩=some (.int .i64 a0_0):=(blk_cell BK221.out 0).trans rfl;have hcz10_1:w9.cell? ⟨gb221,1,none⟩=some (.int .i64 a0_1):=(blk_cell BK221.out 1).trans rfl;have hcz10_2:w9.cell? ⟨gb221,2,none⟩=some (.int .i64 a0_2):=(blk_cell BK221.out 2).trans rfl;have hcz10_3:w9.cell? ⟨gb221,3,none⟩=some (.string a0_3):=(blk_cell BK221.out 3).trans rfl;have hfz10_0:=blk_frozen BK221.out 0;have hfz10_1:=blk_frozen BK221.out 1;have hfz10_2:=blk_frozen BK221.out 2;have hfz10_3:=blk_frozen BK221.out 3))
       go_ret;exact ⟨by first|rfl|(simp [errW_none,errW_some]<;>rfl)|(simp [*, errW_none,errW_some]<;>rfl),by repeat (first|(with_reducible first|exact HB.out|apply below_alloc|apply pw_below_drewN|apply below_drew1|refine below_set ?_ GE221.out)|exact HB.out)⟩
     · rw [if_neg c8] at H;have c8b0:decide (a0_1<0)=false:=decide_eq_false c8;clear c8;by_cases c11:a0_0=4
       · rw [if_pos c11] at H;have c11b0:(a0_0==4)=true:=beq_iff_eq.mpr c11;have c11b1:(a0_0 != 4)=false:=bne_eq_false_iff_eq.mpr c11;clear c11;by_cases c12:a0_0=1
         · rw [if_pos c12] at H;have c12b0:(a0_0==1)=true:=beq_iff_eq.mpr c12;have c12b1:(a0_0 != 1)=false:=bne_eq_false_iff_eq.mpr c12;clear c12;by_cases c13:a0_0=3
           · rw [if_pos c13] at H;have c13b0:(a0_0==3)=true:=beq_iff_eq.mpr c13;have c13b1:(a0_0 != 3)=false:=bne_eq_false_iff_eq.mpr c13;clear c13;obtain rfl:=Option.some.inj H;go_enter Tryz.func56,Tryz.ntmps56
             go_wp2_with (first|((with_reducible refine gate_dst (N:=1) rfl ?_);refine box_event ?hg (N:=1) ?hd (cs:= #[.int .i64 a0_0,.int .i64 a0_1,.int .i64 a0_2,.string a0_3]) (t:=40) ?hr ?_;(case hd=>rfl);(case hg=>rfl);(case hr=>first|(go_simp;done)|(go_simp;rfl));intro gb221 hg w14 hbox hb;have n0_:=Aside0.mk (below_step (by repeat (first|(with_reducible first|exact HB.out|apply below_alloc|apply pw_below_drewN|apply below_drew1)|exact HB.out)) hb);have n1_:=Aside0.mk (hbox);have n2_:=Aside0.mk ((by rw [hg];exact (below_size (by repeat (first|(with_reducible first|exact HB.out|apply below_alloc|apply pw_below_drewN|apply below_drew1)|exact HB.out))):w.heap.size≤gb221));have n3_:=Aside0.mk ((by rw [hg];exact (below_size (by repeat (first|(with_reducible first|exact HB.out|apply below_alloc|apply pw_below_drewN|apply below_drew1)|exact HB.out))):w.heap.size≤gb221));clear HB;have HB:=n0_;have BK221:=n1_;have GW221:=n2_;have GE221:=n3_;clear n0_ n1_ n2_ n3_;clear hb hbox hg;have hcz15_0:w14.cell? ⟨gb221,0,none⟩=some (.int .i64 a0_0):=(blk_cell BK221.out 0).trans rfl;have hcz15_1:w14.cell? ⟨gb221,1,none⟩=some (.int .i64 a0_1):=(blk_cell BK221.out 1).trans rfl;have hcz15_2:w14.cell? ⟨gb221,2,none⟩=some (.int .i64 a0_2):=(blk_cell BK221.out 2).trans rfl;have hcz15_3:w14.cell? ⟨gb221,3,none⟩=some (.string a0_3):=(blk_cell BK221.out 3).trans rfl;have hfz15_0:=blk_frozen BK221.out 0;have hfz15_1:=blk_frozen BK221.out 1;have hfz15_2:=blk_frozen BK221.out 2;have hfz15_3:=blk_frozen BK221.out 3))
             go_ret;exact ⟨by first|rfl|(simp [errW_none,errW_some]<;>rfl)|(simp [*, errW_none,errW_some]<;>rfl),by repeat (first|(with_reducible first|exact HB.out|apply below_alloc|apply pw_below_drewN|apply below_drew1|refine below_set ?_ GE221.out)|exact HB.out)⟩
           · rw [if_neg c13] at H;have c13b0:(a0_0==3)=false:=beq_eq_false_iff_ne.mpr c13;have c13b1:(a0_0 != 3)=true:=bne_iff_ne.mpr c13
             by_cases c16:a0_3.toList=([]:List UInt8)
             · rw [if_pos c16] at H;have c16b0:(a0_3.toList==([]:List UInt8))=true:=beq_iff_eq.mpr c16;have c16b1:(a0_3.toList != ([]:List UInt8))=false:=bne_eq_false_iff_eq.mpr c16;clear c16;obtain rfl:=Option.some.inj H;go_enter Tryz.func56,Tryz.ntmps56
               go_wp2_with (first|((with_reducible refine gate_dst (N:=1) rfl ?_);refine box_event ?hg (N:=1) ?hd (cs:= #[.int .i64 a0_0,.int .i64 a0_1,.int .i64 a0_2,.string a0_3]) (t:=40) ?hr ?_;(case hd=>rfl);(case hg=>rfl);(case hr=>first|(go_simp;done)|(go_simp;rfl));intro gb221 hg w17 hbox hb;have n0_:=Aside0.mk (below_step (by repeat (first|(with_reducible first|exact HB.out|apply below_alloc|apply pw_below_drewN|apply below_drew1)|exact HB.out)) hb);have n1_:=Aside0.mk (hbox);have n2_:=Aside0.mk ((by rw [hg];exact (below_size (by repeat (first|(with_reducible first|exact HB.out|apply below_alloc|apply pw_below_drewN|apply below_drew1)|exact HB.out))):w.heap.size≤gb221));have n3_:=Aside0.mk ((by rw [hg];exact (below_size (by repeat (first|(with_reducible first|exact HB.out|apply below_alloc|apply pw_below_drewN|apply below_drew1)|exact HB.out))):w.heap.size≤gb221));clear HB;have HB:=n0_;have BK221:=n1_;have GW221:=n2_;have GE221:=n3_;clear n0_ n1_ n2_ n3_;clear hb hbox hg;have hcz18_0:w17.cell? ⟨gb221,0,none⟩=some (.int .i64 a0_0):=(blk_cell BK221.out 0).trans rfl;have hcz18_1:w17.cell? ⟨gb221,1,none⟩=some (.int .i64 a0_1):=(blk_cell BK221.out 1).trans rfl;have hcz18_2:w17.cell? ⟨gb221,2,none⟩=some (.int .i64 a0_2):=(blk_cell BK221.out 2).trans rfl;have hcz18_3:w17.cell? ⟨gb221,3,none⟩=some (.string a0_3):=(blk_cell BK221.out 3).trans rfl;have hfz18_0:=blk_frozen BK221.out 0;have hfz18_1:=blk_frozen BK221.out 1;have hfz18_2:=blk_frozen BK221.out 2;have hfz18_3:=blk_frozen BK221.out 3))
               go_ret;exact ⟨by first|rfl|(simp [errW_none,errW_some]<;>rfl)|(simp [*, errW_none,errW_some]<;>rfl),by repeat (first|(with_reducible first|exact HB.out|apply below_alloc|apply pw_below_drewN|apply below_drew1|refine below_set ?_ GE221.out)|exact HB.out)⟩
             · rw [if_neg c16] at H;have c16b0:(a0_3.toList==([]:List UInt8))=false:=beq_eq_false_iff_ne.mpr c16;have c16b1:(a0_3.toList != ([]:List UInt8))=true:=bne_iff_ne.mpr c16;obtain rfl:=Option.some.inj H;go_enter Tryz.func56,Tryz.ntmps56
               go_wp2_with (first|((with_reducible refine gate_dst (N:=1) rfl ?_);refine box_event ?hg (N:=1) ?hd (cs:= #[.int .i64 a0_0,.int .i64 a0_1,.int .i64 a0_2,.string a0_3]) (t:=40) ?hr ?_;(case hd=>rfl);(case hg=>rfl);(case hr=>first|(go_simp;done)|(go_simp;rfl));intro gb221 hg w19 hbox hb;have n0_:=Aside0.mk (below_step (by repeat (first|(with_reducible first|exact HB.out|apply below_alloc|apply pw_below_drewN|apply below_drew1)|exact HB.out)) hb);have n1_:=Aside0.mk (hbox);have n2_:=Aside0.mk ((by rw [hg];exact (below_size (by repeat (first|(with_reducible first|exact HB.out|apply below_alloc|apply pw_below_drewN|apply below_drew1)|exact HB.out))):w.heap.size≤gb221));have n3_:=Aside0.mk ((by rw [hg];exact (below_size (by repeat (first|(with_reducible first|exact HB.out|apply below_alloc|apply pw_below_drewN|apply below_drew1)|exact HB.out))):w.heap.size≤gb221));clear HB;have HB:=n0_;have BK221:=n1_;have GW221:=n2_;have GE221:=n3_;clear n0_ n1_ n2_ n3_;clear hb hbox hg;have hcz20_0:w19.cell? ⟨gb221,0,none⟩=some (.int .i64 a0_0):=(blk_cell BK221.out 0).trans rfl;have hcz20_1:w19.cell? ⟨gb221,1,none⟩=some (.int .i64 a0_1):=(blk_cell BK221.out 1).trans rfl;have hcz20_2:w19.cell? ⟨gb221,2,none⟩=some (.int .i64 a0_2):=(blk_cell BK221.out 2).trans rfl;have hcz20_3:w19.cell? ⟨gb221,3,none⟩=some (.string a0_3):=(blk_cell BK221.out 3).trans rfl;have hfz20_0:=blk_frozen BK221.out 0;have hfz20_1:=blk_frozen BK221.out 1;have hfz20_2:=blk_frozen BK221.out 2;have hfz20_3:=blk_frozen BK221.out 3))
               go_ret;exact ⟨by first|rfl|(simp [errW_none,errW_some]<;>rfl)|(simp [*, errW_none,errW_some]<;>rfl),by repeat (first|(with_reducible first|exact HB.out|apply below_alloc|apply pw_below_drewN|apply below_drew1|refine below_set ?_ GE221.out)|exact HB.out)⟩
         · rw [if_neg c12] at H;have c12b0:(a0_0==1)=false:=beq_eq_false_iff_ne.mpr c12;have c12b1:(a0_0 != 1)=true:=bne_iff_ne.mpr c12;by_cases c21:a0_0=2
           · rw [if_pos c21] at H;have c21b0:(a0_0==2)=true:=beq_iff_eq.mpr c21;have c21b1:(a0_0 != 2)=false:=bne_eq_false_iff_eq.mpr c21;clear c21;by_cases c22:a0_0=3
             · rw [if_pos c22] at H;have c22b0:(a0_0==3)=true:=beq_iff_eq.mpr c22;have c22b1:(a0_0 != 3)=false:=bne_eq_false_iff_eq.mpr c22;clear c22;obtain rfl:=Option.some.inj H;go_enter Tryz.func56,Tryz.ntmps56
               go_wp2_with (first|((with_reducible refine gate_dst (N:=1) rfl ?_);refine box_event ?hg (N:=1) ?hd (cs:= #[.int .i64 a0_0,.int .i64 a0_1,.int .i64 a0_2,.string a0_3]) (t:=40) ?hr ?_;(case hd=>rfl);(case hg=>rfl);(case hr=>first|(go_simp;done)|(go_simp;rfl));intro gb221 hg w23 hbox hb;have n0_:=Aside0.mk (below_step (by repeat (first|(with_reducible first|exact HB.out|apply below_alloc|apply pw_below_drewN|apply below_drew1)|exact HB.out)) hb);have n1_:=Aside0.mk (hbox);have n2_:=Aside0.mk ((by rw [hg];exact (below_size (by repeat (first|(with_reducible first|exact HB.out|apply below_alloc|apply pw_below_drewN|apply below_drew1)|exact HB.out))):w.heap.size≤gb221));have n3_:=Aside0.mk ((by rw [hg];exact (below_size (by repeat (first|(with_reducible first|exact HB.out|apply below_alloc|apply pw_below_drewN|apply below_drew1)|exact HB.out))):w.heap.size≤gb221));clear HB;have HB:=n0_;have BK221:=n1_;have GW221:=n2_;have GE221:=n3_;clear n0_ n1_ n2_ n3_;clear hb hbox hg;have hcz24_0:w23.cell? ⟨gb221,0,none⟩=some (.int .i64 a0_0):=(blk_cell BK221.out 0).trans rfl;have hcz24_1:w23.cell? ⟨gb221,1,none⟩=some (.int .i64 a0_1):=(blk_cell BK221.out 1).trans rfl;have hcz24_2:w23.cell? ⟨gb221,2,none⟩=some (.int .i64 a0_2):=(blk_cell BK221.out 2).trans rfl;have hcz24_3:w23.cell? ⟨gb221,3,none⟩=some (.string a0_3):=(blk_cell BK221.out 3).trans rfl;have hfz24_0:=blk_frozen BK221.out 0;have hfz24_1:=blk_frozen BK221.out 1;have hfz24_2:=blk_frozen BK221.out 2;have hfz24_3:=blk_frozen BK221.out 3))
               go_ret;exact ⟨by first|rfl|(simp [errW_none,errW_some]<;>rfl)|(simp [*, errW_none,errW_some]<;>rfl),by repeat (first|(with_reducible first|exact HB.out|apply below_alloc|apply pw_below_drewN|apply below_drew1|refine below_set ?_ GE221.out)|exact HB.out)⟩
             · rw [if_neg c22] at H;have c22b0:(a0_0==3)=false:=beq_eq_false_iff_ne.mpr c22;have c22b1:(a0_0 != 3)=true:=bne_iff_ne.mpr c22
               by_cases c25:a0_3.toList=([]:List UInt8)
               · rw [if_pos c25] at H;have c25b0:(a0_3.toList==([]:List UInt8))=true:=beq_iff_eq.mpr c25;have c25b1:(a0_3.toList != ([]:List UInt8))=false:=bne_eq_false_iff_eq.mpr c25;clear c25;obtain rfl:=Option.some.inj H;go_enter Tryz.func56,Tryz.ntmps56
                 go_wp2_with (first|((with_reducible refine gate_dst (N:=1) rfl ?_);refine box_event ?hg (N:=1) ?hd (cs:= #[.int .i64 a0_0,.int .i64 a0_1,.int .i64 a0_2,.string a0_3]) (t:=40) ?hr ?_;(case hd=>rfl);(case hg=>rfl);(case hr=>first|(go_simp;done)|(go_simp;rfl));intro gb221 hg w26 hbox hb;have n0_:=Aside0.mk (below_step (by repeat (first|(with_reducible first|exact HB.out|apply below_alloc|apply pw_below_drewN|apply below_drew1)|exact HB.out)) hb);have n1_:=Aside0.mk (hbox);have n2_:=Aside0.mk ((by rw [hg];exact (below_size (by repeat (first|(with_reducible first|exact HB.out|apply below_alloc|apply pw_below_drewN|apply below_drew1)|exact HB.out))):w.heap.size≤gb221));have n3_:=Aside0.mk ((by rw [hg];exact (below_size (by repeat (first|(with_reducible first|exact HB.out|apply below_alloc|apply pw_below_drewN|apply below_drew1)|exact HB.out))):w.heap.size≤gb221));clear HB;have HB:=n0_;have BK221:=n1_;have GW221:=n2_;have GE221:=n3_;clear n0_ n1_ n2_ n3_;clear hb hbox hg;have hcz27_0:w26.cell? ⟨gb221,0,none⟩=some (.int .i64 a0_0):=(blk_cell BK221.out 0).trans rfl;have hcz27_1:w26.cell? ⟨gb221,1,none⟩=some (.int .i64 a0_1):=(blk_cell BK221.out 1).trans rfl;have hcz27_2:w26.cell? ⟨gb221,2,none⟩=some (.int .i64 a0_2):=(blk_cell BK221.out 2).trans rfl;have hcz27_3:w26.cell? ⟨gb221,3,none⟩=some (.string a0_3):=(blk_cell BK221.out 3).trans rfl;have hfz27_0:=blk_frozen BK221.out 0;have hfz27_1:=blk_frozen BK221.out 1;have hfz27_2:=blk_frozen BK221.out 2;have hfz27_3:=blk_frozen BK221.out 3))
                 go_ret;exact ⟨by first|rfl|(simp [errW_none,errW_some]<;>rfl)|(simp [*, errW_none,errW_some]<;>rfl),by repeat (first|(with_reducible first|exact HB.out|apply below_alloc|apply pw_below_drewN|apply below_drew1|refine below_set ?_ GE221.out)|exact HB.out)⟩
               · rw [if_neg c25] at H;have c25b0:(a0_3.toList==([]:List UInt8))=false:=beq_eq_false_iff_ne.mpr c25;have c25b1:(a0_3.toList != ([]:List UInt8))=true:=bne_iff_ne.mpr c25;obtain rfl:=Option.some.inj H;go_enter Tryz.func56,Tryz.ntmps56
                 go_wp2_with (first|((with_reducible refine gate_dst (N:=1) rfl ?_);refine box_event ?hg (N:=1) ?hd (cs:= #[.int .i64 a0_0,.int .i64 a0_1,.int .i64 a0_2,.string a0_3]) (t:=40) ?hr ?_;(case hd=>rfl);(case hg=>rfl);(case hr=>first|(go_simp;done)|(go_simp;rfl));intro gb221 hg w28 hbox hb;have n0_:=Aside0.mk (below_step (by repeat (first|(with_reducible first|exact HB.out|apply below_alloc|apply pw_below_drewN|apply below_drew1)|exact HB.out)) hb);have n1_:=Aside0.mk (hbox);have n2_:=Aside0.mk ((by rw [hg];exact (below_size (by repeat (first|(with_reducible first|exact HB.out|apply below_alloc|apply pw_below_drewN|apply below_drew1)|exact HB.out))):w.heap.size≤gb221));have n3_:=Aside0.mk ((by rw [hg];exact (below_size (by repeat (first|(with_reducible first|exact HB.out|apply below_alloc|apply pw_below_drewN|apply below_drew1)|exact HB.out))):w.heap.size≤gb221));clear HB;have HB:=n0_;have BK221:=n1_;have GW221:=n2_;have GE221:=n3_;clear n0_ n1_ n2_ n3_;clear hb hbox hg;have hcz29_0:w28.cell? ⟨gb221,0,none⟩=some (.int .i64 a0_0):=(blk_cell BK221.out 0).trans rfl;have hcz29_1:w28.cell? ⟨gb221,1,none⟩=some (.int .i64 a0_1):=(blk_cell BK221.out 1).trans rfl;have hcz29_2:w28.cell? ⟨gb221,2,none⟩=some (.int .i64 a0_2):=(blk_cell BK221.out 2).trans rfl;have hcz29_3:w28.cell? ⟨gb221,3,none⟩=some (.string a0_3):=(blk_cell BK221.out 3).trans rfl;have hfz29_0:=blk_frozen BK221.out 0;have hfz29_1:=blk_frozen BK221.out 1;have hfz29_2:=blk_frozen BK221.out 2;have hfz29_3:=blk_frozen BK221.out 3))
                 go_ret;exact ⟨by first|rfl|(simp [errW_none,errW_some]<;>rfl)|(simp [*, errW_none,errW_some]<;>rfl),by repeat (first|(with_reducible first|exact HB.out|apply below_alloc|apply pw_below_drewN|apply below_drew1|refine below_set ?_ GE221.out)|exact HB.out)⟩
           · rw [if_neg c21] at H;have c21b0:(a0_0==2)=false:=beq_eq_false_iff_ne.mpr c21;have c21b1:(a0_0 != 2)=true:=bne_iff_ne.mpr c21;by_cases c30:a0_2=0
             · rw [if_pos c30] at H;have c30b0:(a0_2==0)=true:=beq_iff_eq.mpr c30;have c30b1:(a0_2 != 0)=false:=bne_eq_false_iff_eq.mpr c30;clear c30;by_cases c31:a0_0=3
               · rw [if_pos c31] at H;have c31b0:(a0_0==3)=true:=beq_iff_eq.mpr c31;have c31b1:(a0_0 != 3)=false:=bne_eq_false_iff_eq.mpr c31;clear c31;obtain rfl:=Option.some.inj H;go_enter Tryz.func56,Tryz.ntmps56
                 go_wp2_with (first|((with_reducible refine gate_dst (N:=1) rfl ?_);refine box_event ?hg (N:=1) ?hd (cs:= #[.int .i64 a0_0,.int .i64 a0_1,.int .i64 a0_2,.string a0_3]) (t:=40) ?hr ?_;(case hd=>rfl);(case hg=>rfl);(case hr=>first|(go_simp;done)|(go_simp;rfl));intro gb221 hg w32 hbox hb;have n0_:=Aside0.mk (below_step (by repeat (first|(with_reducible first|exact HB.out|apply below_alloc|apply pw_below_drewN|apply below_drew1)|exact HB.out)) hb);have n1_:=Aside0.mk (hbox);have n2_:=Aside0.mk ((by rw [hg];exact (below_size (by repeat (first|(with_reducible first|exact HB.out|apply below_alloc|apply pw_below_drewN|apply below_drew1)|exact HB.out))):w.heap.size≤gb221));have n3_:=Aside0.mk ((by rw [hg];exact (below_size (by repeat (first|(with_reducible first|exact HB.out|apply below_alloc|apply pw_below_drewN|apply below_drew1)|exact HB.out))):w.heap.size≤gb221));clear HB;have HB:=n0_;have BK221:=n1_;have GW221:=n2_;have GE221:=n3_;clear n0_ n1_ n2_ n3_;clear hb hbox hg;have hcz33_0:w32.cell? ⟨gb221,0,none⟩=some (.int .i64 a0_0):=(blk_cell BK221.out 0).trans rfl;have hcz33_1:w32.cell? ⟨gb221,1,none⟩=some (.int .i64 a0_1):=(blk_cell BK221.out 1).trans rfl;have hcz33_2:w32.cell? ⟨gb221,2,none⟩=some (.int .i64 a0_2):=(blk_cell BK221.out 2).trans rfl;have hcz33_3:w32.cell? ⟨gb221,3,none⟩=some (.string a0_3):=(blk_cell BK221.out 3).trans rfl;have hfz33_0:=blk_frozen BK221.out 0;have hfz33_1:=blk_frozen BK221.out 1;have hfz33_2:=blk_frozen BK221.out 2;have hfz33_3:=blk_frozen BK221.out 3))
                 go_ret;exact ⟨by first|rfl|(simp [errW_none,errW_some]<;>rfl)|(simp [*, errW_none,errW_some]<;>rfl),by repeat (first|(with_reducible first|exact HB.out|apply below_alloc|apply pw_below_drewN|apply below_drew1|refine below_set ?_ GE221.out)|exact HB.out)⟩
               · rw [if_neg c31] at H;have c31b0:(a0_0==3)=false:=beq_eq_false_iff_ne.mpr c31;have c31b1:(a0_0 != 3)=true:=bne_iff_ne.mpr c31
                 by_cases c34:a0_3.toList=([]:List UInt8)
                 · rw [if_pos c34] at H;have c34b0:(a0_3.toList==([]:List UInt8))=true:=beq_iff_eq.mpr c34;have c34b1:(a0_3.toList != ([]:List UInt8))=false:=bne_eq_false_iff_eq.mpr c34;clear c34;obtain rfl:=Option.some.inj H;go_enter Tryz.func56,Tryz.ntmps56
                   go_wp2_with (first|((with_reducible refine gate_dst (N:=1) rfl ?_);refine box_event ?hg (N:=1) ?hd (cs:= #[.int .i64 a0_0,.int .i64 a0_1,.int .i64 a0_2,.string a0_3]) (t:=40) ?hr ?_;(case hd=>rfl);(case hg=>rfl);(case hr=>first|(go_simp;done)|(go_simp;rfl));intro gb221 hg w35 hbox hb;have n0_:=Aside0.mk (below_step (by repeat (first|(with_reducible first|exact HB.out|apply below_alloc|apply pw_below_drewN|apply below_drew1)|exact HB.out)) hb);have n1_:=Aside0.mk (hbox);have n2_:=Aside0.mk ((by rw [hg];exact (below_size (by repeat (first|(with_reducible first|exact HB.out|apply below_alloc|apply pw_below_drewN|apply below_drew1)|exact HB.out))):w.heap.size≤gb221));have n3_:=Aside0.mk ((by rw [hg];exact (below_size (by repeat (first|(with_reducible first|exact HB.out|apply below_alloc|apply pw_below_drewN|apply below_drew1)|exact HB.out))):w.heap.size≤gb221));clear HB;have HB:=n0_;have BK221:=n1_;have GW221:=n2_;have GE221:=n3_;clear n0_ n1_ n2_ n3_;clear hb hbox hg;have hcz36_0:w35.cell? ⟨gb221,0,none⟩=some (.int .i64 a0_0):=(blk_cell BK221.out 0).trans rfl;have hcz36_1:w35.cell? ⟨gb221,1,none⟩=some (.int .i64 a0_1):=(blk_cell BK221.out 1).trans rfl;have hcz36_2:w35.cell? ⟨gb221,2,none⟩=some (.int .i64 a0_2):=(blk_cell BK221.out 2).trans rfl;have hcz36_3:w35.cell? ⟨gb221,3,none⟩=some (.string a0_3):=(blk_cell BK221.out 3).trans rfl;have hfz36_0:=blk_frozen BK221.out 0;have hfz36_1:=blk_frozen BK221.out 1;have hfz36_2:=blk_frozen BK221.out 2;have hfz36_3:=blk_frozen BK221.out 3))
                   go_ret;exact ⟨by first|rfl|(simp [errW_none,errW_some]<;>rfl)|(simp [*, errW_none,errW_some]<;>rfl),by repeat (first|(with_reducible first|exact HB.out|apply below_alloc|apply pw_below_drewN|apply below_drew1|refine below_set ?_ GE221.out)|exact HB.out)⟩
                 · rw [if_neg c34] at H;have c34b0:(a0_3.toList==([]:List UInt8))=false:=beq_eq_false_iff_ne.mpr c34;have c34b1:(a0_3.toList != ([]:List UInt8))=true:=bne_iff_ne.mpr c34;obtain rfl:=Option.some.inj H;go_enter Tryz.func56,Tryz.ntmps56
                   go_wp2_with (first|((with_reducible refine gate_dst (N:=1) rfl ?_);refine box_event ?hg (N:=1) ?hd (cs:= #[.int .i64 a0_0,.int .i64 a0_1,.int .i64 a0_2,.string a0_3]) (t:=40) ?hr ?_;(case hd=>rfl);(case hg=>rfl);(case hr=>first|(go_simp;done)|(go_simp;rfl));intro gb221 hg w37 hbox hb;have n0_:=Aside0.mk (below_step (by repeat (first|(with_reducible first|exact HB.out|apply below_alloc|apply pw_below_drewN|apply below_drew1)|exact HB.out)) hb);have n1_:=Aside0.mk (hbox);have n2_:=Aside0.mk ((by rw [hg];exact (below_size (by repeat (first|(with_reducible first|exact HB.out|apply below_alloc|apply pw_below_drewN|apply below_drew1)|exact HB.out))):w.heap.size≤gb221));have n3_:=Aside0.mk ((by rw [hg];exact (below_size (by repeat (first|(with_reducible first|exact HB.out|apply below_alloc|apply pw_below_drewN|apply below_drew1)|exact HB.out))):w.heap.size≤gb221));clear HB;have HB:=n0_;have BK221:=n1_;have GW221:=n2_;have GE221:=n3_;clear n0_ n1_ n2_ n3_;clear hb hbox hg;have hcz38_0:w37.cell? ⟨gb221,0,none⟩=some (.int .i64 a0_0):=(blk_cell BK221.out 0).trans rfl;have hcz38_1:w37.cell? ⟨gb221,1,none⟩=some (.int .i64 a0_1):=(blk_cell BK221.out 1).trans rfl;have hcz38_2:w37.cell? ⟨gb221,2,none⟩=some (.int .i64 a0_2):=(blk_cell BK221.out 2).trans rfl;have hcz38_3:w37.cell? ⟨gb221,3,none⟩=some (.string a0_3):=(blk_cell BK221.out 3).trans rfl;have hfz38_0:=blk_frozen BK221.out 0;have hfz38_1:=blk_frozen BK221.out 1;have hfz38_2:=blk_frozen BK221.out 2;have hfz38_3:=blk_frozen BK221.out 3))
                   go_ret;exact ⟨by first|rfl|(simp [errW_none,errW_some]<;>rfl)|(simp [*, errW_none,errW_some]<;>rfl),by repeat (first|(with_reducible first|exact HB.out|apply below_alloc|apply pw_below_drewN|apply below_drew1|refine below_set ?_ GE221.out)|exact HB.out)⟩
             · rw [if_neg c30] at H;have c30b0:(a0_2==0)=false:=beq_eq_false_iff_ne.mpr c30;have c30b1:(a0_2 != 0)=true:=bne_iff_ne.mpr c30;obtain rfl:=Option.some.inj H;go_enter Tryz.func56,Tryz.ntmps56
               go_wp2_with (first|((with_reducible refine gate_dst (N:=1) rfl ?_);refine box_event ?hg (N:=1) ?hd (cs:= #[.int .i64 a0_0,.int .i64 a0_1,.int .i64 a0_2,.string a0_3]) (t:=40) ?hr ?_;(case hd=>rfl);(case hg=>rfl);(case hr=>first|(go_simp;done)|(go_simp;rfl));intro gb221 hg w39 hbox hb;have n0_:=Aside0.mk (below_step (by repeat (first|(with_reducible first|exact HB.out|apply below_alloc|apply pw_below_drewN|apply below_drew1)|exact HB.out)) hb);have n1_:=Aside0.mk (hbox);have n2_:=Aside0.mk ((by rw [hg];exact (below_size (by repeat (first|(with_reducible first|exact HB.out|apply below_alloc|apply pw_below_drewN|apply below_drew1)|exact HB.out))):w.heap.size≤gb221));have n3_:=Aside0.mk ((by rw [hg];exact (below_size (by repeat (first|(with_reducible first|exact HB.out|apply below_alloc|apply pw_below_drewN|apply below_drew1)|exact HB.out))):w.heap.size≤gb221));clear HB;have HB:=n0_;have BK221:=n1_;have GW221:=n2_;have GE221:=n3_;clear n0_ n1_ n2_ n3_;clear hb hbox hg;have hcz40_0:w39.cell? ⟨gb221,0,none⟩=some (.int .i64 a0_0):=(blk_cell BK221.out 0).trans rfl;have hcz40_1:w39.cell? ⟨gb221,1,none⟩=some (.int .i64 a0_1):=(blk_cell BK221.out 1).trans rfl;have hcz40_2:w39.cell? ⟨gb221,2,none⟩=some (.int .i64 a0_2):=(blk_cell BK221.out 2).trans rfl;have hcz40_3:w39.cell? ⟨gb221,3,none⟩=some (.string a0_3):=(blk_cell BK221.out 3).trans rfl;have hfz40_0:=blk_frozen BK221.out 0;have hfz40_1:=blk_frozen BK221.out 1;have hfz40_2:=blk_frozen BK221.out 2;have hfz40_3:=blk_frozen BK221.out 3))
               go_ret;exact ⟨by first|rfl|(simp [errW_none,errW_some]<;>rfl)|(simp [*, errW_none,errW_some]<;>rfl),by repeat (first|(with_reducible first|exact HB.out|apply below_alloc|apply pw_below_drewN|apply below_drew1|refine below_set ?_ GE221.out)|exact HB.out)⟩
       · rw [if_neg c11] at H;have c11b0:(a0_0==4)=false:=beq_eq_false_iff_ne.mpr c11;have c11b1:(a0_0 != 4)=true:=bne_iff_ne.mpr c11;by_cases c41:a0_1=0
         · rw [if_pos c41] at H;have c41b0:(a0_1==0)=true:=beq_iff_eq.mpr c41;have c41b1:(a0_1 != 0)=false:=bne_eq_false_iff_eq.mpr c41;clear c41;by_cases c42:a0_0=1
           · rw [if_pos c42] at H;have c42b0:(a0_0==1)=true:=beq_iff_eq.mpr c42;have c42b1:(a0_0 != 1)=false:=bne_eq_false_iff_eq.mpr c42;clear c42;by_cases c43:a0_0=3
             · rw [if_pos c43] at H;have c43b0:(a0_0==3)=true:=beq_iff_eq.mpr c43;have c43b1:(a0_0 != 3)=false:=bne_eq_false_iff_eq.mpr c43;clear c43;obtain rfl:=Option.some.inj H;go_enter Tryz.func56,Tryz.ntmps56
               go_wp2_with (first|((with_reducible refine gate_dst (N:=1) rfl ?_);refine box_event ?hg (N:=1) ?hd (cs:= #[.int .i64 a0_0,.int .i64 a0_1,.int .i64 a0_2,.string a0_3]) (t:=40) ?hr ?_;(case hd=>rfl);(case hg=>rfl);(case hr=>first|(go_simp;done)|(go_simp;rfl));intro gb221 hg w44 hbox hb;have n0_:=Aside0.mk (below_step (by repeat (first|(with_reducible first|exact HB.out|apply below_alloc|apply pw_below_drewN|apply below_drew1)|exact HB.out)) hb);have n1_:=Aside0.mk (hbox);have n2_:=Aside0.mk ((by rw [hg];exact (below_size (by repeat (first|(with_reducible first|exact HB.out|apply below_alloc|apply pw_below_drewN|apply below_drew1)|exact HB.out))):w.heap.size≤gb221));have n3_:=Aside0.mk ((by rw [hg];exact (below_size (by repeat (first|(with_reducible first|exact HB.out|apply below_alloc|apply pw_below_drewN|apply below_drew1)|exact HB.out))):w.heap.size≤gb221));clear HB;have HB:=n0_;have BK221:=n1_;have GW221:=n2_;have GE221:=n3_;clear n0_ n1_ n2_ n3_;clear hb hbox hg;have hcz45_0:w44.cell? ⟨gb221,0,none⟩=some (.int .i64 a0_0):=(blk_cell BK221.out 0).trans rfl;have hcz45_1:w44.cell? ⟨gb221,1,none⟩=some (.int .i64 a0_1):=(blk_cell BK221.out 1).trans rfl;have hcz45_2:w44.cell? ⟨gb221,2,none⟩=some (.int .i64 a0_2):=(blk_cell BK221.out 2).trans rfl;have hcz45_3:w44.cell? ⟨gb221,3,none⟩=some (.string a0_3):=(blk_cell BK221.out 3).trans rfl;have hfz45_0:=blk_frozen BK221.out 0;have hfz45_1:=blk_frozen BK221.out 1;have hfz45_2:=blk_frozen BK221.out 2;have hfz45_3:=blk_frozen BK221.out 3))
               go_ret;exact ⟨by first|rfl|(simp [errW_none,errW_some]<;>rfl)|(simp [*, errW_none,errW_some]<;>rfl),by repeat (first|(with_reducible first|exact HB.out|apply below_alloc|apply pw_below_drewN|apply below_drew1|refine below_set ?_ GE221.out)|exact HB.out)⟩
             · rw [if_neg c43] at H;have c43b0:(a0_0==3)=false:=beq_eq_false_iff_ne.mpr c43;have c43b1:(a0_0 != 3)=true:=bne_iff_ne.mpr c43
               by_cases c46:a0_3.toList=([]:List UInt8)
               · rw [if_pos c46] at H;have c46b0:(a0_3.toList==([]:List UInt8))=true:=beq_iff_eq.mpr c46;have c46b1:(a0_3.toList != ([]:List UInt8))=false:=bne_eq_false_iff_eq.mpr c46;clear c46;obtain rfl:=Option.some.inj H;go_enter Tryz.func56,Tryz.ntmps56
                 go_wp2_with (first|((with_reducible refine gate_dst (N:=1) rfl ?_);refine box_event ?hg (N:=1) ?hd (cs:= #[.int .i64 a0_0,.int .i64 a0_1,.int .i64 a0_2,.string a0_3]) (t:=40) ?hr ?_;(case hd=>rfl);(case hg=>rfl);(case hr=>first|(go_simp;done)|(go_simp;rfl));intro gb221 hg w47 hbox hb;have n0_:=Aside0.mk (below_step (by repeat (first|(with_reducible first|exact HB.out|apply below_alloc|apply pw_below_drewN|apply below_drew1)|exact HB.out)) hb);have n1_:=Aside0.mk (hbox);have n2_:=Aside0.mk ((by rw [hg];exact (below_size (by repeat (first|(with_reducible first|exact HB.out|apply below_alloc|apply pw_below_drewN|apply below_drew1)|exact HB.out))):w.heap.size≤gb221));have n3_:=Aside0.mk ((by rw [hg];exact (below_size (by repeat (first|(with_reducible first|exact HB.out|apply below_alloc|apply pw_below_drewN|apply below_drew1)|exact HB.out))):w.heap.size≤gb221));clear HB;have HB:=n0_;have BK221:=n1_;have GW221:=n2_;have GE221:=n3_;clear n0_ n1_ n2_ n3_;clear hb hbox hg;have hcz48_0:w47.cell? ⟨gb221,0,none⟩=some (.int .i64 a0_0):=(blk_cell BK221.out 0).trans rfl;have hcz48_1:w47.cell? ⟨gb221,1,none⟩=some (.int .i64 a0_1):=(blk_cell BK221.out 1).trans rfl;have hcz48_2:w47.cell? ⟨gb221,2,none⟩=some (.int .i64 a0_2):=(blk_cell BK221.out 2).trans rfl;have hcz48_3:w47.cell? ⟨gb221,3,none⟩=some (.string a0_3):=(blk_cell BK221.out 3).trans rfl;have hfz48_0:=blk_frozen BK221.out 0;have hfz48_1:=blk_frozen BK221.out 1;have hfz48_2:=blk_frozen BK221.out 2;have hfz48_3:=blk_frozen BK221.out 3))
                 go_ret;exact ⟨by first|rfl|(simp [errW_none,errW_some]<;>rfl)|(simp [*, errW_none,errW_some]<;>rfl),by repeat (first|(with_reducible first|exact HB.out|apply below_alloc|apply pw_below_drewN|apply below_drew1|refine below_set ?_ GE221.out)|exact HB.out)⟩
               · rw [if_neg c46] at H;have c46b0:(a0_3.toList==([]:List UInt8))=false:=beq_eq_false_iff_ne.mpr c46;have c46b1:(a0_3.toList != ([]:List UInt8))=true:=bne_iff_ne.mpr c46;obtain rfl:=Option.some.inj H;go_enter Tryz.func56,Tryz.ntmps56
                 go_wp2_with (first|((with_reducible refine gate_dst (N:=1) rfl ?_);refine box_event ?hg (N:=1) ?hd (cs:= #[.int .i64 a0_0,.int .i64 a0_1,.int .i64 a0_2,.string a0_3]) (t:=40) ?hr ?_;(case hd=>rfl);(case hg=>rfl);(case hr=>first|(go_simp;done)|(go_simp;rfl));intro gb221 hg w49 hbox hb;have n0_:=Aside0.mk (below_step (by repeat (first|(with_reducible first|exact HB.out|apply below_alloc|apply pw_below_drewN|apply below_drew1)|exact HB.out)) hb);have n1_:=Aside0.mk (hbox);have n2_:=Aside0.mk ((by rw [hg];exact (below_size (by repeat (first|(with_reducible first|exact HB.out|apply below_alloc|apply pw_below_drewN|apply below_drew1)|exact HB.out))):w.heap.size≤gb221));have n3_:=Aside0.mk ((by rw [hg];exact (below_size (by repeat (first|(with_reducible first|exact HB.out|apply below_alloc|apply pw_below_drewN|apply below_drew1)|exact HB.out))):w.heap.size≤gb221));clear HB;have HB:=n0_;have BK221:=n1_;have GW221:=n2_;have GE221:=n3_;clear n0_ n1_ n2_ n3_;clear hb hbox hg;have hcz50_0:w49.cell? ⟨gb221,0,none⟩=some (.int .i64 a0_0):=(blk_cell BK221.out 0).trans rfl;have hcz50_1:w49.cell? ⟨gb221,1,none⟩=some (.int .i64 a0_1):=(blk_cell BK221.out 1).trans rfl;have hcz50_2:w49.cell? ⟨gb221,2,none⟩=some (.int .i64 a0_2):=(blk_cell BK221.out 2).trans rfl;have hcz50_3:w49.cell? ⟨gb221,3,none⟩=some (.string a0_3):=(blk_cell BK221.out 3).trans rfl;have hfz50_0:=blk_frozen BK221.out 0;have hfz50_1:=blk_frozen BK221.out 1;have hfz50_2:=blk_frozen BK221.out 2;have hfz50_3:=blk_frozen BK221.out 3))
                 go_ret;exact ⟨by first|rfl|(simp [errW_none,errW_some]<;>rfl)|(simp [*, errW_none,errW_some]<;>rfl),by repeat (first|(with_reducible first|exact HB.out|apply below_alloc|apply pw_below_drewN|apply below_drew1|refine below_set ?_ GE221.out)|exact HB.out)⟩
           · rw [if_neg c42] at H;have c42b0:(a0_0==1)=false:=beq_eq_false_iff_ne.mpr c42;have c42b1:(a0_0 != 1)=true:=bne_iff_ne.mpr c42;by_cases c51:a0_0=2
             · rw [if_pos c51] at H;have c51b0:(a0_0==2)=true:=beq_iff_eq.mpr c51;have c51b1:(a0_0 != 2)=false:=bne_eq_false_iff_eq.mpr c51;clear c51;by_cases c52:a0_0=3
               · rw [if_pos c52] at H;have c52b0:(a0_0==3)=true:=beq_iff_eq.mpr c52;have c52b1:(a0_0 != 3)=false:=bne_eq_false_iff_eq.mpr c52;clear c52;obtain rfl:=Option.some.inj H;go_enter Tryz.func56,Tryz.ntmps56
                 go_wp2_with (first|((with_reducible refine gate_dst (N:=1) rfl ?_);refine box_event ?hg (N:=1) ?hd (cs:= #[.int .i64 a0_0,.int .i64 a0_1,.int .i64 a0_2,.string a0_3]) (t:=40) ?hr ?_;(case hd=>rfl);(case hg=>rfl);(case hr=>first|(go_simp;done)|(go_simp;rfl));intro gb221 hg w53 hbox hb;have n0_:=Aside0.mk (below_step (by repeat (first|(with_reducible first|exact HB.out|apply below_alloc|apply pw_below_drewN|apply below_drew1)|exact HB.out)) hb);have n1_:=Aside0.mk (hbox);have n2_:=Aside0.mk ((by rw [hg];exact (below_size (by repeat (first|(with_reducible first|exact HB.out|apply below_alloc|apply pw_below_drewN|apply below_drew1)|exact HB.out))):w.heap.size≤gb221));have n3_:=Aside0.mk ((by rw [hg];exact (below_size (by repeat (first|(with_reducible first|exact HB.out|apply below_alloc|apply pw_below_drewN|apply below_drew1)|exact HB.out))):w.heap.size≤gb221));clear HB;have HB:=n0_;have BK221:=n1_;have GW221:=n2_;have GE221:=n3_;clear n0_ n1_ n2_ n3_;clear hb hbox hg;have hcz54_0:w53.cell? ⟨gb221,0,none⟩=some (.int .i64 a0_0):=(blk_cell BK221.out 0).trans rfl;have hcz54_1:w53.cell? ⟨gb221,1,none⟩=some (.int .i64 a0_1):=(blk_cell BK221.out 1).trans rfl;have hcz54_2:w53.cell? ⟨gb221,2,none⟩=some (.int .i64 a0_2):=(blk_cell BK221.out 2).trans rfl;have hcz54_3:w53.cell? ⟨gb221,3,none⟩=some (.string a0_3):=(blk_cell BK221.out 3).trans rfl;have hfz54_0:=blk_frozen BK221.out 0;have hfz54_1:=blk_frozen BK221.out 1;have hfz54_2:=blk_frozen BK221.out 2;have hfz54_3:=blk_frozen BK221.out 3))
                 go_ret;exact ⟨by first|rfl|(simp [errW_none,errW_some]<;>rfl)|(simp [*, errW_none,errW_some]<;>rfl),by repeat (first|(with_reducible first|exact HB.out|apply below_alloc|apply pw_below_drewN|apply below_drew1|refine below_set ?_ GE221.out)|exact HB.out)⟩
               · rw [if_neg c52] at H;have c52b0:(a0_0==3)=false:=beq_eq_false_iff_ne.mpr c52;have c52b1:(a0_0 != 3)=true:=bne_iff_ne.mpr c52
                 by_cases c55:a0_3.toList=([]:List UInt8)
                 · rw [if_pos c55] at H;have c55b0:(a0_3.toList==([]:List UInt8))=true:=beq_iff_eq.mpr c55;have c55b1:(a0_3.toList != ([]:List UInt8))=false:=bne_eq_false_iff_eq.mpr c55;clear c55;obtain rfl:=Option.some.inj H;go_enter Tryz.func56,Tryz.ntmps56
                   go_wp2_with (first|((with_reducible refine gate_dst (N:=1) rfl ?_);refine box_event ?hg (N:=1) ?hd (cs:= #[.int .i64 a0_0,.int .i64 a0_1,.int .i64 a0_2,.string a0_3]) (t:=40) ?hr ?_;(case hd=>rfl);(case hg=>rfl);(case hr=>first|(go_simp;done)|(go_simp;rfl));intro gb221 hg w56 hbox hb;have n0_:=Aside0.mk (below_step (by repeat (first|(with_reducible first|exact HB.out|apply below_alloc|apply pw_below_drewN|apply below_drew1)|exact HB.out)) hb);have n1_:=Aside0.mk (hbox);have n2_:=Aside0.mk ((by rw [hg];exact (below_size (by repeat (first|(with_reducible first|exact HB.out|apply below_alloc|apply pw_below_drewN|apply below_drew1)|exact HB.out))):w.heap.size≤gb221));have n3_:=Aside0.mk ((by rw [hg];exact (below_size (by repeat (first|(with_reducible first|exact HB.out|apply below_alloc|apply pw_below_drewN|apply below_drew1)|exact HB.out))):w.heap.size≤gb221));clear HB;have HB:=n0_;have BK221:=n1_;have GW221:=n2_;have GE221:=n3_;clear n0_ n1_ n2_ n3_;clear hb hbox hg;have hcz57_0:w56.cell? ⟨gb221,0,none⟩=some (.int .i64 a0_0):=(blk_cell BK221.out 0).trans rfl;have hcz57_1:w56.cell? ⟨gb221,1,none⟩=some (.int .i64 a0_1):=(blk_cell BK221.out 1).trans rfl;have hcz57_2:w56.cell? ⟨gb221,2,none⟩=some (.int .i64 a0_2):=(blk_cell BK221.out 2).trans rfl;have hcz57_3:w56.cell? ⟨gb221,3,none⟩=some (.string a0_3):=(blk_cell BK221.out 3).trans rfl;have hfz57_0:=blk_frozen BK221.out 0;have hfz57_1:=blk_frozen BK221.out 1;have hfz57_2:=blk_frozen BK221.out 2;have hfz57_3:=blk_frozen BK221.out 3))
                   go_ret;exact ⟨by first|rfl|(simp [errW_none,errW_some]<;>rfl)|(simp [*, errW_none,errW_some]<;>rfl),by repeat (first|(with_reducible first|exact HB.out|apply below_alloc|apply pw_below_drewN|apply below_drew1|refine below_set ?_ GE221.out)|exact HB.out)⟩
                 · rw [if_neg c55] at H;have c55b0:(a0_3.toList==([]:List UInt8))=false:=beq_eq_false_iff_ne.mpr c55;have c55b1:(a0_3.toList != ([]:List UInt8))=true:=bne_iff_ne.mpr c55;obtain rfl:=Option.some.inj H;go_enter Tryz.func56,Tryz.ntmps56
                   go_wp2_with (first|((with_reducible refine gate_dst (N:=1) rfl ?_);refine box_event ?hg (N:=1) ?hd (cs:= #[.int .i64 a0_0,.int .i64 a0_1,.int .i64 a0_2,.string a0_3]) (t:=40) ?hr ?_;(case hd=>rfl);(case hg=>rfl);(case hr=>first|(go_simp;done)|(go_simp;rfl));intro gb221 hg w58 hbox hb;have n0_:=Aside0.mk (below_step (by repeat (first|(with_reducible first|exact HB.out|apply below_alloc|apply pw_below_drewN|apply below_drew1)|exact HB.out)) hb);have n1_:=Aside0.mk (hbox);have n2_:=Aside0.mk ((by rw [hg];exact (below_size (by repeat (first|(with_reducible first|exact HB.out|apply below_alloc|apply pw_below_drewN|apply below_drew1)|exact HB.out))):w.heap.size≤gb221));have n3_:=Aside0.mk ((by rw [hg];exact (below_size (by repeat (first|(with_reducible first|exact HB.out|apply below_alloc|apply pw_below_drewN|apply below_drew1)|exact HB.out))):w.heap.size≤gb221));clear HB;have HB:=n0_;have BK221:=n1_;have GW221:=n2_;have GE221:=n3_;clear n0_ n1_ n2_ n3_;clear hb hbox hg;have hcz59_0:w58.cell? ⟨gb221,0,none⟩=some (.int .i64 a0_0):=(blk_cell BK221.out 0).trans rfl;have hcz59_1:w58.cell? ⟨gb221,1,none⟩=some (.int .i64 a0_1):=(blk_cell BK221.out 1).trans rfl;have hcz59_2:w58.cell? ⟨gb221,2,none⟩=some (.int .i64 a0_2):=(blk_cell BK221.out 2).trans rfl;have hcz59_3:w58.cell? ⟨gb221,3,none⟩=some (.string a0_3):=(blk_cell BK221.out 3).trans rfl;have hfz59_0:=blk_frozen BK221.out 0;have hfz59_1:=blk_frozen BK221.out 1;have hfz59_2:=blk_frozen BK221.out 2;have hfz59_3:=blk_frozen BK221.out 3))
                   go_ret;exact ⟨by first|rfl|(simp [errW_none,errW_some]<;>rfl)|(simp [*, errW_none,errW_some]<;>rfl),by repeat (first|(with_reducible first|exact HB.out|apply below_alloc|apply pw_below_drewN|apply below_drew1|refine below_set ?_ GE221.out)|exact HB.out)⟩
             · rw [if_neg c51] at H;have c51b0:(a0_0==2)=false:=beq_eq_false_iff_ne.mpr c51;have c51b1:(a0_0 != 2)=true:=bne_iff_ne.mpr c51;by_cases c60:a0_2=0
               · rw [if_pos c60] at H;have c60b0:(a0_2==0)=true:=beq_iff_eq.mpr c60;have c60b1:(a0_2 != 0)=false:=bne_eq_false_iff_eq.mpr c60;clear c60;by_cases c61:a0_0=3
                 · rw [if_pos c61] at H;have c61b0:(a0_0==3)=true:=beq_iff_eq.mpr c61;have c61b1:(a0_0 != 3)=false:=bne_eq_false_iff_eq.mpr c61;clear c61;obtain rfl:=Option.some.inj H;go_enter Tryz.func56,Tryz.ntmps56
                   go_wp2_with (first|((with_reducible refine gate_dst (N:=1) rfl ?_);refine box_event ?hg (N:=1) ?hd (cs:= #[.int .i64 a0_0,.int .i64 a0_1,.int .i64 a0_2,.string a0_3]) (t:=40) ?hr ?_;(case hd=>rfl);(case hg=>rfl);(case hr=>first|(go_simp;done)|(go_simp;rfl));intro gb221 hg w62 hbox hb;have n0_:=Aside0.mk (below_step (by repeat (first|(with_reducible first|exact HB.out|apply below_alloc|apply pw_below_drewN|apply below_drew1)|exact HB.out)) hb);have n1_:=Aside0.mk (hbox);have n2_:=Aside0.mk ((by rw [hg];exact (below_size (by repeat (first|(with_reducible first|exact HB.out|apply below_alloc|apply pw_below_drewN|apply below_drew1)|exact HB.out))):w.heap.size≤gb221));have n3_:=Aside0.mk ((by rw [hg];exact (below_size (by repeat (first|(with_reducible first|exact HB.out|apply below_alloc|apply pw_below_drewN|apply below_drew1)|exact HB.out))):w.heap.size≤gb221));clear HB;have HB:=n0_;have BK221:=n1_;have GW221:=n2_;have GE221:=n3_;clear n0_ n1_ n2_ n3_;clear hb hbox hg;have hcz63_0:w62.cell? ⟨gb221,0,none⟩=some (.int .i64 a0_0):=(blk_cell BK221.out 0).trans rfl;have hcz63_1:w62.cell? ⟨gb221,1,none⟩=some (.int .i64 a0_1):=(blk_cell BK221.out 1).trans rfl;have hcz63_2:w62.cell? ⟨gb221,2,none⟩=some (.int .i64 a0_2):=(blk_cell BK221.out 2).trans rfl;have hcz63_3:w62.cell? ⟨gb221,3,none⟩=some (.string a0_3):=(blk_cell BK221.out 3).trans rfl;have hfz63_0:=blk_frozen BK221.out 0;have hfz63_1:=blk_frozen BK221.out 1;have hfz63_2:=blk_frozen BK221.out 2;have hfz63_3:=blk_frozen BK221.out 3))
                   go_ret;exact ⟨by first|rfl|(simp [errW_none,errW_some]<;>rfl)|(simp [*, errW_none,errW_some]<;>rfl),by repeat (first|(with_reducible first|exact HB.out|apply below_alloc|apply pw_below_drewN|apply below_drew1|refine below_set ?_ GE221.out)|exact HB.out)⟩
                 · rw [if_neg c61] at H;have c61b0:(a0_0==3)=false:=beq_eq_false_iff_ne.mpr c61;have c61b1:(a0_0 != 3)=true:=bne_iff_ne.mpr c61
                   by_cases c64:a0_3.toList=([]:List UInt8)
                   · rw [if_pos c64] at H;have c64b0:(a0_3.toList==([]:List UInt8))=true:=beq_iff_eq.mpr c64;have c64b1:(a0_3.toList != ([]:List UInt8))=false:=bne_eq_false_iff_eq.mpr c64;clear c64;obtain rfl:=Option.some.inj H;go_enter Tryz.func56,Tryz.ntmps56
                     go_wp2_with (first|((with_reducible refine gate_dst (N:=1) rfl ?_);refine box_event ?hg (N:=1) ?hd (cs:= #[.int .i64 a0_0,.int .i64 a0_1,.int .i64 a0_2,.string a0_3]) (t:=40) ?hr ?_;(case hd=>rfl);(case hg=>rfl);(case hr=>first|(go_simp;done)|(go_simp;rfl));intro gb221 hg w65 hbox hb;have n0_:=Aside0.mk (below_step (by repeat (first|(with_reducible first|exact HB.out|apply below_alloc|apply pw_below_drewN|apply below_drew1)|exact HB.out)) hb);have n1_:=Aside0.mk (hbox);have n2_:=Aside0.mk ((by rw [hg];exact (below_size (by repeat (first|(with_reducible first|exact HB.out|apply below_alloc|apply pw_below_drewN|apply below_drew1)|exact HB.out))):w.heap.size≤gb221));have n3_:=Aside0.mk ((by rw [hg];exact (below_size (by repeat (first|(with_reducible first|exact HB.out|apply below_alloc|apply pw_below_drewN|apply below_drew1)|exact HB.out))):w.heap.size≤gb221));clear HB;have HB:=n0_;have BK221:=n1_;have GW221:=n2_;have GE221:=n3_;clear n0_ n1_ n2_ n3_;clear hb hbox hg;have hcz66_0:w65.cell? ⟨gb221,0,none⟩=some (.int .i64 a0_0):=(blk_cell BK221.out 0).trans rfl;have hcz66_1:w65.cell? ⟨gb221,1,none⟩=some (.int .i64 a0_1):=(blk_cell BK221.out 1).trans rfl;have hcz66_2:w65.cell? ⟨gb221,2,none⟩=some (.int .i64 a0_2):=(blk_cell BK221.out 2).trans rfl;have hcz66_3:w65.cell? ⟨gb221,3,none⟩=some (.string a0_3):=(blk_cell BK221.out 3).trans rfl;have hfz66_0:=blk_frozen BK221.out 0;have hfz66_1:=blk_frozen BK221.out 1;have hfz66_2:=blk_frozen BK221.out 2;have hfz66_3:=blk_frozen BK221.out 3))
                     go_ret;exact ⟨by first|rfl|(simp [errW_none,errW_some]<;>rfl)|(simp [*, errW_none,errW_some]<;>rfl),by repeat (first|(with_reducible first|exact HB.out|apply below_alloc|apply pw_below_drewN|apply below_drew1|refine below_set ?_ GE221.out)|exact HB.out)⟩
                   · rw [if_neg c64] at H;have c64b0:(a0_3.toList==([]:List UInt8))=false:=beq_eq_false_iff_ne.mpr c64;have c64b1:(a0_3.toList != ([]:List UInt8))=true:=bne_iff_ne.mpr c64;obtain rfl:=Option.some.inj H;go_enter Tryz.func56,Tryz.ntmps56
                     go_wp2_with (first|((with_reducible refine gate_dst (N:=1) rfl ?_);refine box_event ?hg (N:=1) ?hd (cs:= #[.int .i64 a0_0,.int .i64 a0_1,.int .i64 a0_2,.string a0_3]) (t:=40) ?hr ?_;(case hd=>rfl);(case hg=>rfl);(case hr=>first|(go_simp;done)|(go_simp;rfl));intro gb221 hg w67 hbox hb;have n0_:=Aside0.mk (below_step (by repeat (first|(with_reducible first|exact HB.out|apply below_alloc|apply pw_below_drewN|apply below_drew1)|exact HB.out)) hb);have n1_:=Aside0.mk (hbox);have n2_:=Aside0.mk ((by rw [hg];exact (below_size (by repeat (first|(with_reducible first|exact HB.out|apply below_alloc|apply pw_below_drewN|apply below_drew1)|exact HB.out))):w.heap.size≤gb221));have n3_:=Aside0.mk ((by rw [hg];exact (below_size (by repeat (first|(with_reducible first|exact HB.out|apply below_alloc|apply pw_below_drewN|apply below_drew1)|exact HB.out))):w.heap.size≤gb221));clear HB;have HB:=n0_;have BK221:=n1_;have GW221:=n2_;have GE221:=n3_;clear n0_ n1_ n2_ n3_;clear hb hbox hg;have hcz68_0:w67.cell? ⟨gb221,0,none⟩=some (.int .i64 a0_0):=(blk_cell BK221.out 0).trans rfl;have hcz68_1:w67.cell? ⟨gb221,1,none⟩=some (.int .i64 a0_1):=(blk_cell BK221.out 1).trans rfl;have hcz68_2:w67.cell? ⟨gb221,2,none⟩=some (.int .i64 a0_2):=(blk_cell BK221.out 2).trans rfl;have hcz68_3:w67.cell? ⟨gb221,3,none⟩=some (.string a0_3):=(blk_cell BK221.out 3).trans rfl;have hfz68_0:=blk_frozen BK221.out 0;have hfz68_1:=blk_frozen BK221.out 1;have hfz68_2:=blk_frozen BK221.out 2;have hfz68_3:=blk_frozen BK221.out 3))
                     go_ret;exact ⟨by first|rfl|(simp [errW_none,errW_some]<;>rfl)|(simp [*, errW_none,errW_some]<;>rfl),by repeat (first|(with_reducible first|exact HB.out|apply below_alloc|apply pw_below_drewN|apply below_drew1|refine below_set ?_ GE221.out)|exact HB.out)⟩
               · rw [if_neg c60] at H;have c60b0:(a0_2==0)=false:=beq_eq_false_iff_ne.mpr c60;have c60b1:(a0_2 != 0)=true:=bne_iff_ne.mpr c60;obtain rfl:=Option.some.inj H;go_enter Tryz.func56,Tryz.ntmps56
                 go_wp2_with (first|((with_reducible refine gate_dst (N:=1) rfl ?_);refine box_event ?hg (N:=1) ?hd (cs:= #[.int .i64 a0_0,.int .i64 a0_1,.int .i64 a0_2,.string a0_3]) (t:=40) ?hr ?_;(case hd=>rfl);(case hg=>rfl);(case hr=>first|(go_simp;done)|(go_simp;rfl));intro gb221 hg w69 hbox hb;have n0_:=Aside0.mk (below_step (by repeat (first|(with_reducible first|exact HB.out|apply below_alloc|apply pw_below_drewN|apply below_drew1)|exact HB.out)) hb);have n1_:=Aside0.mk (hbox);have n2_:=Aside0.mk ((by rw [hg];exact (below_size (by repeat (first|(with_reducible first|exact HB.out|apply below_alloc|apply pw_below_drewN|apply below_drew1)|exact HB.out))):w.heap.size≤gb221));have n3_:=Aside0.mk ((by rw [hg];exact (below_size (by repeat (first|(with_reducible first|exact HB.out|apply below_alloc|apply pw_below_drewN|apply below_drew1)|exact HB.out))):w.heap.size≤gb221));clear HB;have HB:=n0_;have BK221:=n1_;have GW221:=n2_;have GE221:=n3_;clear n0_ n1_ n2_ n3_;clear hb hbox hg;have hcz70_0:w69.cell? ⟨gb221,0,none⟩=some (.int .i64 a0_0):=(blk_cell BK221.out 0).trans rfl;have hcz70_1:w69.cell? ⟨gb221,1,none⟩=some (.int .i64 a0_1):=(blk_cell BK221.out 1).trans rfl;have hcz70_2:w69.cell? ⟨gb221,2,none⟩=some (.int .i64 a0_2):=(blk_cell BK221.out 2).trans rfl;have hcz70_3:w69.cell? ⟨gb221,3,none⟩=some (.string a0_3):=(blk_cell BK221.out 3).trans rfl;have hfz70_0:=blk_frozen BK221.out 0;have hfz70_1:=blk_frozen BK221.out 1;have hfz70_2:=blk_frozen BK221.out 2;have hfz70_3:=blk_frozen BK221.out 3))
                 go_ret;exact ⟨by first|rfl|(simp [errW_none,errW_some]<;>rfl)|(simp [*, errW_none,errW_some]<;>rfl),by repeat (first|(with_reducible first|exact HB.out|apply below_alloc|apply pw_below_drewN|apply below_drew1|refine below_set ?_ GE221.out)|exact HB.out)⟩
         · rw [if_neg c41] at H;have c41b0:(a0_1==0)=false:=beq_eq_false_iff_ne.mpr c41;have c41b1:(a0_1 != 0)=true:=bne_iff_ne.mpr c41;obtain rfl:=Option.some.inj H;go_enter Tryz.func56,Tryz.ntmps56
           go_wp2_with (first|((with_reducible refine gate_dst (N:=1) rfl ?_);refine box_event ?hg (N:=1) ?hd (cs:= #[.int .i64 a0_0,.int .i64 a0_1,.int .i64 a0_2,.string a0_3]) (t:=40) ?hr ?_;(case hd=>rfl);(case hg=>rfl);(case hr=>first|(go_simp;done)|(go_simp;rfl));intro gb221 hg w71 hbox hb;have n0_:=Aside0.mk (below_step (by repeat (first|(with_reducible first|exact HB.out|apply below_alloc|apply pw_below_drewN|apply below_drew1)|exact HB.out)) hb);have n1_:=Aside0.mk (hbox);have n2_:=Aside0.mk ((by rw [hg];exact (below_size (by repeat (first|(with_reducible first|exact HB.out|apply below_alloc|apply pw_below_drewN|apply below_drew1)|exact HB.out))):w.heap.size≤gb221));have n3_:=Aside0.mk ((by rw [hg];exact (below_size (by repeat (first|(with_reducible first|exact HB.out|apply below_alloc|apply pw_below_drewN|apply below_drew1)|exact HB.out))):w.heap.size≤gb221));clear HB;have HB:=n0_;have BK221:=n1_;have GW221:=n2_;have GE221:=n3_;clear n0_ n1_ n2_ n3_;clear hb hbox hg;have hcz72_0:w71.cell? ⟨gb221,0,none⟩=some (.int .i64 a0_0):=(blk_cell BK221.out 0).trans rfl;have hcz72_1:w71.cell? ⟨gb221,1,none⟩=some (.int .i64 a0_1):=(blk_cell BK221.out 1).trans rfl;have hcz72_2:w71.cell? ⟨gb221,2,none⟩=some (.int .i64 a0_2):=(blk_cell BK221.out 2).trans rfl;have hcz72_3:w71.cell? ⟨gb221,3,none⟩=some (.string a0_3):=(blk_cell BK221.out 3).trans rfl;have hfz72_0:=blk_frozen BK221.out 0;have hfz72_1:=blk_frozen BK221.out 1;have hfz72_2:=blk_frozen BK221.out 2;have hfz72_3:=blk_frozen BK221.out 3))
           go_ret;exact ⟨by first|rfl|(simp [errW_none,errW_some]<;>rfl)|(simp [*, errW_none,errW_some]<;>rfl),by repeat (first|(with_reducible first|exact HB.out|apply below_alloc|apply pw_below_drewN|apply below_drew1|refine below_set ?_ GE221.out)|exact HB.out)⟩
end Go.Proofs.YtgmiekggdgmhkaaGreatDoor.Q
end
section
namespace Go.Proofs.YtgmiekggdgmhkaaGreatDoor.E
open Go.RowKit Go.Proofs.YtgmiekggdgmhkaaGreatDoorW.PrintWords Go.Proofs.YtgmiekggdgmhkaaGreatDoorW.PrintLast Go.Proofs.YtgmiekggdgmhkaaGreatDoorW.PrintMore
attribute [local go_sem] max2_int min2_int max_two min_two max_three min_three max_four min_four
set_option linter.unusedVariables false
set_option linter.unusedSimpArgs false
def errW:Option Int→Value
 |none=> .nilIface
 |some c=> .iface 0 (.int .i64 c)
theorem errW_none:errW none= .nilIface:=rfl
theorem errW_some (c:Int):errW (some c)= .iface 0 (.int .i64 c):=rfl
theorem info5:(Tryz.prog.info? 5).map (fun i=>(i.zero,i.size,i.bytes))=some (some (.int .u8 0),1,1):=by kernel_rfl
def mummerref02_Is.f (a0:Int):Option (Bool):=if a0≥0 then (if a0≤1114111 then (if a0<55296 then (some true) else (some (decide (a0>57343)))) else (some false)) else (some false)
set_option maxHeartbeats 8000000 in
set_option maxRecDepth 100000 in
theorem mummerref02_Is.calls (a0:Int) (r:Bool) (w:World) (h:mummerref02_Is.f a0=some r):
 Calls Tryz.prog 98 #[.int .i32 a0] w fun e w'=>e= .returned (.bool r)∧Drawn0 w w':=by
 have H:(if a0≥0 then (if a0≤1114111 then (if a0<55296 then (some true) else (some (decide (a0>57343)))) else (some false)) else (some false))=some r:=h;clear h;by_cases c2:a0≥0
 · rw [if_pos c2] at H;have c2b0:decide (0≤a0)=true:=decide_eq_true c2;clear c2;by_cases c3:a0≤1114111
   · rw [if_pos c3] at H;have c3b0:decide (a0≤1114111)=true:=decide_eq_true c3;clear c3;by_cases c4:a0<55296
     · rw [if_pos c4] at H;have c4b0:decide (a0<55296)=true:=decide_eq_true c4;clear c4;obtain rfl:=Option.some.inj H;go_enter Tryz.func98,Tryz.ntmps98;go_wp2;go_ret;exact ⟨by first|rfl|(simp;done)|(simp [*];done),by repeat (first|exact Drawn0.refl _|apply Drawn0.step)⟩
     · rw [if_neg c4] at H;have c4b0:decide (a0<55296)=false:=decide_eq_false c4;clear c4;obtain rfl:=Option.some.inj H;go_enter Tryz.func98,Tryz.ntmps98;go_wp2;go_ret;exact ⟨by first|rfl|(simp;done)|(simp [*];done),by repeat (first|exact Drawn0.refl _|apply Drawn0.step)⟩
   · rw [if_neg c3] at H;have c3b0:decide (a0≤1114111)=false:=decide_eq_false c3;clear c3;obtain rfl:=Option.some.inj H;go_enter Tryz.func98,Tryz.ntmps98;go_wp2;go_ret;exact ⟨by first|rfl|(simp;done)|(simp [*];done),by repeat (first|exact Drawn0.refl _|apply Drawn0.step)⟩
 · rw [if_neg c2] at H;have c2b0:decide (0≤a0)=false:=decide_eq_false c2;clear c2;obtain rfl:=Option.some.inj H;go_enter Tryz.func98,Tryz.ntmps98;go_wp2;go_ret;exact ⟨by first|rfl|(simp;done)|(simp [*];done),by repeat (first|exact Drawn0.refl _|apply Drawn0.step)⟩
def mummerref02_Encode.f (a0:Int):Option (List Int×Int):=(mummerref02_Is.f a0).bind fun t101=>(if t101=true then (if a0<128 then (some ((([(a0) % 256]:List Int)),0)) else (if a0<2048 then (some ((([(wrap32 (192+(wrap32 (Int.tdiv a0 64)))) % 256,(wrap32 (128+(Int.tmod a0 64))) % 256]:List Int)),0)) else (if a0<65536 then (some ((([(wrap32 (224+(wrap32 (Int.tdiv a0 4096)))) % 256,(wrap32 (128+(Int.tmod (wrap32 (Int.tdiv a0 64)) 64))) % 256,(wrap32 (128+(Int.tmod a0 64))) % 256]:List Int)),0)) else (some ((([(wrap32 (240+(wrap32 (Int.tdiv a0 262144)))) % 256,(wrap32 (128+(Int.tmod (wrap32 (Int.tdiv a0 4096)) 64))) % 256,(wrap32 (128+(Int.tmod (wrap32 (Int.tdiv a0 64)) 64))) % 256,(wrap32 (128+(Int.tmod a0 64))) % 256]:List Int)),0))))) else (some (([]:List Int),7)))
set_option maxHeartbeats 8000000 in
set_option maxRecDepth 100000 in
theorem mummerref02_Encode.calls (a0:Int) (r1:List Int) (r2:Int) (w:World) (h:mummerref02_Encode.f a0=some (r1,r2)):
 Calls Tryz.prog 124 #[.int .i32 a0] w fun e w'=> ∃v0_:Value,e= .returned (.tuple #[v0_,.int .i64 r2])∧Kd.R (Kd.int .u8) 5 w' w.heap.size (fun _=>True) v0_ r1∧Below w.heap.size w w':=by
 have HB:=Aside0.mk (Below.refl w.heap.size w);have H:((mummerref02_Is.f a0).bind fun t101=>(if t101=true then (if a0<128 then (some ((([(a0) % 256]:List Int)),0)) else (if a0<2048 then (some ((([(wrap32 (192+(wrap32 (Int.tdiv a0 64)))) % 256,(wrap32 (128+(Int.tmod a0 64))) % 256]:List Int)),0)) else (if a0<65536 then (some ((([(wrap32 (224+(wrap32 (Int.tdiv a0 4096)))) % 256,(wrap32 (128+(Int.tmod (wrap32 (Int.tdiv a0 64)) 64))) % 256,(wrap32 (128+(Int.tmod a0 64))) % 256]:List Int)),0)) else (some ((([(wrap32 (240+(wrap32 (Int.tdiv a0 262144)))) % 256,(wrap32 (128+(Int.tmod (wrap32 (Int.tdiv a0 4096)) 64))) % 256,(wrap32 (128+(Int.tmod (wrap32 (Int.tdiv a0 64)) 64))) % 256,(wrap32 (128+(Int.tmod a0 64))) % 256]:List Int)),0))))) else (some (([]:List Int),7))))=some (r1,r2):=h;clear h;replace H:=Option.bind_eq_some_iff.mp H;obtain ⟨t101,A20,H⟩:=H;replace H:(if t101=true then (if a0<128 then (some ((([(a0) % 256]:List Int)),0)) else (if a0<2048 then (some ((([(wrap32 (192+(wrap32 (Int.tdiv a0 64)))) % 256,(wrap32 (128+(Int.tmod a0 64))) % 256]:List Int)),0)) else (if a0<65536 then (some ((([(wrap32 (224+(wrap32 (Int.tdiv a0 4096)))) % 256,(wrap32 (128+(Int.tmod (wrap32 (Int.tdiv a0 64)) 64))) % 256,(wrap32 (128+(Int.tmod a0 64))) % 256]:List Int)),0)) else (some ((([(wrap32 (240+(wrap32 (Int.tdiv a0 262144)))) % 256,(wrap32 (128+(Int.tmod (wrap32 (Int.tdiv a0 4096)) 64))) % 256,(wrap32 (128+(Int.tmod (wrap32 (Int.tdiv a0 64)) 64))) % 256,(wrap32 (128+(Int.tmod a0 64))) % 256]:List Int)),0))))) else (some (([]:List Int),7)))=some (r1,r2):=H;have A2:=Aside0.mk A20;clear A20;by_cases c3:t101=true
 · subst c3
   have H1:(if a0<128 then (some ((([(a0) % 256]:List Int)),0)) else (if a0<2048 then (some ((([(wrap32 (192+(wrap32 (Int.tdiv a0 64)))) % 256,(wrap32 (128+(Int.tmod a0 64))) % 256]:List Int)),0)) else (if a0<65536 then (some ((([(wrap32 (224+(wrap32 (Int.tdiv a0 4096)))) % 256,(wrap32 (128+(Int.tmod (wrap32 (Int.tdiv a0 64)) 64))) % 256,(wrap32 (128+(Int.tmod a0 64))) % 256]:List Int)),0)) else (some ((([(wrap32 (240+(wrap32 (Int.tdiv a0 262144)))) % 256,(wrap32 (128+(Int.tmod (wrap32 (Int.tdiv a0 4096)) 64))) % 256,(wrap32 (128+(Int.tmod (wrap32 (Int.tdiv a0 64)) 64))) % 256,(wrap32 (128+(Int.tmod a0 64))) % 256]:List Int)),0)))))=some (r1,r2):=by rw [if_pos rfl] at H;exact H
   clear H;have H:=H1;clear H1;by_cases c4:a0<128
   · rw [if_pos c4] at H;have c4b0:decide (a0<128)=true:=decide_eq_true c4;clear c4
     obtain ⟨y102,hy102⟩: ∃y_:List Int,y_=(([(a0) % 256]:List Int)):=⟨_,rfl⟩
     replace H:(some (y102,0))=some (r1,r2):=by first|(rw [hy102];with_reducible exact H)|(have H2_:=(Option.bind_some _ _).symm.trans H;rw [hy102];with_reducible exact H2_)|(have H2_:=(Option.bind_some _ _).symm.trans H;with_reducible exact H2_)|with_reducible exact H|(rw [hy102];exact H)|exact H
     have Ny102:=Aside0.mk hy102;clear hy102;simp only [Option.some.injEq,Prod.mk.injEq] at H;obtain ⟨rfl,rfl⟩:=H;go_enter Tryz.func124,Tryz.ntmps124
     go_wp2_with (first|((with_reducible refine gate_callee (f:=98) rfl ?_);refine goesL_ (some 5) rfl rfl Tryz.func98 (by kernel_rfl) rfl #[.int .i32 a0] rfl (by (try simp only [List.map_toArray,List.map_cons,List.map_nil]);first|done|rfl|(simp only [List.length_drop,List.length_take];rfl)) ?_;(with_reducible refine (mummerref02_Is.calls a0 true _ A2.out).mono ?_);rintro e w' ⟨rfl,⟨nd,rfl⟩⟩;refine ⟨_,rfl,?_⟩)|((with_reducible refine gate_dst (N:=11) rfl ?_);refine Kd.R_lit (Kd.int .u8) _ 5 ?hg (N:=11) ?hd (xs:=([(a0) % 256]:List Int)) (inner:=[.int .u8 ((a0) % 256)]) (ok:=fun _=>True) (okp:=fun _=>True) ?hr ?hp (fun _ hk=>hk) trivial (Below.refl _ _) (Nat.le_refl _) (by simp) ?_;(case hd=>rfl);(case hg=>rfl);(case hr=>first|(go_simp;done)|(go_simp;rfl));(case hp=>exact (Reps.one (show Kd.M (Kd.int .u8) _ _ _ ((a0) % 256) [.int .u8 ((a0) % 256)] from rfl) (Reps.none _ _)));intro v103 w5 ho6 hb hg_ hnew_;clear hg_ hnew_;(first|rw [←Ny102.out] at ho6|(simp only [Int.reduceToNat] at ho6;rw [←Ny102.out] at ho6));have n0_:=Aside0.mk (Kd.R_lower ho6 (below_size (by repeat (first|(with_reducible first|exact HB.out|apply below_alloc|apply pw_below_drewN|apply below_drew1)|exact HB.out))));have n1_:=Aside0.mk (below_step (by repeat (first|(with_reducible first|exact HB.out|apply below_alloc|apply pw_below_drewN|apply below_drew1)|exact HB.out)) hb);clear HB;have HO104:=n0_;have HB:=n1_;clear n0_ n1_;clear hb ho6))
     go_ret2;exact ⟨_,by first|rfl|(simp [errW_none,errW_some]<;>rfl)|(simp [*, errW_none,errW_some]<;>rfl),by (with_reducible repeat (first|apply Kd.R_alloc|apply Kd.R_drewN|apply Kd.R_drew));exact HO104.out,by repeat (first|(with_reducible first|exact HB.out|apply below_alloc|apply pw_below_drewN|apply below_drew1)|exact HB.out)⟩
   · rw [if_neg c4] at H;have c4b0:decide (a0<128)=false:=decide_eq_false c4;clear c4;by_cases c7:a0<2048
     · rw [if_pos c7] at H;have c7b0:decide (a0<2048)=true:=decide_eq_true c7;clear c7
       obtain ⟨y105,hy105⟩: ∃y_:List Int,y_=(([(wrap32 (192+(wrap32 (Int.tdiv a0 64)))) % 256,(wrap32 (128+(Int.tmod a0 64))) % 256]:List Int)):=⟨_,rfl⟩
       replace H:(some (y105,0))=some (r1,r2):=by first|(rw [hy105];with_reducible exact H)|(have H2_:=(Option.bind_some _ _).symm.trans H;rw [hy105];with_reducible exact H2_)|(have H2_:=(Option.bind_some _ _).symm.trans H;with_reducible exact H2_)|with_reducible exact H|(rw [hy105];exact H)|exact H
       have Ny105:=Aside0.mk hy105;clear hy105;simp only [Option.some.injEq,Prod.mk.injEq] at H;obtain ⟨rfl,rfl⟩:=H;go_enter Tryz.func124,Tryz.ntmps124
       go_wp2_with (first|((with_reducible refine gate_callee (f:=98) rfl ?_);refine goesL_ (some 5) rfl rfl Tryz.func98 (by kernel_rfl) rfl #[.int .i32 a0] rfl (by (try simp only [List.map_toArray,List.map_cons,List.map_nil]);first|done|rfl|(simp only [List.length_drop,List.length_take];rfl)) ?_;(with_reducible refine (mummerref02_Is.calls a0 true _ A2.out).mono ?_);rintro e w' ⟨rfl,⟨nd,rfl⟩⟩;refine ⟨_,rfl,?_⟩)|((with_reducible refine gate_dst (N:=22) rfl ?_);refine Kd.R_lit (Kd.int .u8) _ 5 ?hg (N:=22) ?hd (xs:=([(wrap32 (192+(wrap32 (Int.tdiv a0 64)))) % 256,(wrap32 (128+(Int.tmod a0 64))) % 256]:List Int)) (inner:=[.int .u8 ((wrap32 (192+(wrap32 (Int.tdiv a0 64)))) % 256),.int .u8 ((wrap32 (128+(Int.tmod a0 64))) % 256)]) (ok:=fun _=>True) (okp:=fun _=>True) ?hr ?hp (fun _ hk=>hk) trivial (Below.refl _ _) (Nat.le_refl _) (by simp) ?_;(case hd=>rfl);(case hg=>rfl);(case hr=>first|(go_simp;done)|(go_simp;rfl));(case hp=>exact (Reps.one (show Kd.M (Kd.int .u8) _ _ _ ((wrap32 (192+(wrap32 (Int.tdiv a0 64)))) % 256) [.int .u8 ((wrap32 (192+(wrap32 (Int.tdiv a0 64)))) % 256)] from rfl) (Reps.one (show Kd.M (Kd.int .u8) _ _ _ ((wrap32 (128+(Int.tmod a0 64))) % 256) [.int .u8 ((wrap32 (128+(Int.tmod a0 64))) % 256)] from rfl) (Reps.none _ _))));intro v106 w8 ho9 hb hg_ hnew_;clear hg_ hnew_;(first|rw [←Ny105.out] at ho9|(simp only [Int.reduceToNat] at ho9;rw [←Ny105.out] at ho9));have n0_:=Aside0.mk (Kd.R_lower ho9 (below_size (by repeat (first|(with_reducible first|exact HB.out|apply below_alloc|apply pw_below_drewN|apply below_drew1)|exact HB.out))));have n1_:=Aside0.mk (below_step (by repeat (first|(with_reducible first|exact HB.out|apply below_alloc|apply pw_below_drewN|apply below_drew1)|exact HB.out)) hb);clear HB;have HO107:=n0_;have HB:=n1_;clear n0_ n1_;clear hb ho9))
       go_ret2;exact ⟨_,by first|rfl|(simp [errW_none,errW_some]<;>rfl)|(simp [*, errW_none,errW_some]<;>rfl),by (with_reducible repeat (first|apply Kd.R_alloc|apply Kd.R_drewN|apply Kd.R_drew));exact HO107.out,by repeat (first|(with_reducible first|exact HB.out|apply below_alloc|apply pw_below_drewN|apply below_drew1)|exact HB.out)⟩
     · rw [if_neg c7] at H;have c7b0:decide (a0<2048)=false:=decide_eq_false c7;clear c7;by_cases c10:a0<65536
       · rw [if_pos c10] at H;have c10b0:decide (a0<65536)=true:=decide_eq_true c10;clear c10
         obtain ⟨y108,hy108⟩: ∃y_:List Int,y_=(([(wrap32 (224+(wrap32 (Int.tdiv a0 4096)))) % 256,(wrap32 (128+(Int.tmod (wrap32 (Int.tdiv a0 64)) 64))) % 256,(wrap32 (128+(Int.tmod a0 64))) % 256]:List Int)):=⟨_,rfl⟩
         replace H:(some (y108,0))=some (r1,r2):=by first|(rw [hy108];with_reducible exact H)|(have H2_:=(Option.bind_some _ _).symm.trans H;rw [hy108];with_reducible exact H2_)|(have H2_:=(Option.bind_some _ _).symm.trans H;with_reducible exact H2_)|with_reducible exact H|(rw [hy108];exact H)|exact H
         have Ny108:=Aside0.mk hy108;clear hy108;simp only [Option.some.injEq,Prod.mk.injEq] at H;obtain ⟨rfl,rfl⟩:=H;go_enter Tryz.func124,Tryz.ntmps124
         go_wp2_with (first|((with_reducible refine gate_callee (f:=98) rfl ?_);refine goesL_ (some 5) rfl rfl Tryz.func98 (by kernel_rfl) rfl #[.int .i32 a0] rfl (by (try simp only [List.map_toArray,List.map_cons,List.map_nil]);first|done|rfl|(simp only [List.length_drop,List.length_take];rfl)) ?_;(with_reducible refine (mummerref02_Is.calls a0 true _ A2.out).mono ?_);rintro e w' ⟨rfl,⟨nd,rfl⟩⟩;refine ⟨_,rfl,?_⟩)|((with_reducible refine gate_dst (N:=38) rfl ?_);refine Kd.R_lit (Kd.int .u8) _ 5 ?hg (N:=38) ?hd (xs:=([(wrap32 (224+(wrap32 (Int.tdiv a0 4096)))) % 256,(wrap32 (128+(Int.tmod (wrap32 (Int.tdiv a0 64)) 64))) % 256,(wrap32 (128+(Int.tmod a0 64))) % 256]:List Int)) (inner:=[.int .u8 ((wrap32 (224+(wrap32 (Int.tdiv a0 4096)))) % 256),.int .u8 ((wrap32 (128+(Int.tmod (wrap32 (Int.tdiv a0 64)) 64))) % 256),.int .u8 ((wrap32 (128+(Int.tmod a0 64))) % 256)]) (ok:=fun _=>True) (okp:=fun _=>True) ?hr ?hp (fun _ hk=>hk) trivial (Below.refl _ _) (Nat.le_refl _) (by simp) ?_;(case hd=>rfl);(case hg=>rfl);(case hr=>first|(go_simp;done)|(go_simp;rfl));(case hp=>exact (Reps.one (show Kd.M (Kd.int .u8) _ _ _ ((wrap32 (224+(wrap32 (Int.tdiv a0 4096)))) % 256) [.int .u8 ((wrap32 (224+(wrap32 (Int.tdiv a0 4096)))) % 256)] from rfl) (Reps.one (show Kd.M (Kd.int .u8) _ _ _ ((wrap32 (128+(Int.tmod (wrap32 (Int.tdiv a0 64)) 64))) % 256) [.int .u8 ((wrap32 (128+(Int.tmod (wrap32 (Int.tdiv a0 64)) 64))) % 256)] from rfl) (Reps.one (show Kd.M (Kd.int .u8) _ _ _ ((wrap32 (128+(Int.tmod a0 64))) % 256) [.int .u8 ((wrap32 (128+(Int.tmod a0 64))) % 256)] from rfl) (Reps.none _ _)))));intro v109 w11 ho12 hb hg_ hnew_;clear hg_ hnew_;(first|rw [←Ny108.out] at ho12|(simp only [Int.reduceToNat] at ho12;rw [←Ny108.out] at ho12));have n0_:=Aside0.mk (Kd.R_lower ho12 (below_size (by repeat (first|(with_reducible first|exact HB.out|apply below_alloc|apply pw_below_drewN|apply below_drew1)|exact HB.out))));have n1_:=Aside0.mk (below_step (by repeat (first|(with_reducible first|exact HB.out|apply below_alloc|apply pw_below_drewN|apply below_drew1)|exact HB.out)) hb);clear HB;have HO110:=n0_;have HB:=n1_;clear n0_ n1_;clear hb ho12))
         go_ret2;exact ⟨_,by first|rfl|(simp [errW_none,errW_some]<;>rfl)|(simp [*, errW_none,errW_some]<;>rfl),by (with_reducible repeat (first|apply Kd.R_alloc|apply Kd.R_drewN|apply Kd.R_drew));exact HO110.out,by repeat (first|(with_reducible first|exact HB.out|apply below_alloc|apply pw_below_drewN|apply below_drew1)|exact HB.out)⟩
       · rw [if_neg c10] at H;have c10b0:decide (a0<65536)=false:=decide_eq_false c10;clear c10
         obtain ⟨y111,hy111⟩: ∃y_:List Int,y_=(([(wrap32 (240+(wrap32 (Int.tdiv a0 262144)))) % 256,(wrap32 (128+(Int.tmod (wrap32 (Int.tdiv a0 4096)) 64))) % 256,(wrap32 (128+(Int.tmod (wrap32 (Int.tdiv a0 64)) 64))) % 256,(wrap32 (128+(Int.tmod a0 64))) % 256]:List Int)):=⟨_,rfl⟩
         replace H:(some (y111,0))=some (r1,r2):=by first|(rw [hy111];with_reducible exact H)|(have H2_:=(Option.bind_some _ _).symm.trans H;rw [hy111];with_reducible exact H2_)|(have H2_:=(Option.bind_some _ _).symm.trans H;with_reducible exact H2_)|with_reducible exact H|(rw [hy111];exact H)|exact H
         have Ny111:=Aside0.mk hy111;clear hy111;simp only [Option.some.injEq,Prod.mk.injEq] at H;obtain ⟨rfl,rfl⟩:=H;go_enter Tryz.func124,Tryz.ntmps124
         go_wp2_with (first|((with_reducible refine gate_callee (f:=98) rfl ?_);refine goesL_ (some 5) rfl rfl Tryz.func98 (by kernel_rfl) rfl #[.int .i32 a0] rfl (by (try simp only [List.map_toArray,List.map_cons,List.map_nil]);first|done|rfl|(simp only [List.length_drop,List.length_take];rfl)) ?_;(with_reducible refine (mummerref02_Is.calls a0 true _ A2.out).mono ?_);rintro e w' ⟨rfl,⟨nd,rfl⟩⟩;refine ⟨_,rfl,?_⟩)|((with_reducible refine gate_dst (N:=57) rfl ?_);refine Kd.R_lit (Kd.int .u8) _ 5 ?hg (N:=57) ?hd (xs:=([(wrap32 (240+(wrap32 (Int.tdiv a0 262144)))) % 256,(wrap32 (128+(Int.tmod (wrap32 (Int.tdiv a0 4096)) 64))) % 256,(wrap32 (128+(Int.tmod (wrap32 (Int.tdiv a0 64)) 64))) % 256,(wrap32 (128+(Int.tmod a0 64))) % 256]:List Int)) (inner:=[.int .u8 ((wrap32 (240+(wrap32 (Int.tdiv a0 262144)))) % 256),.int .u8 ((wrap32 (128+(Int.tmod (wrap32 (Int.tdiv a0 4096)) 64))) % 256),.int .u8 ((wrap32 (128+(Int.tmod (wrap32 (Int.tdiv a0 64)) 64))) % 256),.int .u8 ((wrap32 (128+(Int.tmod a0 64))) % 256)]) (ok:=fun _=>True) (okp:=fun _=>True) ?hr ?hp (fun _ hk=>hk) trivial (Below.refl _ _) (Nat.le_refl _) (by simp) ?_;(case hd=>rfl);(case hg=>rfl);(case hr=>first|(go_simp;done)|(go_simp;rfl));(case hp=>exact (Reps.one (show Kd.M (Kd.int .u8) _ _ _ ((wrap32 (240+(wrap32 (Int.tdiv a0 262144)))) % 256) [.int .u8 ((wrap32 (240+(wrap32 (Int.tdiv a0 262144)))) % 256)] from rfl) (Reps.one (show Kd.M (Kd.int .u8) _ _ _ ((wrap32 (128+(Int.tmod (wrap32 (Int.tdiv a0 4096)) 64))) % 256) [.int .u8 ((wrap32 (128+(Int.tmod (wrap32 (Int.tdiv a0 4096)) 64))) % 256)] from rfl) (Reps.one (show Kd.M (Kd.int .u8) _ _ _ ((wrap32 (128+(Int.tmod (wrap32 (Int.tdiv a0 64)) 64))) % 256) [.int .u8 ((wrap32 (128+(Int.tmod (wrap32 (Int.tdiv a0 64)) 64))) % 256)] from rfl) (Reps.one (show Kd.M (Kd.int .u8) _ _ _ ((wrap32 (128+(Int.tmod a0 64))) % 256) [.int .u8 ((wrap32 (128+(Int.tmod a0 64))) % 256)] from rfl) (Reps.none _ _))))));intro v112 w13 ho14 hb hg_ hnew_;clear hg_ hnew_;(first|rw [←Ny111.out] at ho14|(simp only [Int.reduceToNat] at ho14;rw [←Ny111.out] at ho14));have n0_:=Aside0.mk (Kd.R_lower ho14 (below_size (by repeat (first|(with_reducible first|exact HB.out|apply below_alloc|apply pw_below_drewN|apply below_drew1)|exact HB.out))));have n1_:=Aside0.mk (below_step (by repeat (first|(with_reducible first|exact HB.out|apply below_alloc|apply pw_below_drewN|apply below_drew1)|exact HB.out)) hb);clear HB;have HO113:=n0_;have HB:=n1_;clear n0_ n1_;clear hb ho14))
         go_ret2;exact ⟨_,by first|rfl|(simp [errW_none,errW_some]<;>rfl)|(simp [*, errW_none,errW_some]<;>rfl),by (with_reducible repeat (first|apply Kd.R_alloc|apply Kd.R_drewN|apply Kd.R_drew));exact HO113.out,by repeat (first|(with_reducible first|exact HB.out|apply below_alloc|apply pw_below_drewN|apply below_drew1)|exact HB.out)⟩
 · replace c3:=Bool.eq_false_iff.mpr c3;subst c3
   have H1:(some (([]:List Int),7))=some (r1,r2):=by rw [if_neg (show ¬(false=true) by decide)] at H;exact H
   clear H;have H:=H1;clear H1;simp only [Option.some.injEq,Prod.mk.injEq] at H;obtain ⟨rfl,rfl⟩:=H;go_enter Tryz.func124,Tryz.ntmps124
   go_wp2_with (first|((with_reducible refine gate_callee (f:=98) rfl ?_);refine goesL_ (some 5) rfl rfl Tryz.func98 (by kernel_rfl) rfl #[.int .i32 a0] rfl (by (try simp only [List.map_toArray,List.map_cons,List.map_nil]);first|done|rfl|(simp only [List.length_drop,List.length_take];rfl)) ?_;(with_reducible refine (mummerref02_Is.calls a0 false _ A2.out).mono ?_);rintro e w' ⟨rfl,⟨nd,rfl⟩⟩;refine ⟨_,rfl,?_⟩))
   go_ret2;exact ⟨_,by first|rfl|(simp [errW_none,errW_some]<;>rfl)|(simp [*, errW_none,errW_some]<;>rfl),by first|exact Kd.R_nil _ _ _ _ _|exact Kd.N_nil _ _ _ _ _|exact Kd.V_nil _ _ _ _ _|exact Kd.Q_nil _ _ _ _ _|exact Kd.S_nil _ _ _ _ _,by repeat (first|(with_reducible first|exact HB.out|apply below_alloc|apply pw_below_drewN|apply below_drew1)|exact HB.out)⟩
end Go.Proofs.YtgmiekggdgmhkaaGreatDoor.E
end
section
namespace Go.Proofs.YtgmiekggdgmhkaaGreatDoor.R
open Go.RowKit Go.Proofs.YtgmiekggdgmhkaaGreatDoorW.PrintWords Go.Proofs.YtgmiekggdgmhkaaGreatDoorW.PrintLast Go.Proofs.YtgmiekggdgmhkaaGreatDoorW.PrintMore
attribute [local go_sem] max2_int min2_int max_two min_two max_three min_three max_four min_four
set_option linter.unusedVariables false
set_option linter.unusedSimpArgs false
def errW:Option Int→Value
 |none=> .nilIface
 |some c=> .iface 0 (.int .i64 c)
theorem errW_none:errW none= .nilIface:=rfl
theorem errW_some (c:Int):errW (some c)= .iface 0 (.int .i64 c):=rfl
theorem info5:(Tryz.prog.info? 5).map (fun i=>(i.zero,i.size,i.bytes))=some (some (.int .u8 0),1,1):=by kernel_rfl
theorem info21:(Tryz.prog.info? 21).map (fun i=>(i.zero,i.size,i.bytes))=some (some (.int .i32 0),1,4):=by kernel_rfl
end Go.Proofs.YtgmiekggdgmhkaaGreatDoor.R
end
section
namespace Go.Proofs.YtgmiekggdgmhkaaGreatDoor.R
open Go.RowKit Go.Proofs.YtgmiekggdgmhkaaGreatDoorW.PrintWords Go.Proofs.YtgmiekggdgmhkaaGreatDoorW.PrintLast Go.Proofs.YtgmiekggdgmhkaaGreatDoorW.PrintMore
attribute [local go_sem] max2_int min2_int max_two min_two max_three min_three max_four min_four
set_option linter.unusedVariables false
set_option linter.unusedSimpArgs false
mutual
def mummerref04_integer.j0:Nat→ByteArray→Bool→Option (Bool)
 |0,_,_=>none
 |k+1,x0,x16=>if x16=true then (if 1≤(x0.size:Int) then (mummerref04_integer.j1 k (x0.extract 1 x0.size)) else (none)) else (mummerref04_integer.j1 k x0)
def mummerref04_integer.j1:Nat→ByteArray→Option (Bool)
 |0,_=>none
 |k+1,x0=>mummerref04_integer.l0 k x0 0
def mummerref04_integer.l0:Nat→ByteArray→Int→Option (Bool)
 |0,_,_=>none
 |k+1,x0,x3=>if x3<(x0.size:Int) then (if 0≤x3 then (if (bt x0 x3)<48 then (some false) else (if (bt x0 x3)>57 then (some false) else (mummerref04_integer.l0 k x0 (wrap64 (x3+1))))) else (none)) else (some (decide ((x0.size:Int)>0)))
end
def mummerref04_integer.f (k:Nat) (a0:ByteArray):Option (Bool):=if (a0.size:Int)>0 then (if 0<(a0.size:Int) then (if (bt a0 0)=43 then (mummerref04_integer.j0 k a0 true) else (mummerref04_integer.j0 k a0 ((bt a0 0)==45))) else (none)) else (mummerref04_integer.j0 k a0 false)
set_option maxHeartbeats 8000000 in
set_option maxRecDepth 100000 in
theorem mummerref04_integer.calls (k:Nat) (a0:ByteArray) (r:Bool) (w:World) (h:mummerref04_integer.f k a0=some r):
 Calls Tryz.prog 64 #[.string a0] w fun e w'=>e= .returned (.bool r)∧Drawn0 w w':=by
 have H:(if (a0.size:Int)>0 then (if 0<(a0.size:Int) then (if (bt a0 0)=43 then (mummerref04_integer.j0 k a0 true) else (mummerref04_integer.j0 k a0 ((bt a0 0)==45))) else (none)) else (mummerref04_integer.j0 k a0 false))=some r:=h;clear h;have HC2:=Aside0.mk H;clear H;go_enter Tryz.func64,Tryz.ntmps64
 go_upto_region 1 with (fail)
 go_cut [16] (fun v16 wc=> ∃(kq:Nat) (x16_1:Bool),v16= .bool x16_1∧Aside0 (mummerref04_integer.j0 kq a0 x16_1=some r)∧Aside0 (kq≤k)∧Drawn0 w wc)
 case first=>
  have H:=HC2.out;clear HC2;by_cases c3:(a0.size:Int)>0
  · rw [if_pos c3] at H;have c3b0:decide (0<(a0.size:Int))=true:=decide_eq_true c3;have c3b1:decide (0<a0.size)=true:=decide_eq_true (by omega);clear c3
    (first|rw [c3b0]|(simp only [i64_w,i32_w];rw [c3b0])|skip)
    by_cases c4:0<(a0.size:Int)
    · rw [if_pos c4] at H;have c4b0:decide (0<(a0.size:Int))=true:=decide_eq_true c4;have c4b1:decide (0<a0.size)=true:=decide_eq_true (by omega);clear c4;by_cases c6:(bt a0 0)=43
      · rw [if_pos c6] at H;have c6b0:((bt a0 0)==43)=true:=beq_iff_eq.mpr c6;have c6b1:((bt a0 0) != 43)=false:=bne_eq_false_iff_eq.mpr c6;clear c6;have H':=Aside0.mk H;clear H
        have p5:0≤(0:Int):=(by omega)
        have q5:0<a0.size:=(by have:(0:Int)<(a0.size:Int):=of_decide_eq_true (by first|(with_reducible assumption)|assumption);omega)
        have hx5: ∀h:0<a0.size,((a0[0]'h).toNat:Int)=bt a0 0:=bt_at a0 0;clear p5;have qi5:(0<(a0.size:Int))=True:=eq_true (of_decide_eq_true (by first|(with_reducible assumption)|assumption));replace q5:=eq_true q5;go_wp2
        go_meet
        case rel=>exact ⟨_,(true),(by first|rfl|(simp;done)|(simp [*];done)),H',⟨by first|omega|exact Nat.le_refl _⟩,by repeat (first|exact Drawn0.refl _|apply Drawn0.step)⟩
      · rw [if_neg c6] at H;have c6b0:((bt a0 0)==43)=false:=beq_eq_false_iff_ne.mpr c6;have c6b1:((bt a0 0) != 43)=true:=bne_iff_ne.mpr c6;have H':=Aside0.mk H;clear H
        have p5:0≤(0:Int):=(by omega)
        have q5:0<a0.size:=(by have:(0:Int)<(a0.size:Int):=of_decide_eq_true (by first|(with_reducible assumption)|assumption);omega)
        have hx5: ∀h:0<a0.size,((a0[0]'h).toNat:Int)=bt a0 0:=bt_at a0 0;clear p5;have qi5:(0<(a0.size:Int))=True:=eq_true (of_decide_eq_true (by first|(with_reducible assumption)|assumption));replace q5:=eq_true q5
        have p7:0≤(0:Int):=(by omega)
        have q7:0<a0.size:=(by have:(0:Int)<(a0.size:Int):=of_decide_eq_true (by first|(with_reducible assumption)|assumption);omega)
        have hx7: ∀h:0<a0.size,((a0[0]'h).toNat:Int)=bt a0 0:=bt_at a0 0;clear p7;have qi7:(0<(a0.size:Int))=True:=eq_true (of_decide_eq_true (by first|(with_reducible assumption)|assumption));replace q7:=eq_true q7;go_wp2
        go_meet
        case rel=>exact ⟨_,(((bt a0 0)==45)),(by first|rfl|(simp;done)|(simp [*];done)),H',⟨by first|omega|exact Nat.le_refl _⟩,by repeat (first|exact Drawn0.refl _|apply Drawn0.step)⟩
    · rw [if_neg c4] at H;exact absurd H (by simp)
  · rw [if_neg c3] at H;have c3b0:decide (0<(a0.size:Int))=false:=decide_eq_false c3;have c3b1:decide (0<a0.size)=false:=decide_eq_false (by omega);clear c3
    (first|rw [c3b0]|(simp only [i64_w,i32_w];rw [c3b0])|skip)
    have H':=Aside0.mk H;clear H;go_wp2
    go_meet
    case rel=>exact ⟨_,(false),(by first|rfl|(simp;done)|(simp [*];done)),H',⟨by first|omega|exact Nat.le_refl _⟩,by repeat (first|exact Drawn0.refl _|apply Drawn0.step)⟩
 case rest=>
  clear HC2
  try clear p2
  try clear c3
  try clear c3b0
  try clear c3b1
  try clear c4
  try clear c4b0
  try clear c4b1
  try clear p5
  try clear q5
  try clear hx5
  try clear qi5
  try clear c6
  try clear c6b0
  try clear c6b1
  try clear p7
  try clear q7
  try clear hx7
  try clear qi7
  try clear p5
  try clear p7
  try clear q5
  try clear q7
  obtain ⟨kq,x16_1,rfl,HA,HJ1,⟨mc1,rfl⟩⟩:=hcut
  cases kq with
  |zero=>exact absurd HA.out (by simp [mummerref04_integer.j0])
  |succ kj1=>
   have H:=HA.out;clear HA;simp only [mummerref04_integer.j0] at H;have HC8:=Aside0.mk H;clear H
   go_upto_if 16 with (fail)
   go_cut [0] (fun v0 wc=> ∃(kq:Nat) (x0_7:ByteArray),v0= .string x0_7∧Aside0 (mummerref04_integer.j1 kq x0_7=some r)∧Aside0 (kq≤kj1)∧Drawn0 w wc)
   case first=>
        have H:=HC8.out;clear HC8;by_cases c9:x16_1=true
        · subst c9
          have H1:(if 1≤(a0.size:Int) then (mummerref04_integer.j1 kj1 (a0.extract 1 a0.size)) else (none))=some r:=by rw [if_pos rfl] at H;exact H
          clear H;have H:=H1;clear H1;by_cases c10:1≤(a0.size:Int)
          · rw [if_pos c10] at H;have c10b0:=eq_true c10;have c10b1:decide (1≤(a0.size:Int))=true:=decide_eq_true c10;clear c10;have H':=Aside0.mk H;clear H;go_wp2
            go_meet
            case rel=>exact ⟨_,(a0.extract 1 a0.size),(by first|rfl|(simp;done)|(simp [*];done)),H',⟨by have:=HJ1.out;first|omega|exact Nat.le_refl _⟩,by repeat (first|exact Drawn0.refl _|apply Drawn0.step)⟩
          · rw [if_neg c10] at H;exact absurd H (by simp)
        · replace c9:=Bool.eq_false_iff.mpr c9;subst c9
          have H1:(mummerref04_integer.j1 kj1 a0)=some r:=by rw [if_neg (show ¬(false=true) by decide)] at H;exact H
          clear H;have H:=H1;clear H1;have H':=Aside0.mk H;clear H;go_wp2
          go_meet
          case rel=>exact ⟨_,(a0),(by first|rfl|(simp;done)|(simp [*];done)),H',⟨by have:=HJ1.out;first|omega|exact Nat.le_refl _⟩,by repeat (first|exact Drawn0.refl _|apply Drawn0.step)⟩
   case rest=>
        clear HC8
        try clear c1
        try clear p2
        try clear c3
        try clear c3b0
        try clear c3b1
        try clear c4
        try clear c4b0
        try clear c4b1
        try clear p5
        try clear q5
        try clear hx5
        try clear qi5
        try clear c6
        try clear c6b0
        try clear c6b1
        try clear p7
        try clear q7
        try clear hx7
        try clear qi7
        try clear c9
        try clear c10
        try clear c10b0
        try clear c10b1
        try clear p2
        try clear p5
        try clear p7
        try clear q5
        try clear q7
        obtain ⟨kq,x0_7,rfl,HA,HJ7,⟨mc7,rfl⟩⟩:=hcut
        cases kq with
        |zero=>exact absurd HA.out (by simp [mummerref04_integer.j1])
        |succ kj7=>
         have H:=HA.out;clear HA;simp only [mummerref04_integer.j1] at H;have H':=Aside0.mk H;clear H;go_wp2
         go_loopg [3] kj7 (fun kq v3 w'=> ∃(x3_3:Int),v3= .int .i64 x3_3∧Aside0 (mummerref04_integer.l0 kq x0_7 x3_3=some r)∧Aside0 (kq≤kj7)∧Drawn0 w w')
         case atStart=>exact ⟨(0),(by first|rfl|(simp;done)|(simp [*];done)),H',⟨Nat.le_refl _⟩,by repeat (first|exact Drawn0.refl _|apply Drawn0.step)⟩
         case round=>
          clear H'
          try clear c1
          try clear p2
          try clear c3
          try clear c3b0
          try clear c3b1
          try clear c4
          try clear c4b0
          try clear c4b1
          try clear p5
          try clear q5
          try clear hx5
          try clear qi5
          try clear c6
          try clear c6b0
          try clear c6b1
          try clear c7
          try clear p7
          try clear q7
          try clear hx7
          try clear qi7
          try clear c9
          try clear c10
          try clear c10b0
          try clear c10b1
          try clear p2
          try clear p5
          try clear p7
          try clear q5
          try clear q7
          obtain ⟨x3_3,rfl,HA,HK3,⟨m3,rfl⟩⟩:=hrel
          cases gk with
          |zero=>exact absurd HA.out (by simp [mummerref04_integer.l0])
          |succ k3=>
           have H:=HA.out;clear HA;simp only [mummerref04_integer.l0] at H;by_cases c11:x3_3<(x0_7.size:Int)
           · rw [if_pos c11] at H;have c11b0:decide (x3_3<(x0_7.size:Int))=true:=decide_eq_true c11;clear c11;by_cases c12:0≤x3_3
             · rw [if_pos c12] at H;have c12b0:decide (0≤x3_3)=true:=decide_eq_true c12;clear c12;by_cases c14:(bt x0_7 x3_3)<48
               · rw [if_pos c14] at H;have c14b0:decide ((bt x0_7 x3_3)<48)=true:=decide_eq_true c14;clear c14;obtain rfl:=Option.some.inj H;have p13:0≤(x3_3:Int):=of_decide_eq_true (by first|(with_reducible assumption)|assumption);have q13:x3_3<(x0_7.size:Int):=of_decide_eq_true (by first|(with_reducible assumption)|assumption);have hx13:=bt_at x0_7 x3_3;replace p13:=eq_true p13;replace q13:=eq_true q13;go_wp2;go_ret;exact ⟨by first|rfl|(simp;done)|(simp [*];done),by repeat (first|exact Drawn0.refl _|apply Drawn0.step)⟩
               · rw [if_neg c14] at H;have c14b0:decide ((bt x0_7 x3_3)<48)=false:=decide_eq_false c14;clear c14;by_cases c16:(bt x0_7 x3_3)>57
                 · rw [if_pos c16] at H;have c16b0:decide (57<(bt x0_7 x3_3))=true:=decide_eq_true c16;clear c16;obtain rfl:=Option.some.inj H;have p13:0≤(x3_3:Int):=of_decide_eq_true (by first|(with_reducible assumption)|assumption);have q13:x3_3<(x0_7.size:Int):=of_decide_eq_true (by first|(with_reducible assumption)|assumption);have hx13:=bt_at x0_7 x3_3;replace p13:=eq_true p13;replace q13:=eq_true q13;have p15:0≤(x3_3:Int):=of_decide_eq_true (by first|(with_reducible assumption)|assumption);have q15:x3_3<(x0_7.size:Int):=of_decide_eq_true (by first|(with_reducible assumption)|assumption);have hx15:=bt_at x0_7 x3_3;replace p15:=eq_true p15;replace q15:=eq_true q15;go_wp2;go_ret;exact ⟨by first|rfl|(simp;done)|(simp [*];done),by repeat (first|exact Drawn0.refl _|apply Drawn0.step)⟩
                 · rw [if_neg c16] at H;have c16b0:decide (57<(bt x0_7 x3_3))=false:=decide_eq_false c16;clear c16;have H':=Aside0.mk H;clear H;have p13:0≤(x3_3:Int):=of_decide_eq_true (by first|(with_reducible assumption)|assumption);have q13:x3_3<(x0_7.size:Int):=of_decide_eq_true (by first|(with_reducible assumption)|assumption);have hx13:=bt_at x0_7 x3_3;replace p13:=eq_true p13;replace q13:=eq_true q13;have p15:0≤(x3_3:Int):=of_decide_eq_true (by first|(with_reducible assumption)|assumption);have q15:x3_3<(x0_7.size:Int):=of_decide_eq_true (by first|(with_reducible assumption)|assumption);have hx15:=bt_at x0_7 x3_3;replace p15:=eq_true p15;replace q15:=eq_true q15;go_wp2;go_roundg k3
                   case measure=>have:=HJ1.out;have:=HJ7.out;have:=HK3.out;omega
                   case rel=>exact ⟨(wrap64 (x3_3+1)),(by first|rfl|(simp;done)|(simp [*];done)),H',⟨by have:=HJ1.out;have:=HJ7.out;have:=HK3.out;omega⟩,by repeat (first|exact Drawn0.refl _|apply Drawn0.step)⟩
             · rw [if_neg c12] at H;exact absurd H (by simp)
           · rw [if_neg c11] at H;have c11b0:decide (x3_3<(x0_7.size:Int))=false:=decide_eq_false c11;clear c11;obtain rfl:=Option.some.inj H;go_wp2;go_ret;exact ⟨by first|rfl|(simp;done)|(simp [*];done),by repeat (first|exact Drawn0.refl _|apply Drawn0.step)⟩
end Go.Proofs.YtgmiekggdgmhkaaGreatDoor.R
end
section
namespace Go.Proofs.YtgmiekggdgmhkaaGreatDoor.Q
open Go.RowKit Go.Proofs.YtgmiekggdgmhkaaGreatDoorW.PrintWords Go.Proofs.YtgmiekggdgmhkaaGreatDoorW.PrintLast Go.Proofs.YtgmiekggdgmhkaaGreatDoorW.PrintMore
attribute [local go_sem] max2_int min2_int max_two min_two max_three min_three max_four min_four
set_option linter.unusedVariables false
set_option linter.unusedSimpArgs false
def mummerlaw04_Far.l0:Nat→List (S40)→Int→Option (Bool)
 |0,_,_=>none
 |k+1,x0,x3=>if x3<(x0.length:Int) then (if 0≤x3 then (if (((rd_T40 x0 x3).f3).size:Int)>100 then (some true) else (mummerlaw04_Far.l0 k x0 (wrap64 (x3+1)))) else (none)) else (some false)
def mummerlaw04_Far.f (k:Nat) (l0:List (S40)):Option (Bool):=if (l0.length:Int)>410 then (some true) else (mummerlaw04_Far.l0 k l0 0)
set_option maxHeartbeats 8000000 in
set_option maxRecDepth 100000 in
theorem mummerlaw04_Far.calls (k:Nat) (A0:Option Addr) (c0:Nat) (l0:List (S40)) (r:Bool) (w:World) (hr0:Kd.C k40 w A0 l0.length l0) (hc0:l0.length≤c0) (h:mummerlaw04_Far.f k l0=some r):
 Calls Tryz.prog 4 #[.slice A0 l0.length c0] w fun e w'=>e= .returned (.bool r)∧Drawn0 w w':=by
 have HR0:=Aside0.mk hr0;have HC0:=Aside0.mk hc0;clear hr0 hc0;have H:(if (l0.length:Int)>410 then (some true) else (mummerlaw04_Far.l0 k l0 0))=some r:=h;clear h;by_cases c2:(l0.length:Int)>410
 · rw [if_pos c2] at H;have c2b0:decide (410<(l0.length:Int))=true:=decide_eq_true c2;have c2b1:decide (410<l0.length)=true:=decide_eq_true (by omega);clear c2;obtain rfl:=Option.some.inj H;go_enter Tryz.func4,Tryz.ntmps4;go_wp2;go_ret;exact ⟨by first|rfl|(simp;done)|(simp [*];done),by repeat (first|exact Drawn0.refl _|apply Drawn0.step)⟩
 · rw [if_neg c2] at H;have c2b0:decide (410<(l0.length:Int))=false:=decide_eq_false c2;have c2b1:decide (410<l0.length)=false:=decide_eq_false (by omega);clear c2;have H':=Aside0.mk H;clear H;go_enter Tryz.func4,Tryz.ntmps4;go_wp2
   go_loopg [3] k (fun kq v3 w'=> ∃(x3_1:Int),v3= .int .i64 x3_1∧Aside0 (mummerlaw04_Far.l0 kq l0 x3_1=some r)∧Aside0 (kq≤k)∧Drawn0 w w')
   case atStart=>exact ⟨(0),(by first|rfl|(simp;done)|(simp [*];done)),H',⟨Nat.le_refl _⟩,by repeat (first|exact Drawn0.refl _|apply Drawn0.step)⟩
   case round=>
    clear H'
    try clear c2
    try clear c2b0
    try clear c2b1
    try clear p2
    obtain ⟨x3_1,rfl,HA,HK1,⟨m1,rfl⟩⟩:=hrel
    cases gk with
    |zero=>exact absurd HA.out (by simp [mummerlaw04_Far.l0])
    |succ k1=>
     have H:=HA.out;clear HA;simp only [mummerlaw04_Far.l0] at H;by_cases c3:x3_1<(l0.length:Int)
     · rw [if_pos c3] at H;have c3b0:decide (x3_1<(l0.length:Int))=true:=decide_eq_true c3;clear c3;by_cases c4:0≤x3_1
       · rw [if_pos c4] at H;have c4b0:decide (0≤x3_1)=true:=decide_eq_true c4;clear c4;by_cases c5:(((rd_T40 l0 x3_1).f3).size:Int)>100
         · rw [if_pos c5] at H;have c5b0:decide (100<(((rd_T40 l0 x3_1).f3).size:Int))=true:=decide_eq_true c5;have c5b1:decide (100<((rd_T40 l0 x3_1).f3).size)=true:=decide_eq_true (by omega);clear c5;obtain rfl:=Option.some.inj H;have p101:0≤(x3_1:Int):=of_decide_eq_true (by first|(with_reducible assumption)|assumption);have q101:x3_1<(l0.length:Int):=of_decide_eq_true (by first|(with_reducible assumption)|assumption);obtain ⟨ad101,e101,hx101_0,hx101_1,hx101_2,hx101_3⟩:=at_T40 HR0.out x3_1 p101 q101;cases e101;replace p101:=eq_true p101;replace q101:=eq_true q101;go_wp2;go_ret;exact ⟨by first|rfl|(simp;done)|(simp [*];done),by repeat (first|exact Drawn0.refl _|apply Drawn0.step)⟩
         · rw [if_neg c5] at H;have c5b0:decide (100<(((rd_T40 l0 x3_1).f3).size:Int))=false:=decide_eq_false c5;have c5b1:decide (100<((rd_T40 l0 x3_1).f3).size)=false:=decide_eq_false (by omega);clear c5;have H':=Aside0.mk H;clear H;have p101:0≤(x3_1:Int):=of_decide_eq_true (by first|(with_reducible assumption)|assumption);have q101:x3_1<(l0.length:Int):=of_decide_eq_true (by first|(with_reducible assumption)|assumption);obtain ⟨ad101,e101,hx101_0,hx101_1,hx101_2,hx101_3⟩:=at_T40 HR0.out x3_1 p101 q101;cases e101;replace p101:=eq_true p101;replace q101:=eq_true q101;go_wp2;go_roundg k1
           case measure=>have:=HK1.out;omega
           case rel=>exact ⟨(wrap64 (x3_1+1)),(by first|rfl|(simp;done)|(simp [*];done)),H',⟨by have:=HK1.out;omega⟩,by repeat (first|exact Drawn0.refl _|apply Drawn0.step)⟩
       · rw [if_neg c4] at H;exact absurd H (by simp)
     · rw [if_neg c3] at H;have c3b0:decide (x3_1<(l0.length:Int))=false:=decide_eq_false c3;clear c3;obtain rfl:=Option.some.inj H;go_wp2;go_ret;exact ⟨by first|rfl|(simp;done)|(simp [*];done),by repeat (first|exact Drawn0.refl _|apply Drawn0.step)⟩
def mummerlaw04_many.l0:Nat→List ByteArray→Int→Option (Bool)
 |0,_,_=>none
 |k+1,x0,x3=>if x3<(x0.length:Int) then (if 0≤x3 then (if ((rdOf ByteArray.empty x0 x3).size:Int)>100 then (some true) else (mummerlaw04_many.l0 k x0 (wrap64 (x3+1)))) else (none)) else (some false)
def mummerlaw04_many.f (k:Nat) (l0:List ByteArray):Option (Bool):=if (l0.length:Int)>50 then (some true) else (mummerlaw04_many.l0 k l0 0)
set_option maxHeartbeats 8000000 in
set_option maxRecDepth 100000 in
theorem mummerlaw04_many.calls (k:Nat) (A0:Option Addr) (c0:Nat) (l0:List ByteArray) (r:Bool) (w:World) (hr0:Kd.C Kd.string w A0 l0.length l0) (hc0:l0.length≤c0) (h:mummerlaw04_many.f k l0=some r):
 Calls Tryz.prog 5 #[.slice A0 l0.length c0] w fun e w'=>e= .returned (.bool r)∧Drawn0 w w':=by
 have HR0:=Aside0.mk hr0;have HC0:=Aside0.mk hc0;clear hr0 hc0;have H:(if (l0.length:Int)>50 then (some true) else (mummerlaw04_many.l0 k l0 0))=some r:=h;clear h;by_cases c2:(l0.length:Int)>50
 · rw [if_pos c2] at H;have c2b0:decide (50<(l0.length:Int))=true:=decide_eq_true c2;have c2b1:decide (50<l0.length)=true:=decide_eq_true (by omega);clear c2;obtain rfl:=Option.some.inj H;go_enter Tryz.func5,Tryz.ntmps5;go_wp2;go_ret;exact ⟨by first|rfl|(simp;done)|(simp [*];done),by repeat (first|exact Drawn0.refl _|apply Drawn0.step)⟩
 · rw [if_neg c2] at H;have c2b0:decide (50<(l0.length:Int))=false:=decide_eq_false c2;have c2b1:decide (50<l0.length)=false:=decide_eq_false (by omega);clear c2;have H':=Aside0.mk H;clear H;go_enter Tryz.func5,Tryz.ntmps5;go_wp2
   go_loopg [3] k (fun kq v3 w'=> ∃(x3_1:Int),v3= .int .i64 x3_1∧Aside0 (mummerlaw04_many.l0 kq l0 x3_1=some r)∧Aside0 (kq≤k)∧Drawn0 w w')
   case atStart=>exact ⟨(0),(by first|rfl|(simp;done)|(simp [*];done)),H',⟨Nat.le_refl _⟩,by repeat (first|exact Drawn0.refl _|apply Drawn0.step)⟩
   case round=>
    clear H'
    try clear c2
    try clear c2b0
    try clear c2b1
    try clear p2
    obtain ⟨x3_1,rfl,HA,HK1,⟨m1,rfl⟩⟩:=hrel
    cases gk with
    |zero=>exact absurd HA.out (by simp [mummerlaw04_many.l0])
    |succ k1=>
     have H:=HA.out;clear HA;simp only [mummerlaw04_many.l0] at H;by_cases c3:x3_1<(l0.length:Int)
     · rw [if_pos c3] at H;have c3b0:decide (x3_1<(l0.length:Int))=true:=decide_eq_true c3;clear c3;by_cases c4:0≤x3_1
       · rw [if_pos c4] at H;have c4b0:decide (0≤x3_1)=true:=decide_eq_true c4;clear c4;by_cases c5:((rdOf ByteArray.empty l0 x3_1).size:Int)>100
         · rw [if_pos c5] at H;have c5b0:decide (100<((rdOf ByteArray.empty l0 x3_1).size:Int))=true:=decide_eq_true c5;have c5b1:decide (100<(rdOf ByteArray.empty l0 x3_1).size)=true:=decide_eq_true (by omega);clear c5;obtain rfl:=Option.some.inj H;have p102:0≤(x3_1:Int):=of_decide_eq_true (by first|(with_reducible assumption)|assumption);have q102:x3_1<(l0.length:Int):=of_decide_eq_true (by first|(with_reducible assumption)|assumption);obtain ⟨ad102,e102,hx102_0⟩:=Kd.at_string HR0.out x3_1 p102 q102;cases e102;replace p102:=eq_true p102;replace q102:=eq_true q102;go_wp2;go_ret;exact ⟨by first|rfl|(simp;done)|(simp [*];done),by repeat (first|exact Drawn0.refl _|apply Drawn0.step)⟩
         · rw [if_neg c5] at H;have c5b0:decide (100<((rdOf ByteArray.empty l0 x3_1).size:Int))=false:=decide_eq_false c5;have c5b1:decide (100<(rdOf ByteArray.empty l0 x3_1).size)=false:=decide_eq_false (by omega);clear c5;have H':=Aside0.mk H;clear H;have p102:0≤(x3_1:Int):=of_decide_eq_true (by first|(with_reducible assumption)|assumption);have q102:x3_1<(l0.length:Int):=of_decide_eq_true (by first|(with_reducible assumption)|assumption);obtain ⟨ad102,e102,hx102_0⟩:=Kd.at_string HR0.out x3_1 p102 q102;cases e102;replace p102:=eq_true p102;replace q102:=eq_true q102;go_wp2;go_roundg k1
           case measure=>have:=HK1.out;omega
           case rel=>exact ⟨(wrap64 (x3_1+1)),(by first|rfl|(simp;done)|(simp [*];done)),H',⟨by have:=HK1.out;omega⟩,by repeat (first|exact Drawn0.refl _|apply Drawn0.step)⟩
       · rw [if_neg c4] at H;exact absurd H (by simp)
     · rw [if_neg c3] at H;have c3b0:decide (x3_1<(l0.length:Int))=false:=decide_eq_false c3;clear c3;obtain rfl:=Option.some.inj H;go_wp2;go_ret;exact ⟨by first|rfl|(simp;done)|(simp [*];done),by repeat (first|exact Drawn0.refl _|apply Drawn0.step)⟩
end Go.Proofs.YtgmiekggdgmhkaaGreatDoor.Q
end
section
namespace Go.Proofs.YtgmiekggdgmhkaaGreatDoor.Q
open Go.RowKit Go.Proofs.YtgmiekggdgmhkaaGreatDoorW.PrintWords Go.Proofs.YtgmiekggdgmhkaaGreatDoorW.PrintLast Go.Proofs.YtgmiekggdgmhkaaGreatDoorW.PrintMore
attribute [local go_sem] max2_int min2_int max_two min_two max_three min_three max_four min_four
set_option linter.unusedVariables false
set_option linter.unusedSimpArgs false
attribute [local go_sem high] eqA40
def mummerref04_Same.l0:Nat→List (S40)→List (S40)→Int→Option (Bool)
 |0,_,_,_=>none
 |k+1,x0,x1,x5=>if x5<(x0.length:Int) then (if 0≤x5 then (if x5<(x1.length:Int) then (if (!(((rd_T40 x0 x5).f0)==((rd_T40 x1 x5).f0))||(!(((rd_T40 x0 x5).f1)==((rd_T40 x1 x5).f1))||(!(((rd_T40 x0 x5).f2)==((rd_T40 x1 x5).f2))||(!((((rd_T40 x0 x5).f3).toList)==(((rd_T40 x1 x5).f3).toList))))))=true then (some false) else (mummerref04_Same.l0 k x0 x1 (wrap64 (x5+1)))) else (none)) else (none)) else (some true)
def mummerref04_Same.f (k:Nat) (l0:List (S40)) (l1:List (S40)):Option (Bool):=if (l0.length:Int)=(l1.length:Int) then (mummerref04_Same.l0 k l0 l1 0) else (some false)
theorem mummerref04_Same.mono_l: ∀k,(∀y0 y1 y2,LeO (mummerref04_Same.l0 k y0 y1 y2) (mummerref04_Same.l0 (k+1) y0 y1 y2))
 |0=>fun _ _ _ r h=>by simp [mummerref04_Same.l0] at h
 |k+1=>by
  have ih0:=mummerref04_Same.mono_l k
  · intro y0 y1 y2;unfold mummerref04_Same.l0
    repeat' first
    |(with_reducible exact ih0 _ _ _)
    |(with_reducible exact LeO.refl _)
    |(with_reducible exact LeO.none _)
    |(with_reducible refine LeO.ite ?_ ?_)
    |(with_reducible refine LeO.bind ?_ (fun _=>?_))
    |exact ih0 _ _ _
    |exact LeO.none _
    |refine LeO.ite ?_ ?_
    |refine LeO.bind ?_ (fun _=>?_)
theorem mummerref04_Same.mono: ∀a0 a1 k,LeO (mummerref04_Same.f k a0 a1) (mummerref04_Same.f (k+1) a0 a1):=by
 intro a0 a1 k;have ih0:=mummerref04_Same.mono_l k;unfold mummerref04_Same.f
 repeat' first
  |(with_reducible exact ih0 _ _ _)
  |(with_reducible exact LeO.refl _)
  |(with_reducible exact LeO.none _)
  |(with_reducible refine LeO.ite ?_ ?_)
  |(with_reducible refine LeO.bind ?_ (fun _=>?_))
  |exact ih0 _ _ _
  |exact LeO.none _
  |refine LeO.ite ?_ ?_
  |refine LeO.bind ?_ (fun _=>?_)
set_option maxHeartbeats 8000000 in
set_option maxRecDepth 100000 in
theorem mummerref04_Same.calls (k:Nat) (A0:Option Addr) (c0:Nat) (l0:List (S40)) (A1:Option Addr) (c1:Nat) (l1:List (S40)) (r:Bool) (w:World) (hr0:Kd.C k40 w A0 l0.length l0) (hc0:l0.length≤c0) (hr1:Kd.C k40 w A1 l1.length l1) (hc1:l1.length≤c1) (h:mummerref04_Same.f k l0 l1=some r):
 Calls Tryz.prog 14 #[.slice A0 l0.length c0,.slice A1 l1.length c1] w fun e w'=>e= .returned (.bool r)∧Drawn0 w w':=by
 have hu40:=Tryz.underlying40;have HR0:=Aside0.mk hr0;have HC0:=Aside0.mk hc0;clear hr0 hc0;have HR1:=Aside0.mk hr1;have HC1:=Aside0.mk hc1;clear hr1 hc1;have H:(if (l0.length:Int)=(l1.length:Int) then (mummerref04_Same.l0 k l0 l1 0) else (some false))=some r:=h;clear h
 by_cases c3:(l0.length:Int)=(l1.length:Int)
 · rw [if_pos c3] at H;have c3b0:((l0.length:Int)==(l1.length:Int))=true:=beq_iff_eq.mpr c3;have c3b1:((l0.length:Int) != (l1.length:Int))=false:=bne_eq_false_iff_eq.mpr c3
   have c3b2:(l0.length==l1.length)=true:=by first|simpa using c3|(simp at c3 ⊢; omega)
   clear c3;have H':=Aside0.mk H;clear H;go_enter Tryz.func14,Tryz.ntmps14;go_wp2
   repeat (go_quiet (fail);try go_wp2)
   go_loopg [5] k (fun kq v5 w'=> ∃(x5_1:Int),v5= .int .i64 x5_1∧Aside0 (mummerref04_Same.l0 kq l0 l1 x5_1=some r)∧Aside0 (kq≤k)∧Drawn0 w w')
   case atStart=>exact ⟨(0),(by first|rfl|(simp;done)|(simp [*];done)),H',⟨Nat.le_refl _⟩,by repeat (first|exact Drawn0.refl _|apply Drawn0.step)⟩
   case round=>
    clear H'
    try clear c1
    try clear p2
    try clear c3
    try clear c3b0
    try clear c3b1
    try clear c3b2
    obtain ⟨x5_1,rfl,HA,HK1,⟨m1,rfl⟩⟩:=hrel
    cases gk with
    |zero=>exact absurd HA.out (by simp [mummerref04_Same.l0])
    |succ k1=>
     have H:=HA.out;clear HA;simp only [mummerref04_Same.l0] at H;by_cases c4:x5_1<(l0.length:Int)
     · rw [if_pos c4] at H;have c4b0:decide (x5_1<(l0.length:Int))=true:=decide_eq_true c4;clear c4;by_cases c5:0≤x5_1
       · rw [if_pos c5] at H;have c5b0:decide (0≤x5_1)=true:=decide_eq_true c5;clear c5;by_cases c6:x5_1<(l1.length:Int)
         · rw [if_pos c6] at H;have c6b0:decide (x5_1<(l1.length:Int))=true:=decide_eq_true c6;clear c6;by_cases c7:(!(((rd_T40 l0 x5_1).f0)==((rd_T40 l1 x5_1).f0))||(!(((rd_T40 l0 x5_1).f1)==((rd_T40 l1 x5_1).f1))||(!(((rd_T40 l0 x5_1).f2)==((rd_T40 l1 x5_1).f2))||(!((((rd_T40 l0 x5_1).f3).toList)==(((rd_T40 l1 x5_1).f3).toList))))))=true
           · rw [if_pos c7] at H;have c7b0:(!(((rd_T40 l0 x5_1).f0)==((rd_T40 l1 x5_1).f0))||(!(((rd_T40 l0 x5_1).f1)==((rd_T40 l1 x5_1).f1))||(!(((rd_T40 l0 x5_1).f2)==((rd_T40 l1 x5_1).f2))||(!((((rd_T40 l0 x5_1).f3).toList)==(((rd_T40 l1 x5_1).f3).toList))))))=true:=c7;clear c7;obtain rfl:=Option.some.inj H;have p103:0≤(x5_1:Int):=of_decide_eq_true (by first|(with_reducible assumption)|assumption);have q103:x5_1<(l0.length:Int):=of_decide_eq_true (by first|(with_reducible assumption)|assumption);obtain ⟨ad103,e103,hx103_0,hx103_1,hx103_2,hx103_3⟩:=at_T40 HR0.out x5_1 p103 q103;cases e103;replace p103:=eq_true p103;replace q103:=eq_true q103;have p104:0≤(x5_1:Int):=of_decide_eq_true (by first|(with_reducible assumption)|assumption);have q104:x5_1<(l1.length:Int):=of_decide_eq_true (by first|(with_reducible assumption)|assumption);obtain ⟨ad104,e104,hx104_0,hx104_1,hx104_2,hx104_3⟩:=at_T40 HR1.out x5_1 p104 q104;cases e104;replace p104:=eq_true p104;replace q104:=eq_true q104;go_wp2
             repeat (go_quiet (fail);try go_wp2)
             go_ret;exact ⟨by first|rfl|(simp;done)|(simp [*];done),by repeat (first|exact Drawn0.refl _|apply Drawn0.step)⟩
           · rw [if_neg c7] at H
             have c7b0:(!(((rd_T40 l0 x5_1).f0)==((rd_T40 l1 x5_1).f0))||(!(((rd_T40 l0 x5_1).f1)==((rd_T40 l1 x5_1).f1))||(!(((rd_T40 l0 x5_1).f2)==((rd_T40 l1 x5_1).f2))||(!((((rd_T40 l0 x5_1).f3).toList)==(((rd_T40 l1 x5_1).f3).toList))))))=false:=by simpa using c7
             clear c7;have H':=Aside0.mk H;clear H;have p103:0≤(x5_1:Int):=of_decide_eq_true (by first|(with_reducible assumption)|assumption);have q103:x5_1<(l0.length:Int):=of_decide_eq_true (by first|(with_reducible assumption)|assumption);obtain ⟨ad103,e103,hx103_0,hx103_1,hx103_2,hx103_3⟩:=at_T40 HR0.out x5_1 p103 q103;cases e103;replace p103:=eq_true p103;replace q103:=eq_true q103;have p104:0≤(x5_1:Int):=of_decide_eq_true (by first|(with_reducible assumption)|assumption);have q104:x5_1<(l1.length:Int):=of_decide_eq_true (by first|(with_reducible assumption)|assumption);obtain ⟨ad104,e104,hx104_0,hx104_1,hx104_2,hx104_3⟩:=at_T40 HR1.out x5_1 p104 q104;cases e104;replace p104:=eq_true p104;replace q104:=eq_true q104;go_wp2
             repeat (go_quiet (fail);try go_wp2)
             go_roundg k1
             case measure=>have:=HK1.out;omega
             case rel=>exact ⟨(wrap64 (x5_1+1)),(by first|rfl|(simp;done)|(simp [*];done)),H',⟨by have:=HK1.out;omega⟩,by repeat (first|exact Drawn0.refl _|apply Drawn0.step)⟩
         · rw [if_neg c6] at H;exact absurd H (by simp)
       · rw [if_neg c5] at H;exact absurd H (by simp)
     · rw [if_neg c4] at H;have c4b0:decide (x5_1<(l0.length:Int))=false:=decide_eq_false c4;clear c4;obtain rfl:=Option.some.inj H;go_wp2
       repeat (go_quiet (fail);try go_wp2)
       go_ret;exact ⟨by first|rfl|(simp;done)|(simp [*];done),by repeat (first|exact Drawn0.refl _|apply Drawn0.step)⟩
 · rw [if_neg c3] at H;have c3b0:((l0.length:Int)==(l1.length:Int))=false:=beq_eq_false_iff_ne.mpr c3;have c3b1:((l0.length:Int) != (l1.length:Int))=true:=bne_iff_ne.mpr c3
   have c3b2:(l0.length==l1.length)=false:=by first|simpa using c3|(simp at c3 ⊢; omega)
   obtain rfl:=Option.some.inj H;go_enter Tryz.func14,Tryz.ntmps14;go_wp2
   repeat (go_quiet (fail);try go_wp2)
   go_ret;exact ⟨by first|rfl|(simp;done)|(simp [*];done),by repeat (first|exact Drawn0.refl _|apply Drawn0.step)⟩
end Go.Proofs.YtgmiekggdgmhkaaGreatDoor.Q
end
section
namespace Go.Proofs.YtgmiekggdgmhkaaGreatDoor.Q
open Go.RowKit Go.Proofs.YtgmiekggdgmhkaaGreatDoorW.PrintWords Go.Proofs.YtgmiekggdgmhkaaGreatDoorW.PrintLast Go.Proofs.YtgmiekggdgmhkaaGreatDoorW.PrintMore
attribute [local go_sem] max2_int min2_int max_two min_two max_three min_three max_four min_four
set_option linter.unusedVariables false
set_option linter.unusedSimpArgs false
def mummerlaw04_Example.f  :Option ((List (S40))):=some (([(⟨4,3,0,(⟨#[]⟩:ByteArray)⟩:S40),(⟨3,0,0,(⟨#[97]⟩:ByteArray)⟩:S40),(⟨4,2,0,(⟨#[]⟩:ByteArray)⟩:S40),(⟨1,0,7,(⟨#[]⟩:ByteArray)⟩:S40),(⟨2,0,1,(⟨#[]⟩:ByteArray)⟩:S40),(⟨3,0,0,(⟨#[97]⟩:ByteArray)⟩:S40)]:List (S40)))
set_option maxHeartbeats 8000000 in
set_option maxRecDepth 100000 in
theorem mummerlaw04_Example.calls  (r:List (S40)) (w:World) (h:mummerlaw04_Example.f  =some r):
 Calls Tryz.prog 16 #[] w fun e w'=> ∃v0_:Value,e= .returned (v0_)∧Kd.R k40 40 w' w.heap.size (fun _=>True) v0_ r∧Below w.heap.size w w':=by
 have hu40:=Tryz.underlying40;have HB:=Aside0.mk (Below.refl w.heap.size w);have H:(some (([(⟨4,3,0,(⟨#[]⟩:ByteArray)⟩:S40),(⟨3,0,0,(⟨#[97]⟩:ByteArray)⟩:S40),(⟨4,2,0,(⟨#[]⟩:ByteArray)⟩:S40),(⟨1,0,7,(⟨#[]⟩:ByteArray)⟩:S40),(⟨2,0,1,(⟨#[]⟩:ByteArray)⟩:S40),(⟨3,0,0,(⟨#[97]⟩:ByteArray)⟩:S40)]:List (S40))))=some r:=h;clear h
 obtain ⟨y121,hy121⟩: ∃y_:List (S40),y_=(([(⟨4,3,0,(⟨#[]⟩:ByteArray)⟩:S40),(⟨3,0,0,(⟨#[97]⟩:ByteArray)⟩:S40),(⟨4,2,0,(⟨#[]⟩:ByteArray)⟩:S40),(⟨1,0,7,(⟨#[]⟩:ByteArray)⟩:S40),(⟨2,0,1,(⟨#[]⟩:ByteArray)⟩:S40),(⟨3,0,0,(⟨#[97]⟩:ByteArray)⟩:S40)]:List (S40))):=⟨_,rfl⟩
 replace H:(some y121)=some r:=by first|(rw [hy121];with_reducible exact H)|(have H2_:=(Option.bind_some _ _).symm.trans H;rw [hy121];with_reducible exact H2_)|(have H2_:=(Option.bind_some _ _).symm.trans H;with_reducible exact H2_)|with_reducible exact H|(rw [hy121];exact H)|exact H
 have Ny121:=Aside0.mk hy121;clear hy121;obtain rfl:=Option.some.inj H;go_enter Tryz.func16,Tryz.ntmps16
 go_wp2_with (first|((with_reducible refine gate_dst (N:=7) rfl ?_);refine Kd.R_lit k40 _ 40 ?hg (N:=7) ?hd (xs:=([(⟨4,3,0,(⟨#[]⟩:ByteArray)⟩:S40),(⟨3,0,0,(⟨#[97]⟩:ByteArray)⟩:S40),(⟨4,2,0,(⟨#[]⟩:ByteArray)⟩:S40),(⟨1,0,7,(⟨#[]⟩:ByteArray)⟩:S40),(⟨2,0,1,(⟨#[]⟩:ByteArray)⟩:S40),(⟨3,0,0,(⟨#[97]⟩:ByteArray)⟩:S40)]:List (S40))) (inner:=[.int .i64 4,.int .i64 3,.int .i64 0,.string (⟨#[]⟩:ByteArray),.int .i64 3,.int .i64 0,.int .i64 0,.string (⟨#[97]⟩:ByteArray),.int .i64 4,.int .i64 2,.int .i64 0,.string (⟨#[]⟩:ByteArray),.int .i64 1,.int .i64 0,.int .i64 7,.string (⟨#[]⟩:ByteArray),.int .i64 2,.int .i64 0,.int .i64 1,.string (⟨#[]⟩:ByteArray),.int .i64 3,.int .i64 0,.int .i64 0,.string (⟨#[97]⟩:ByteArray)]) (ok:=fun _=>True) (okp:=fun _=>True) ?hr ?hp (fun _ hk=>hk) trivial (Below.refl _ _) (Nat.le_refl _) (by simp) ?_;(case hd=>rfl);(case hg=>rfl);(case hr=>first|(go_simp;done)|(go_simp;rfl));(case hp=>exact (Reps.c4 (show Kd.M k40 _ _ _ (⟨4,3,0,(⟨#[]⟩:ByteArray)⟩:S40) [.int .i64 4,.int .i64 3,.int .i64 0,.string (⟨#[]⟩:ByteArray)] from (k40_mkM _ _ _ (⟨4,3,0,(⟨#[]⟩:ByteArray)⟩:S40) )) (Reps.c4 (show Kd.M k40 _ _ _ (⟨3,0,0,(⟨#[97]⟩:ByteArray)⟩:S40) [.int .i64 3,.int .i64 0,.int .i64 0,.string (⟨#[97]⟩:ByteArray)] from (k40_mkM _ _ _ (⟨3,0,0,(⟨#[97]⟩:ByteArray)⟩:S40) )) (Reps.c4 (show Kd.M k40 _ _ _ (⟨4,2,0,(⟨#[]⟩:ByteArray)⟩:S40) [.int .i64 4,.int .i64 2,.int .i64 0,.string (⟨#[]⟩:ByteArray)] from (k40_mkM _ _ _ (⟨4,2,0,(⟨#[]⟩:ByteArray)⟩:S40) )) (Reps.c4 (show Kd.M k40 _ _ _ (⟨1,0,7,(⟨#[]⟩:ByteArray)⟩:S40) [.int .i64 1,.int .i64 0,.int .i64 7,.string (⟨#[]⟩:ByteArray)] from (k40_mkM _ _ _ (⟨1,0,7,(⟨#[]⟩:ByteArray)⟩:S40) )) (Reps.c4 (show Kd.M k40 _ _ _ (⟨2,0,1,(⟨#[]⟩:ByteArray)⟩:S40) [.int .i64 2,.int .i64 0,.int .i64 1,.string (⟨#[]⟩:ByteArray)] from (k40_mkM _ _ _ (⟨2,0,1,(⟨#[]⟩:ByteArray)⟩:S40) )) (Reps.c4 (show Kd.M k40 _ _ _ (⟨3,0,0,(⟨#[97]⟩:ByteArray)⟩:S40) [.int .i64 3,.int .i64 0,.int .i64 0,.string (⟨#[97]⟩:ByteArray)] from (k40_mkM _ _ _ (⟨3,0,0,(⟨#[97]⟩:ByteArray)⟩:S40) )) (Reps.none _ _))))))));intro v122 w1 ho2 hb hg_ hnew_;clear hg_ hnew_;(first|rw [←Ny121.out] at ho2|(simp only [Int.reduceToNat] at ho2;rw [←Ny121.out] at ho2));have n0_:=Aside0.mk (Kd.R_lower ho2 (below_size (by repeat (first|(with_reducible first|exact HB.out|apply below_alloc|apply pw_below_drewN|apply below_drew1)|exact HB.out))));have n1_:=Aside0.mk (below_step (by repeat (first|(with_reducible first|exact HB.out|apply below_alloc|apply pw_below_drewN|apply below_drew1)|exact HB.out)) hb);clear HB;have HO123:=n0_;have HB:=n1_;clear n0_ n1_;clear hb ho2))
 go_ret;exact ⟨_,by first|rfl|(simp [errW_none,errW_some]<;>rfl)|(simp [*, errW_none,errW_some]<;>rfl),by (with_reducible repeat (first|apply Kd.R_alloc|apply Kd.R_drewN|apply Kd.R_drew));exact HO123.out,by repeat (first|(with_reducible first|exact HB.out|apply below_alloc|apply pw_below_drewN|apply below_drew1)|exact HB.out)⟩
def mummerref04_Ints.l0:Nat→List Int→List Int→Int→Option (Bool)
 |0,_,_,_=>none
 |k+1,x0,x1,x5=>if x5<(x0.length:Int) then (if 0≤x5 then (if x5<(x1.length:Int) then (if (rd x0 x5)=(rd x1 x5) then (mummerref04_Ints.l0 k x0 x1 (wrap64 (x5+1))) else (some false)) else (none)) else (none)) else (some true)
def mummerref04_Ints.f (k:Nat) (l0:List Int) (l1:List Int):Option (Bool):=if (l0.length:Int)=(l1.length:Int) then (mummerref04_Ints.l0 k l0 l1 0) else (some false)
theorem mummerref04_Ints.mono_l: ∀k,(∀y0 y1 y2,LeO (mummerref04_Ints.l0 k y0 y1 y2) (mummerref04_Ints.l0 (k+1) y0 y1 y2))
 |0=>fun _ _ _ r h=>by simp [mummerref04_Ints.l0] at h
 |k+1=>by
  have ih0:=mummerref04_Ints.mono_l k
  · intro y0 y1 y2;unfold mummerref04_Ints.l0
    repeat' first
    |(with_reducible exact ih0 _ _ _)
    |(with_reducible exact LeO.refl _)
    |(with_reducible exact LeO.none _)
    |(with_reducible refine LeO.ite ?_ ?_)
    |(with_reducible refine LeO.bind ?_ (fun _=>?_))
    |exact ih0 _ _ _
    |exact LeO.none _
    |refine LeO.ite ?_ ?_
    |refine LeO.bind ?_ (fun _=>?_)
theorem mummerref04_Ints.mono: ∀a0 a1 k,LeO (mummerref04_Ints.f k a0 a1) (mummerref04_Ints.f (k+1) a0 a1):=by
 intro a0 a1 k;have ih0:=mummerref04_Ints.mono_l k;unfold mummerref04_Ints.f
 repeat' first
  |(with_reducible exact ih0 _ _ _)
  |(with_reducible exact LeO.refl _)
  |(with_reducible exact LeO.none _)
  |(with_reducible refine LeO.ite ?_ ?_)
  |(with_reducible refine LeO.bind ?_ (fun _=>?_))
  |exact ih0 _ _ _
  |exact LeO.none _
  |refine LeO.ite ?_ ?_
  |refine LeO.bind ?_ (fun _=>?_)
set_option maxHeartbeats 8000000 in
set_option maxRecDepth 100000 in
theorem mummerref04_Ints.calls (k:Nat) (A0:Option Addr) (c0:Nat) (l0:List Int) (A1:Option Addr) (c1:Nat) (l1:List Int) (r:Bool) (w:World) (hr0:Kd.C (Kd.int .i64) w A0 l0.length l0) (hc0:l0.length≤c0) (hr1:Kd.C (Kd.int .i64) w A1 l1.length l1) (hc1:l1.length≤c1) (h:mummerref04_Ints.f k l0 l1=some r):
 Calls Tryz.prog 21 #[.slice A0 l0.length c0,.slice A1 l1.length c1] w fun e w'=>e= .returned (.bool r)∧Drawn0 w w':=by
 have HR0:=Aside0.mk hr0;have HC0:=Aside0.mk hc0;clear hr0 hc0;have HR1:=Aside0.mk hr1;have HC1:=Aside0.mk hc1;clear hr1 hc1;have H:(if (l0.length:Int)=(l1.length:Int) then (mummerref04_Ints.l0 k l0 l1 0) else (some false))=some r:=h;clear h
 by_cases c3:(l0.length:Int)=(l1.length:Int)
 · rw [if_pos c3] at H;have c3b0:((l0.length:Int)==(l1.length:Int))=true:=beq_iff_eq.mpr c3;have c3b1:((l0.length:Int) != (l1.length:Int))=false:=bne_eq_false_iff_eq.mpr c3
   have c3b2:(l0.length==l1.length)=true:=by first|simpa using c3|(simp at c3 ⊢; omega)
   clear c3;have H':=Aside0.mk H;clear H;go_enter Tryz.func21,Tryz.ntmps21;go_wp2
   repeat (go_quiet (fail);try go_wp2)
   go_loopg [5] k (fun kq v5 w'=> ∃(x5_1:Int),v5= .int .i64 x5_1∧Aside0 (mummerref04_Ints.l0 kq l0 l1 x5_1=some r)∧Aside0 (kq≤k)∧Drawn0 w w')
   case atStart=>exact ⟨(0),(by first|rfl|(simp;done)|(simp [*];done)),H',⟨Nat.le_refl _⟩,by repeat (first|exact Drawn0.refl _|apply Drawn0.step)⟩
   case round=>
    clear H'
    try clear c1
    try clear c2
    try clear p2
    try clear c3
    try clear c3b0
    try clear c3b1
    try clear c3b2
    obtain ⟨x5_1,rfl,HA,HK1,⟨m1,rfl⟩⟩:=hrel
    cases gk with
    |zero=>exact absurd HA.out (by simp [mummerref04_Ints.l0])
    |succ k1=>
     have H:=HA.out;clear HA;simp only [mummerref04_Ints.l0] at H;by_cases c4:x5_1<(l0.length:Int)
     · rw [if_pos c4] at H;have c4b0:decide (x5_1<(l0.length:Int))=true:=decide_eq_true c4;clear c4;by_cases c5:0≤x5_1
       · rw [if_pos c5] at H;have c5b0:decide (0≤x5_1)=true:=decide_eq_true c5;clear c5;by_cases c6:x5_1<(l1.length:Int)
         · rw [if_pos c6] at H;have c6b0:decide (x5_1<(l1.length:Int))=true:=decide_eq_true c6;clear c6
           by_cases c7:(rd l0 x5_1)=(rd l1 x5_1)
           · rw [if_pos c7] at H;have c7b0:((rd l0 x5_1)==(rd l1 x5_1))=true:=beq_iff_eq.mpr c7;have c7b1:((rd l0 x5_1) != (rd l1 x5_1))=false:=bne_eq_false_iff_eq.mpr c7;clear c7;have H':=Aside0.mk H;clear H;have p154:0≤(x5_1:Int):=of_decide_eq_true (by first|(with_reducible assumption)|assumption);have q154:x5_1<(l0.length:Int):=of_decide_eq_true (by first|(with_reducible assumption)|assumption);obtain ⟨ad154,e154,hx154_0⟩:=Kd.at_int HR0.out x5_1 p154 q154;cases e154;replace p154:=eq_true p154;replace q154:=eq_true q154;have p155:0≤(x5_1:Int):=of_decide_eq_true (by first|(with_reducible assumption)|assumption);have q155:x5_1<(l1.length:Int):=of_decide_eq_true (by first|(with_reducible assumption)|assumption);obtain ⟨ad155,e155,hx155_0⟩:=Kd.at_int HR1.out x5_1 p155 q155;cases e155;replace p155:=eq_true p155;replace q155:=eq_true q155;go_wp2
             repeat (go_quiet (fail);try go_wp2)
             go_roundg k1
             case measure=>have:=HK1.out;omega
             case rel=>exact ⟨(wrap64 (x5_1+1)),(by first|rfl|(simp;done)|(simp [*];done)),H',⟨by have:=HK1.out;omega⟩,by repeat (first|exact Drawn0.refl _|apply Drawn0.step)⟩
           · rw [if_neg c7] at H;have c7b0:((rd l0 x5_1)==(rd l1 x5_1))=false:=beq_eq_false_iff_ne.mpr c7;have c7b1:((rd l0 x5_1) != (rd l1 x5_1))=true:=bne_iff_ne.mpr c7;obtain rfl:=Option.some.inj H;have p154:0≤(x5_1:Int):=of_decide_eq_true (by first|(with_reducible assumption)|assumption);have q154:x5_1<(l0.length:Int):=of_decide_eq_true (by first|(with_reducible assumption)|assumption);obtain ⟨ad154,e154,hx154_0⟩:=Kd.at_int HR0.out x5_1 p154 q154;cases e154;replace p154:=eq_true p154;replace q154:=eq_true q154;have p155:0≤(x5_1:Int):=of_decide_eq_true (by first|(with_reducible assumption)|assumption);have q155:x5_1<(l1.length:Int):=of_decide_eq_true (by first|(with_reducible assumption)|assumption);obtain ⟨ad155,e155,hx155_0⟩:=Kd.at_int HR1.out x5_1 p155 q155;cases e155;replace p155:=eq_true p155;replace q155:=eq_true q155;go_wp2
             repeat (go_quiet (fail);try go_wp2)
             go_ret;exact ⟨by first|rfl|(simp;done)|(simp [*];done),by repeat (first|exact Drawn0.refl _|apply Drawn0.step)⟩
         · rw [if_neg c6] at H;exact absurd H (by simp)
       · rw [if_neg c5] at H;exact absurd H (by simp)
     · rw [if_neg c4] at H;have c4b0:decide (x5_1<(l0.length:Int))=false:=decide_eq_false c4;clear c4;obtain rfl:=Option.some.inj H;go_wp2
       repeat (go_quiet (fail);try go_wp2)
       go_ret;exact ⟨by first|rfl|(simp;done)|(simp [*];done),by repeat (first|exact Drawn0.refl _|apply Drawn0.step)⟩
 · rw [if_neg c3] at H;have c3b0:((l0.length:Int)==(l1.length:Int))=false:=beq_eq_false_iff_ne.mpr c3;have c3b1:((l0.length:Int) != (l1.length:Int))=true:=bne_iff_ne.mpr c3
   have c3b2:(l0.length==l1.length)=false:=by first|simpa using c3|(simp at c3 ⊢; omega)
   obtain rfl:=Option.some.inj H;go_enter Tryz.func21,Tryz.ntmps21;go_wp2
   repeat (go_quiet (fail);try go_wp2)
   go_ret;exact ⟨by first|rfl|(simp;done)|(simp [*];done),by repeat (first|exact Drawn0.refl _|apply Drawn0.step)⟩
end Go.Proofs.YtgmiekggdgmhkaaGreatDoor.Q
end
section
namespace Go.Proofs.YtgmiekggdgmhkaaGreatDoor.U
open Go.RowKit Go.Proofs.YtgmiekggdgmhkaaGreatDoorW.PrintWords Go.Proofs.YtgmiekggdgmhkaaGreatDoorW.PrintLast Go.Proofs.YtgmiekggdgmhkaaGreatDoorW.PrintMore
attribute [local go_sem] max2_int min2_int max_two min_two max_three min_three max_four min_four
set_option linter.unusedVariables false
set_option linter.unusedSimpArgs false
def cmp_isNaN_int.f (a0:Int):Option (Bool):=some (a0 != a0)
set_option maxHeartbeats 8000000 in
set_option maxRecDepth 100000 in
theorem cmp_isNaN_int.calls (a0:Int) (r:Bool) (w:World) (h:cmp_isNaN_int.f a0=some r):
 Calls Tryz.prog 82 #[.int .i64 a0] w fun e w'=>e= .returned (.bool r)∧Drawn0 w w':=by
 have H:(some (a0 != a0))=some r:=h;clear h;obtain rfl:=Option.some.inj H;go_enter Tryz.func82,Tryz.ntmps82;go_wp2;go_ret;exact ⟨by first|rfl|(simp;done)|(simp [*];done),by repeat (first|exact Drawn0.refl _|apply Drawn0.step)⟩
def cmp_Compare_int.f (a0:Int) (a1:Int):Option (Int):=(cmp_isNaN_int.f a0).bind fun t101=>((cmp_isNaN_int.f a1).bind fun t102=>(if t101=true then (if t102=true then (some 0) else (some (-1))) else (if t102=true then (some 1) else (if a0<a1 then (some (-1)) else (if a0>a1 then (some 1) else (some 0))))))
set_option maxHeartbeats 8000000 in
set_option maxRecDepth 100000 in
theorem cmp_Compare_int.calls (a0:Int) (a1:Int) (r:Int) (w:World) (h:cmp_Compare_int.f a0 a1=some r):
 Calls Tryz.prog 53 #[.int .i64 a0,.int .i64 a1] w fun e w'=>e= .returned (.int .i64 r)∧Drawn0 w w':=by
 have H:((cmp_isNaN_int.f a0).bind fun t101=>((cmp_isNaN_int.f a1).bind fun t102=>(if t101=true then (if t102=true then (some 0) else (some (-1))) else (if t102=true then (some 1) else (if a0<a1 then (some (-1)) else (if a0>a1 then (some 1) else (some 0)))))))=some r:=h;clear h;replace H:=Option.bind_eq_some_iff.mp H;obtain ⟨t101,A30,H⟩:=H;replace H:((cmp_isNaN_int.f a1).bind fun t102=>(if t101=true then (if t102=true then (some 0) else (some (-1))) else (if t102=true then (some 1) else (if a0<a1 then (some (-1)) else (if a0>a1 then (some 1) else (some 0))))))=some r:=H;have A3:=Aside0.mk A30;clear A30;replace H:=Option.bind_eq_some_iff.mp H;obtain ⟨t102,A40,H⟩:=H;replace H:(if t101=true then (if t102=true then (some 0) else (some (-1))) else (if t102=true then (some 1) else (if a0<a1 then (some (-1)) else (if a0>a1 then (some 1) else (some 0)))))=some r:=H;have A4:=Aside0.mk A40;clear A40;by_cases c5:t101=true
 · subst c5
   have H1:(if t102=true then (some 0) else (some (-1)))=some r:=by rw [if_pos rfl] at H;exact H
   clear H;have H:=H1;clear H1;by_cases c6:t102=true
   · subst c6
     have H1:(some 0)=some r:=by rw [if_pos rfl] at H;exact H
     clear H;have H:=H1;clear H1;obtain rfl:=Option.some.inj H;go_enter Tryz.func53,Tryz.ntmps53
     go_wp2_with (first|((with_reducible refine gate_callee (f:=82) rfl ?_);refine goesL_ (some 8) rfl rfl Tryz.func82 (by kernel_rfl) rfl #[.int .i64 a0] rfl (by (try simp only [List.map_toArray,List.map_cons,List.map_nil]);first|done|rfl|(simp only [List.length_drop,List.length_take];rfl)) ?_;(with_reducible refine (cmp_isNaN_int.calls a0 true _ A3.out).mono ?_);rintro e w' ⟨rfl,⟨nd,rfl⟩⟩;refine ⟨_,rfl,?_⟩)|((with_reducible refine gate_callee (f:=82) rfl ?_);refine goesL_ (some 10) rfl rfl Tryz.func82 (by kernel_rfl) rfl #[.int .i64 a1] rfl (by (try simp only [List.map_toArray,List.map_cons,List.map_nil]);first|done|rfl|(simp only [List.length_drop,List.length_take];rfl)) ?_;(with_reducible refine (cmp_isNaN_int.calls a1 true _ A4.out).mono ?_);rintro e w' ⟨rfl,⟨nd,rfl⟩⟩;refine ⟨_,rfl,?_⟩))
     go_ret;exact ⟨by first|rfl|(simp;done)|(simp [*];done),by repeat (first|exact Drawn0.refl _|apply Drawn0.step)⟩
   · replace c6:=Bool.eq_false_iff.mpr c6;subst c6
     have H1:(some (-1))=some r:=by rw [if_neg (show ¬(false=true) by decide)] at H;exact H
     clear H;have H:=H1;clear H1;obtain rfl:=Option.some.inj H;go_enter Tryz.func53,Tryz.ntmps53
     go_wp2_with (first|((with_reducible refine gate_callee (f:=82) rfl ?_);refine goesL_ (some 8) rfl rfl Tryz.func82 (by kernel_rfl) rfl #[.int .i64 a0] rfl (by (try simp only [List.map_toArray,List.map_cons,List.map_nil]);first|done|rfl|(simp only [List.length_drop,List.length_take];rfl)) ?_;(with_reducible refine (cmp_isNaN_int.calls a0 true _ A3.out).mono ?_);rintro e w' ⟨rfl,⟨nd,rfl⟩⟩;refine ⟨_,rfl,?_⟩)|((with_reducible refine gate_callee (f:=82) rfl ?_);refine goesL_ (some 10) rfl rfl Tryz.func82 (by kernel_rfl) rfl #[.int .i64 a1] rfl (by (try simp only [List.map_toArray,List.map_cons,List.map_nil]);first|done|rfl|(simp only [List.length_drop,List.length_take];rfl)) ?_;(with_reducible refine (cmp_isNaN_int.calls a1 false _ A4.out).mono ?_);rintro e w' ⟨rfl,⟨nd,rfl⟩⟩;refine ⟨_,rfl,?_⟩))
     go_ret;exact ⟨by first|rfl|(simp;done)|(simp [*];done),by repeat (first|exact Drawn0.refl _|apply Drawn0.step)⟩
 · replace c5:=Bool.eq_false_iff.mpr c5;subst c5
   have H1:(if t102=true then (some 1) else (if a0<a1 then (some (-1)) else (if a0>a1 then (some 1) else (some 0))))=some r:=by rw [if_neg (show ¬(false=true) by decide)] at H;exact H
   clear H;have H:=H1;clear H1;by_cases c7:t102=true
   · subst c7
     have H1:(some 1)=some r:=by rw [if_pos rfl] at H;exact H
     clear H;have H:=H1;clear H1;obtain rfl:=Option.some.inj H;go_enter Tryz.func53,Tryz.ntmps53
     go_wp2_with (first|((with_reducible refine gate_callee (f:=82) rfl ?_);refine goesL_ (some 8) rfl rfl Tryz.func82 (by kernel_rfl) rfl #[.int .i64 a0] rfl (by (try simp only [List.map_toArray,List.map_cons,List.map_nil]);first|done|rfl|(simp only [List.length_drop,List.length_take];rfl)) ?_;(with_reducible refine (cmp_isNaN_int.calls a0 false _ A3.out).mono ?_);rintro e w' ⟨rfl,⟨nd,rfl⟩⟩;refine ⟨_,rfl,?_⟩)|((with_reducible refine gate_callee (f:=82) rfl ?_);refine goesL_ (some 10) rfl rfl Tryz.func82 (by kernel_rfl) rfl #[.int .i64 a1] rfl (by (try simp only [List.map_toArray,List.map_cons,List.map_nil]);first|done|rfl|(simp only [List.length_drop,List.length_take];rfl)) ?_;(with_reducible refine (cmp_isNaN_int.calls a1 true _ A4.out).mono ?_);rintro e w' ⟨rfl,⟨nd,rfl⟩⟩;refine ⟨_,rfl,?_⟩))
     go_ret;exact ⟨by first|rfl|(simp;done)|(simp [*];done),by repeat (first|exact Drawn0.refl _|apply Drawn0.step)⟩
   · replace c7:=Bool.eq_false_iff.mpr c7;subst c7
     have H1:(if a0<a1 then (some (-1)) else (if a0>a1 then (some 1) else (some 0)))=some r:=by rw [if_neg (show ¬(false=true) by decide)] at H;exact H
     clear H;have H:=H1;clear H1;by_cases c8:a0<a1
     · rw [if_pos c8] at H;have c8b0:decide (a0<a1)=true:=decide_eq_true c8;clear c8;obtain rfl:=Option.some.inj H;go_enter Tryz.func53,Tryz.ntmps53
       go_wp2_with (first|((with_reducible refine gate_callee (f:=82) rfl ?_);refine goesL_ (some 8) rfl rfl Tryz.func82 (by kernel_rfl) rfl #[.int .i64 a0] rfl (by (try simp only [List.map_toArray,List.map_cons,List.map_nil]);first|done|rfl|(simp only [List.length_drop,List.length_take];rfl)) ?_;(with_reducible refine (cmp_isNaN_int.calls a0 false _ A3.out).mono ?_);rintro e w' ⟨rfl,⟨nd,rfl⟩⟩;refine ⟨_,rfl,?_⟩)|((with_reducible refine gate_callee (f:=82) rfl ?_);refine goesL_ (some 10) rfl rfl Tryz.func82 (by kernel_rfl) rfl #[.int .i64 a1] rfl (by (try simp only [List.map_toArray,List.map_cons,List.map_nil]);first|done|rfl|(simp only [List.length_drop,List.length_take];rfl)) ?_;(with_reducible refine (cmp_isNaN_int.calls a1 false _ A4.out).mono ?_);rintro e w' ⟨rfl,⟨nd,rfl⟩⟩;refine ⟨_,rfl,?_⟩))
       go_ret;exact ⟨by first|rfl|(simp;done)|(simp [*];done),by repeat (first|exact Drawn0.refl _|apply Drawn0.step)⟩
     · rw [if_neg c8] at H;have c8b0:decide (a0<a1)=false:=decide_eq_false c8;clear c8;by_cases c9:a0>a1
       · rw [if_pos c9] at H;have c9b0:decide (a1<a0)=true:=decide_eq_true c9;clear c9;obtain rfl:=Option.some.inj H;go_enter Tryz.func53,Tryz.ntmps53
         go_wp2_with (first|((with_reducible refine gate_callee (f:=82) rfl ?_);refine goesL_ (some 8) rfl rfl Tryz.func82 (by kernel_rfl) rfl #[.int .i64 a0] rfl (by (try simp only [List.map_toArray,List.map_cons,List.map_nil]);first|done|rfl|(simp only [List.length_drop,List.length_take];rfl)) ?_;(with_reducible refine (cmp_isNaN_int.calls a0 false _ A3.out).mono ?_);rintro e w' ⟨rfl,⟨nd,rfl⟩⟩;refine ⟨_,rfl,?_⟩)|((with_reducible refine gate_callee (f:=82) rfl ?_);refine goesL_ (some 10) rfl rfl Tryz.func82 (by kernel_rfl) rfl #[.int .i64 a1] rfl (by (try simp only [List.map_toArray,List.map_cons,List.map_nil]);first|done|rfl|(simp only [List.length_drop,List.length_take];rfl)) ?_;(with_reducible refine (cmp_isNaN_int.calls a1 false _ A4.out).mono ?_);rintro e w' ⟨rfl,⟨nd,rfl⟩⟩;refine ⟨_,rfl,?_⟩))
         go_ret;exact ⟨by first|rfl|(simp;done)|(simp [*];done),by repeat (first|exact Drawn0.refl _|apply Drawn0.step)⟩
       · rw [if_neg c9] at H;have c9b0:decide (a1<a0)=false:=decide_eq_false c9;clear c9;obtain rfl:=Option.some.inj H;go_enter Tryz.func53,Tryz.ntmps53
         go_wp2_with (first|((with_reducible refine gate_callee (f:=82) rfl ?_);refine goesL_ (some 8) rfl rfl Tryz.func82 (by kernel_rfl) rfl #[.int .i64 a0] rfl (by (try simp only [List.map_toArray,List.map_cons,List.map_nil]);first|done|rfl|(simp only [List.length_drop,List.length_take];rfl)) ?_;(with_reducible refine (cmp_isNaN_int.calls a0 false _ A3.out).mono ?_);rintro e w' ⟨rfl,⟨nd,rfl⟩⟩;refine ⟨_,rfl,?_⟩)|((with_reducible refine gate_callee (f:=82) rfl ?_);refine goesL_ (some 10) rfl rfl Tryz.func82 (by kernel_rfl) rfl #[.int .i64 a1] rfl (by (try simp only [List.map_toArray,List.map_cons,List.map_nil]);first|done|rfl|(simp only [List.length_drop,List.length_take];rfl)) ?_;(with_reducible refine (cmp_isNaN_int.calls a1 false _ A4.out).mono ?_);rintro e w' ⟨rfl,⟨nd,rfl⟩⟩;refine ⟨_,rfl,?_⟩))
         go_ret;exact ⟨by first|rfl|(simp;done)|(simp [*];done),by repeat (first|exact Drawn0.refl _|apply Drawn0.step)⟩
def cmp_isNaN_int64.f (a0:Int):Option (Bool):=some (a0 != a0)
set_option maxHeartbeats 8000000 in
set_option maxRecDepth 100000 in
theorem cmp_isNaN_int64.calls (a0:Int) (r:Bool) (w:World) (h:cmp_isNaN_int64.f a0=some r):
 Calls Tryz.prog 83 #[.int .i64 a0] w fun e w'=>e= .returned (.bool r)∧Drawn0 w w':=by
 have H:(some (a0 != a0))=some r:=h;clear h;obtain rfl:=Option.some.inj H;go_enter Tryz.func83,Tryz.ntmps83;go_wp2;go_ret;exact ⟨by first|rfl|(simp;done)|(simp [*];done),by repeat (first|exact Drawn0.refl _|apply Drawn0.step)⟩
def cmp_Compare_int64.f (a0:Int) (a1:Int):Option (Int):=(cmp_isNaN_int64.f a0).bind fun t103=>((cmp_isNaN_int64.f a1).bind fun t104=>(if t103=true then (if t104=true then (some 0) else (some (-1))) else (if t104=true then (some 1) else (if a0<a1 then (some (-1)) else (if a0>a1 then (some 1) else (some 0))))))
set_option maxHeartbeats 8000000 in
set_option maxRecDepth 100000 in
theorem cmp_Compare_int64.calls (a0:Int) (a1:Int) (r:Int) (w:World) (h:cmp_Compare_int64.f a0 a1=some r):
 Calls Tryz.prog 54 #[.int .i64 a0,.int .i64 a1] w fun e w'=>e= .returned (.int .i64 r)∧Drawn0 w w':=by
 have H:((cmp_isNaN_int64.f a0).bind fun t103=>((cmp_isNaN_int64.f a1).bind fun t104=>(if t103=true then (if t104=true then (some 0) else (some (-1))) else (if t104=true then (some 1) else (if a0<a1 then (some (-1)) else (if a0>a1 then (some 1) else (some 0)))))))=some r:=h;clear h;replace H:=Option.bind_eq_some_iff.mp H;obtain ⟨t103,A30,H⟩:=H;replace H:((cmp_isNaN_int64.f a1).bind fun t104=>(if t103=true then (if t104=true then (some 0) else (some (-1))) else (if t104=true then (some 1) else (if a0<a1 then (some (-1)) else (if a0>a1 then (some 1) else (some 0))))))=some r:=H;have A3:=Aside0.mk A30;clear A30;replace H:=Option.bind_eq_some_iff.mp H;obtain ⟨t104,A40,H⟩:=H;replace H:(if t103=true then (if t104=true then (some 0) else (some (-1))) else (if t104=true then (some 1) else (if a0<a1 then (some (-1)) else (if a0>a1 then (some 1) else (some 0)))))=some r:=H;have A4:=Aside0.mk A40;clear A40;by_cases c5:t103=true
 · subst c5
   have H1:(if t104=true then (some 0) else (some (-1)))=some r:=by rw [if_pos rfl] at H;exact H
   clear H;have H:=H1;clear H1;by_cases c6:t104=true
   · subst c6
     have H1:(some 0)=some r:=by rw [if_pos rfl] at H;exact H
     clear H;have H:=H1;clear H1;obtain rfl:=Option.some.inj H;go_enter Tryz.func54,Tryz.ntmps54
     go_wp2_with (first|((with_reducible refine gate_callee (f:=83) rfl ?_);refine goesL_ (some 8) rfl rfl Tryz.func83 (by kernel_rfl) rfl #[.int .i64 a0] rfl (by (try simp only [List.map_toArray,List.map_cons,List.map_nil]);first|done|rfl|(simp only [List.length_drop,List.length_take];rfl)) ?_;(with_reducible refine (cmp_isNaN_int64.calls a0 true _ A3.out).mono ?_);rintro e w' ⟨rfl,⟨nd,rfl⟩⟩;refine ⟨_,rfl,?_⟩)|((with_reducible refine gate_callee (f:=83) rfl ?_);refine goesL_ (some 10) rfl rfl Tryz.func83 (by kernel_rfl) rfl #[.int .i64 a1] rfl (by (try simp only [List.map_toArray,List.map_cons,List.map_nil]);first|done|rfl|(simp only [List.length_drop,List.length_take];rfl)) ?_;(with_reducible refine (cmp_isNaN_int64.calls a1 true _ A4.out).mono ?_);rintro e w' ⟨rfl,⟨nd,rfl⟩⟩;refine ⟨_,rfl,?_⟩))
     go_ret;exact ⟨by first|rfl|(simp;done)|(simp [*];done),by repeat (first|exact Drawn0.refl _|apply Drawn0.step)⟩
   · replace c6:=Bool.eq_false_iff.mpr c6;subst c6
     have H1:(some (-1))=some r:=by rw [if_neg (show ¬(false=true) by decide)] at H;exact H
     clear H;have H:=H1;clear H1;obtain rfl:=Option.some.inj H;go_enter Tryz.func54,Tryz.ntmps54
     go_wp2_with (first|((with_reducible refine gate_callee (f:=83) rfl ?_);refine goesL_ (some 8) rfl rfl Tryz.func83 (by kernel_rfl) rfl #[.int .i64 a0] rfl (by (try simp only [List.map_toArray,List.map_cons,List.map_nil]);first|done|rfl|(simp only [List.length_drop,List.length_take];rfl)) ?_;(with_reducible refine (cmp_isNaN_int64.calls a0 true _ A3.out).mono ?_);rintro e w' ⟨rfl,⟨nd,rfl⟩⟩;refine ⟨_,rfl,?_⟩)|((with_reducible refine gate_callee (f:=83) rfl ?_);refine goesL_ (some 10) rfl rfl Tryz.func83 (by kernel_rfl) rfl #[.int .i64 a1] rfl (by (try simp only [List.map_toArray,List.map_cons,List.map_nil]);first|done|rfl|(simp only [List.length_drop,List.length_take];rfl)) ?_;(with_reducible refine (cmp_isNaN_int64.calls a1 false _ A4.out).mono ?_);rintro e w' ⟨rfl,⟨nd,rfl⟩⟩;refine ⟨_,rfl,?_⟩))
     go_ret;exact ⟨by first|rfl|(simp;done)|(simp [*];done),by repeat (first|exact Drawn0.refl _|apply Drawn0.step)⟩
 · replace c5:=Bool.eq_false_iff.mpr c5;subst c5
   have H1:(if t104=true then (some 1) else (if a0<a1 then (some (-1)) else (if a0>a1 then (some 1) else (some 0))))=some r:=by rw [if_neg (show ¬(false=true) by decide)] at H;exact H
   clear H;have H:=H1;clear H1;by_cases c7:t104=true
   · subst c7
     have H1:(some 1)=some r:=by rw [if_pos rfl] at H;exact H
     clear H;have H:=H1;clear H1;obtain rfl:=Option.some.inj H;go_enter Tryz.func54,Tryz.ntmps54
     go_wp2_with (first|((with_reducible refine gate_callee (f:=83) rfl ?_);refine goesL_ (some 8) rfl rfl Tryz.func83 (by kernel_rfl) rfl #[.int .i64 a0] rfl (by (try simp only [List.map_toArray,List.map_cons,List.map_nil]);first|done|rfl|(simp only [List.length_drop,List.length_take];rfl)) ?_;(with_reducible refine (cmp_isNaN_int64.calls a0 false _ A3.out).mono ?_);rintro e w' ⟨rfl,⟨nd,rfl⟩⟩;refine ⟨_,rfl,?_⟩)|((with_reducible refine gate_callee (f:=83) rfl ?_);refine goesL_ (some 10) rfl rfl Tryz.func83 (by kernel_rfl) rfl #[.int .i64 a1] rfl (by (try simp only [List.map_toArray,List.map_cons,List.map_nil]);first|done|rfl|(simp only [List.length_drop,List.length_take];rfl)) ?_;(with_reducible refine (cmp_isNaN_int64.calls a1 true _ A4.out).mono ?_);rintro e w' ⟨rfl,⟨nd,rfl⟩⟩;refine ⟨_,rfl,?_⟩))
     go_ret;exact ⟨by first|rfl|(simp;done)|(simp [*];done),by repeat (first|exact Drawn0.refl _|apply Drawn0.step)⟩
   · replace c7:=Bool.eq_false_iff.mpr c7;subst c7
     have H1:(if a0<a1 then (some (-1)) else (if a0>a1 then (some 1) else (some 0)))=some r:=by rw [if_neg (show ¬(false=true) by decide)] at H;exact H
     clear H;have H:=H1;clear H1;by_cases c8:a0<a1
     · rw [if_pos c8] at H;have c8b0:decide (a0<a1)=true:=decide_eq_true c8;clear c8;obtain rfl:=Option.some.inj H;go_enter Tryz.func54,Tryz.ntmps54
       go_wp2_with (first|((with_reducible refine gate_callee (f:=83) rfl ?_);refine goesL_ (some 8) rfl rfl Tryz.func83 (by kernel_rfl) rfl #[.int .i64 a0] rfl (by (try simp only [List.map_toArray,List.map_cons,List.map_nil]);first|done|rfl|(simp only [List.length_drop,List.length_take];rfl)) ?_;(with_reducible refine (cmp_isNaN_int64.calls a0 false _ A3.out).mono ?_);rintro e w' ⟨rfl,⟨nd,rfl⟩⟩;refine ⟨_,rfl,?_⟩)|((with_reducible refine gate_callee (f:=83) rfl ?_);refine goesL_ (some 10) rfl rfl Tryz.func83 (by kernel_rfl) rfl #[.int .i64 a1] rfl (by (try simp only [List.map_toArray,List.map_cons,List.map_nil]);first|done|rfl|(simp only [List.length_drop,List.length_take];rfl)) ?_;(with_reducible refine (cmp_isNaN_int64.calls a1 false _ A4.out).mono ?_);rintro e w' ⟨rfl,⟨nd,rfl⟩⟩;refine ⟨_,rfl,?_⟩))
       go_ret;exact ⟨by first|rfl|(simp;done)|(simp [*];done),by repeat (first|exact Drawn0.refl _|apply Drawn0.step)⟩
     · rw [if_neg c8] at H;have c8b0:decide (a0<a1)=false:=decide_eq_false c8;clear c8;by_cases c9:a0>a1
       · rw [if_pos c9] at H;have c9b0:decide (a1<a0)=true:=decide_eq_true c9;clear c9;obtain rfl:=Option.some.inj H;go_enter Tryz.func54,Tryz.ntmps54
         go_wp2_with (first|((with_reducible refine gate_callee (f:=83) rfl ?_);refine goesL_ (some 8) rfl rfl Tryz.func83 (by kernel_rfl) rfl #[.int .i64 a0] rfl (by (try simp only [List.map_toArray,List.map_cons,List.map_nil]);first|done|rfl|(simp only [List.length_drop,List.length_take];rfl)) ?_;(with_reducible refine (cmp_isNaN_int64.calls a0 false _ A3.out).mono ?_);rintro e w' ⟨rfl,⟨nd,rfl⟩⟩;refine ⟨_,rfl,?_⟩)|((with_reducible refine gate_callee (f:=83) rfl ?_);refine goesL_ (some 10) rfl rfl Tryz.func83 (by kernel_rfl) rfl #[.int .i64 a1] rfl (by (try simp only [List.map_toArray,List.map_cons,List.map_nil]);first|done|rfl|(simp only [List.length_drop,List.length_take];rfl)) ?_;(with_reducible refine (cmp_isNaN_int64.calls a1 false _ A4.out).mono ?_);rintro e w' ⟨rfl,⟨nd,rfl⟩⟩;refine ⟨_,rfl,?_⟩))
         go_ret;exact ⟨by first|rfl|(simp;done)|(simp [*];done),by repeat (first|exact Drawn0.refl _|apply Drawn0.step)⟩
       · rw [if_neg c9] at H;have c9b0:decide (a1<a0)=false:=decide_eq_false c9;clear c9;obtain rfl:=Option.some.inj H;go_enter Tryz.func54,Tryz.ntmps54
         go_wp2_with (first|((with_reducible refine gate_callee (f:=83) rfl ?_);refine goesL_ (some 8) rfl rfl Tryz.func83 (by kernel_rfl) rfl #[.int .i64 a0] rfl (by (try simp only [List.map_toArray,List.map_cons,List.map_nil]);first|done|rfl|(simp only [List.length_drop,List.length_take];rfl)) ?_;(with_reducible refine (cmp_isNaN_int64.calls a0 false _ A3.out).mono ?_);rintro e w' ⟨rfl,⟨nd,rfl⟩⟩;refine ⟨_,rfl,?_⟩)|((with_reducible refine gate_callee (f:=83) rfl ?_);refine goesL_ (some 10) rfl rfl Tryz.func83 (by kernel_rfl) rfl #[.int .i64 a1] rfl (by (try simp only [List.map_toArray,List.map_cons,List.map_nil]);first|done|rfl|(simp only [List.length_drop,List.length_take];rfl)) ?_;(with_reducible refine (cmp_isNaN_int64.calls a1 false _ A4.out).mono ?_);rintro e w' ⟨rfl,⟨nd,rfl⟩⟩;refine ⟨_,rfl,?_⟩))
         go_ret;exact ⟨by first|rfl|(simp;done)|(simp [*];done),by repeat (first|exact Drawn0.refl _|apply Drawn0.step)⟩
def cmp_isNaN_string.f (a0:ByteArray):Option (Bool):=some (a0.toList != a0.toList)
set_option maxHeartbeats 8000000 in
set_option maxRecDepth 100000 in
theorem cmp_isNaN_string.calls (a0:ByteArray) (r:Bool) (w:World) (h:cmp_isNaN_string.f a0=some r):
 Calls Tryz.prog 84 #[.string a0] w fun e w'=>e= .returned (.bool r)∧Drawn0 w w':=by
 have H:(some (a0.toList != a0.toList))=some r:=h;clear h;obtain rfl:=Option.some.inj H;go_enter Tryz.func84,Tryz.ntmps84;go_wp2;go_ret;exact ⟨by first|rfl|(simp;done)|(simp [*];done),by repeat (first|exact Drawn0.refl _|apply Drawn0.step)⟩
def cmp_Or_int.l0:Nat→Int→List Int→Int→Int→Option (Int)
 |0,_,_,_,_=>none
 |k+1,x3,x6,x7,x8=>if x8<x7 then (if 0≤x8 then (if x8<(x6.length:Int) then (if (rd x6 x8)=x3 then (cmp_Or_int.l0 k x3 x6 x7 (wrap64 (x8+1))) else (some (rd x6 x8))) else (none)) else (none)) else (some x3)
def cmp_Or_int.f (k:Nat) (l0:List Int):Option (Int):=cmp_Or_int.l0 k 0 l0 (l0.length:Int) 0
set_option maxHeartbeats 8000000 in
set_option maxRecDepth 100000 in
theorem cmp_Or_int.calls (k:Nat) (A0:Option Addr) (c0:Nat) (l0:List Int) (r:Int) (w:World) (hr0:Kd.C (Kd.int .i64) w A0 l0.length l0) (hc0:l0.length≤c0) (h:cmp_Or_int.f k l0=some r):
 Calls Tryz.prog 52 #[.slice A0 l0.length c0] w fun e w'=>e= .returned (.int .i64 r)∧Drawn0 w w':=by
 have HR0:=Aside0.mk hr0;have HC0:=Aside0.mk hc0;clear hr0 hc0;have H:(cmp_Or_int.l0 k 0 l0 (l0.length:Int) 0)=some r:=h;clear h;have H':=Aside0.mk H;clear H;go_enter Tryz.func52,Tryz.ntmps52;go_wp2
 go_loopg [8] k (fun kq v8 w'=> ∃(x8_1:Int),v8= .int .i64 x8_1∧Aside0 (cmp_Or_int.l0 kq 0 l0 (l0.length:Int) x8_1=some r)∧Aside0 (kq≤k)∧Drawn0 w w')
 case atStart=>exact ⟨(0),(by first|rfl|(simp;done)|(simp [*];done)),H',⟨Nat.le_refl _⟩,by repeat (first|exact Drawn0.refl _|apply Drawn0.step)⟩
 case round=>
  clear H';obtain ⟨x8_1,rfl,HA,HK1,⟨m1,rfl⟩⟩:=hrel
  cases gk with
  |zero=>exact absurd HA.out (by simp [cmp_Or_int.l0])
  |succ k1=>
   have H:=HA.out;clear HA;simp only [cmp_Or_int.l0] at H;by_cases c2:x8_1<(l0.length:Int)
   · rw [if_pos c2] at H;have c2b0:decide (x8_1<(l0.length:Int))=true:=decide_eq_true c2;clear c2;by_cases c3:0≤x8_1
     · rw [if_pos c3] at H;have c3b0:decide (0≤x8_1)=true:=decide_eq_true c3;clear c3;by_cases c4:x8_1<(l0.length:Int)
       · rw [if_pos c4] at H;have c4b0:decide (x8_1<(l0.length:Int))=true:=decide_eq_true c4;clear c4;by_cases c5:(rd l0 x8_1)=0
         · rw [if_pos c5] at H;have c5b0:((rd l0 x8_1)==0)=true:=beq_iff_eq.mpr c5;have c5b1:((rd l0 x8_1) != 0)=false:=bne_eq_false_iff_eq.mpr c5;clear c5;have H':=Aside0.mk H;clear H;have p107:0≤(x8_1:Int):=of_decide_eq_true (by first|(with_reducible assumption)|assumption);have q107:x8_1<(l0.length:Int):=of_decide_eq_true (by first|(with_reducible assumption)|assumption);obtain ⟨ad107,e107,hx107_0⟩:=Kd.at_int HR0.out x8_1 p107 q107;cases e107;replace p107:=eq_true p107;replace q107:=eq_true q107;go_wp2;go_roundg k1
           case measure=>have:=HK1.out;omega
           case rel=>exact ⟨(wrap64 (x8_1+1)),(by first|rfl|(simp;done)|(simp [*];done)),H',⟨by have:=HK1.out;omega⟩,by repeat (first|exact Drawn0.refl _|apply Drawn0.step)⟩
         · rw [if_neg c5] at H;have c5b0:((rd l0 x8_1)==0)=false:=beq_eq_false_iff_ne.mpr c5;have c5b1:((rd l0 x8_1) != 0)=true:=bne_iff_ne.mpr c5;obtain rfl:=Option.some.inj H;have p107:0≤(x8_1:Int):=of_decide_eq_true (by first|(with_reducible assumption)|assumption);have q107:x8_1<(l0.length:Int):=of_decide_eq_true (by first|(with_reducible assumption)|assumption);obtain ⟨ad107,e107,hx107_0⟩:=Kd.at_int HR0.out x8_1 p107 q107;cases e107;replace p107:=eq_true p107;replace q107:=eq_true q107;go_wp2;go_ret;exact ⟨by first|rfl|(simp;done)|(simp [*];done),by repeat (first|exact Drawn0.refl _|apply Drawn0.step)⟩
       · rw [if_neg c4] at H;exact absurd H (by simp)
     · rw [if_neg c3] at H;exact absurd H (by simp)
   · rw [if_neg c2] at H;have c2b0:decide (x8_1<(l0.length:Int))=false:=decide_eq_false c2;clear c2;obtain rfl:=Option.some.inj H;go_wp2;go_ret;exact ⟨by first|rfl|(simp;done)|(simp [*];done),by repeat (first|exact Drawn0.refl _|apply Drawn0.step)⟩
end Go.Proofs.YtgmiekggdgmhkaaGreatDoor.U
end
section
namespace Go.Proofs.YtgmiekggdgmhkaaGreatDoor.Q
open Go.RowKit Go.Proofs.YtgmiekggdgmhkaaGreatDoorW.PrintWords Go.Proofs.YtgmiekggdgmhkaaGreatDoorW.PrintLast Go.Proofs.YtgmiekggdgmhkaaGreatDoorW.PrintMore
attribute [local go_sem] max2_int min2_int max_two min_two max_three min_three max_four min_four
set_option linter.unusedVariables false
set_option linter.unusedSimpArgs false
mutual
def mummerref04_end.l0:Nat→List (S40)→Int→Int→Int→Option (Int)
 |0,_,_,_,_=>none
 |k+1,x0,x1,x5,x6=>if 0≤x1 then (if x1<(x0.length:Int) then (if x6<((rd_T40 x0 x1).f1) then ((mummerref04_end.f k x0 x5).bind fun t355=>(mummerref04_end.l0 k x0 x1 t355 (wrap64 (x6+1)))) else (some x5)) else (none)) else (none)
def mummerref04_end.f:Nat→List (S40)→Int→Option (Int)
 |0,_,_=>none
 |k+1,l0,a1=>mummerref04_end.l0 k l0 a1 (wrap64 (a1+1)) 0
end
set_option maxHeartbeats 8000000 in
set_option maxRecDepth 100000 in
theorem mummerref04_end.calls (k:Nat): ∀(A0:Option Addr) (c0:Nat) (l0:List (S40)) (a1:Int) (r:Int) (w:World) (hr0:Kd.C k40 w A0 l0.length l0) (hc0:l0.length≤c0) (h:mummerref04_end.f k l0 a1=some r),
 Calls Tryz.prog 59 #[.slice A0 l0.length c0,.int .i64 a1] w fun e w'=>e= .returned (.int .i64 r)∧Drawn0 w w':=by
 induction k using Nat.strongRecOn with
 |_ k ih=>
 intro A0 c0 l0 a1 r w hr0 hc0 h
 cases k with
 |zero=>exact absurd h (by simp [mummerref04_end.f])
 |succ k=>
 simp only [mummerref04_end.f] at h;have HR0:=Aside0.mk hr0;have HC0:=Aside0.mk hc0;clear hr0 hc0;have H:(mummerref04_end.l0 k l0 a1 (wrap64 (a1+1)) 0)=some r:=h;clear h;have H':=Aside0.mk H;clear H;go_enter Tryz.func59,Tryz.ntmps59;go_wp2
 go_loopg [5,6] k (fun kq v5 v6 w'=> ∃(x5_1:Int) (x6_1:Int),v5= .int .i64 x5_1∧v6= .int .i64 x6_1∧Aside0 (mummerref04_end.l0 kq l0 a1 x5_1 x6_1=some r)∧Aside0 (kq≤k)∧Drawn0 w w')
 case atStart=>exact ⟨(wrap64 (a1+1)),(0),(by first|rfl|(simp;done)|(simp [*];done)),(by first|rfl|(simp;done)|(simp [*];done)),H',⟨Nat.le_refl _⟩,by repeat (first|exact Drawn0.refl _|apply Drawn0.step)⟩
 case round=>
  clear H'
  try clear p2
  obtain ⟨x5_1,x6_1,rfl,rfl,HA,HK1,⟨m1,rfl⟩⟩:=hrel
  cases gk with
  |zero=>exact absurd HA.out (by simp [mummerref04_end.l0])
  |succ k1=>
   have H:=HA.out;clear HA;simp only [mummerref04_end.l0] at H;by_cases c3:0≤a1
   · rw [if_pos c3] at H;have c3b0:decide (0≤a1)=true:=decide_eq_true c3;clear c3;by_cases c4:a1<(l0.length:Int)
     · rw [if_pos c4] at H;have c4b0:decide (a1<(l0.length:Int))=true:=decide_eq_true c4;clear c4;by_cases c5:x6_1<((rd_T40 l0 a1).f1)
       · rw [if_pos c5] at H;have c5b0:decide (x6_1<((rd_T40 l0 a1).f1))=true:=decide_eq_true c5;clear c5;replace H:=Option.bind_eq_some_iff.mp H;obtain ⟨t355,A60,H⟩:=H;replace H:(mummerref04_end.l0 k1 l0 a1 t355 (wrap64 (x6_1+1)))=some r:=H;have A6:=Aside0.mk A60;clear A60;have H':=Aside0.mk H;clear H;have p354:0≤(a1:Int):=of_decide_eq_true (by first|(with_reducible assumption)|assumption);have q354:a1<(l0.length:Int):=of_decide_eq_true (by first|(with_reducible assumption)|assumption);obtain ⟨ad354,e354,hx354_0,hx354_1,hx354_2,hx354_3⟩:=at_T40 HR0.out a1 p354 q354;cases e354;replace p354:=eq_true p354;replace q354:=eq_true q354
         go_wp2_with (first|((with_reducible refine gate_callee (f:=59) rfl ?_);refine goesL_ (some 20) rfl rfl Tryz.func59 (by kernel_rfl) rfl #[.slice (some ad354) l0.length c0,.int .i64 x5_1] rfl (by (try simp only [List.map_toArray,List.map_cons,List.map_nil]);first|done|rfl|(simp only [List.length_drop,List.length_take];rfl)) ?_;(with_reducible refine (ih k1 (by have:=HK1.out;omega) _ _ l0 x5_1 t355 _ ?side1 ?side2 A6.out).mono ?_);(case side1=>repeat (first|exact HR0.out|(with_reducible refine Kd.C_alloc ?_ _)|(with_reducible refine Kd.C_drewN ?_ _)|(with_reducible refine Kd.C_drew ?_)));(case side2=>exact HC0.out);rintro e w' ⟨rfl,⟨nd,rfl⟩⟩;refine ⟨_,rfl,?_⟩))
         go_roundg k1
         case measure=>have:=HK1.out;omega
         case rel=>exact ⟨(t355),(wrap64 (x6_1+1)),(by first|rfl|(simp;done)|(simp [*];done)),(by first|rfl|(simp;done)|(simp [*];done)),H',⟨by have:=HK1.out;omega⟩,by repeat (first|exact Drawn0.refl _|apply Drawn0.step)⟩
       · rw [if_neg c5] at H;have c5b0:decide (x6_1<((rd_T40 l0 a1).f1))=false:=decide_eq_false c5;clear c5;obtain rfl:=Option.some.inj H;have p354:0≤(a1:Int):=of_decide_eq_true (by first|(with_reducible assumption)|assumption);have q354:a1<(l0.length:Int):=of_decide_eq_true (by first|(with_reducible assumption)|assumption);obtain ⟨ad354,e354,hx354_0,hx354_1,hx354_2,hx354_3⟩:=at_T40 HR0.out a1 p354 q354;cases e354;replace p354:=eq_true p354;replace q354:=eq_true q354;go_wp2;go_ret;exact ⟨by first|rfl|(simp;done)|(simp [*];done),by repeat (first|exact Drawn0.refl _|apply Drawn0.step)⟩
     · rw [if_neg c4] at H;exact absurd H (by simp)
   · rw [if_neg c3] at H;exact absurd H (by simp)
def mummerref04_Strings.l0:Nat→List ByteArray→List ByteArray→Int→Option (Bool)
 |0,_,_,_=>none
 |k+1,x0,x1,x5=>if x5<(x0.length:Int) then (if 0≤x5 then (if x5<(x1.length:Int) then (if (rdOf ByteArray.empty x0 x5).toList=(rdOf ByteArray.empty x1 x5).toList then (mummerref04_Strings.l0 k x0 x1 (wrap64 (x5+1))) else (some false)) else (none)) else (none)) else (some true)
def mummerref04_Strings.f (k:Nat) (l0:List ByteArray) (l1:List ByteArray):Option (Bool):=if (l0.length:Int)=(l1.length:Int) then (mummerref04_Strings.l0 k l0 l1 0) else (some false)
set_option maxHeartbeats 8000000 in
set_option maxRecDepth 100000 in
theorem mummerref04_Strings.calls (k:Nat) (A0:Option Addr) (c0:Nat) (l0:List ByteArray) (A1:Option Addr) (c1:Nat) (l1:List ByteArray) (r:Bool) (w:World) (hr0:Kd.C Kd.string w A0 l0.length l0) (hc0:l0.length≤c0) (hr1:Kd.C Kd.string w A1 l1.length l1) (hc1:l1.length≤c1) (h:mummerref04_Strings.f k l0 l1=some r):
 Calls Tryz.prog 11 #[.slice A0 l0.length c0,.slice A1 l1.length c1] w fun e w'=>e= .returned (.bool r)∧Drawn0 w w':=by
 have HR0:=Aside0.mk hr0;have HC0:=Aside0.mk hc0;clear hr0 hc0;have HR1:=Aside0.mk hr1;have HC1:=Aside0.mk hc1;clear hr1 hc1;have H:(if (l0.length:Int)=(l1.length:Int) then (mummerref04_Strings.l0 k l0 l1 0) else (some false))=some r:=h;clear h
 by_cases c3:(l0.length:Int)=(l1.length:Int)
 · rw [if_pos c3] at H;have c3b0:((l0.length:Int)==(l1.length:Int))=true:=beq_iff_eq.mpr c3;have c3b1:((l0.length:Int) != (l1.length:Int))=false:=bne_eq_false_iff_eq.mpr c3
   have c3b2:(l0.length==l1.length)=true:=by first|simpa using c3|(simp at c3 ⊢; omega)
   clear c3;have H':=Aside0.mk H;clear H;go_enter Tryz.func11,Tryz.ntmps11;go_wp2
   repeat (go_quiet (fail);try go_wp2)
   go_loopg [5] k (fun kq v5 w'=> ∃(x5_1:Int),v5= .int .i64 x5_1∧Aside0 (mummerref04_Strings.l0 kq l0 l1 x5_1=some r)∧Aside0 (kq≤k)∧Drawn0 w w')
   case atStart=>exact ⟨(0),(by first|rfl|(simp;done)|(simp [*];done)),H',⟨Nat.le_refl _⟩,by repeat (first|exact Drawn0.refl _|apply Drawn0.step)⟩
   case round=>
    clear H'
    try clear c1
    try clear p2
    try clear c3
    try clear c3b0
    try clear c3b1
    try clear c3b2
    obtain ⟨x5_1,rfl,HA,HK1,⟨m1,rfl⟩⟩:=hrel
    cases gk with
    |zero=>exact absurd HA.out (by simp [mummerref04_Strings.l0])
    |succ k1=>
     have H:=HA.out;clear HA;simp only [mummerref04_Strings.l0] at H;by_cases c4:x5_1<(l0.length:Int)
     · rw [if_pos c4] at H;have c4b0:decide (x5_1<(l0.length:Int))=true:=decide_eq_true c4;clear c4;by_cases c5:0≤x5_1
       · rw [if_pos c5] at H;have c5b0:decide (0≤x5_1)=true:=decide_eq_true c5;clear c5;by_cases c6:x5_1<(l1.length:Int)
         · rw [if_pos c6] at H;have c6b0:decide (x5_1<(l1.length:Int))=true:=decide_eq_true c6;clear c6;by_cases c7:(rdOf ByteArray.empty l0 x5_1).toList=(rdOf ByteArray.empty l1 x5_1).toList
           · rw [if_pos c7] at H;have c7b0:((rdOf ByteArray.empty l0 x5_1).toList==(rdOf ByteArray.empty l1 x5_1).toList)=true:=beq_iff_eq.mpr c7;have c7b1:((rdOf ByteArray.empty l0 x5_1).toList != (rdOf ByteArray.empty l1 x5_1).toList)=false:=bne_eq_false_iff_eq.mpr c7;clear c7;have H':=Aside0.mk H;clear H;have p301:0≤(x5_1:Int):=of_decide_eq_true (by first|(with_reducible assumption)|assumption);have q301:x5_1<(l0.length:Int):=of_decide_eq_true (by first|(with_reducible assumption)|assumption);obtain ⟨ad301,e301,hx301_0⟩:=Kd.at_string HR0.out x5_1 p301 q301;cases e301;replace p301:=eq_true p301;replace q301:=eq_true q301;have p302:0≤(x5_1:Int):=of_decide_eq_true (by first|(with_reducible assumption)|assumption);have q302:x5_1<(l1.length:Int):=of_decide_eq_true (by first|(with_reducible assumption)|assumption);obtain ⟨ad302,e302,hx302_0⟩:=Kd.at_string HR1.out x5_1 p302 q302;cases e302;replace p302:=eq_true p302;replace q302:=eq_true q302;go_wp2
             repeat (go_quiet (fail);try go_wp2)
             go_roundg k1
             case measure=>have:=HK1.out;omega
             case rel=>exact ⟨(wrap64 (x5_1+1)),(by first|rfl|(simp;done)|(simp [*];done)),H',⟨by have:=HK1.out;omega⟩,by repeat (first|exact Drawn0.refl _|apply Drawn0.step)⟩
           · rw [if_neg c7] at H;have c7b0:((rdOf ByteArray.empty l0 x5_1).toList==(rdOf ByteArray.empty l1 x5_1).toList)=false:=beq_eq_false_iff_ne.mpr c7;have c7b1:((rdOf ByteArray.empty l0 x5_1).toList != (rdOf ByteArray.empty l1 x5_1).toList)=true:=bne_iff_ne.mpr c7;obtain rfl:=Option.some.inj H;have p301:0≤(x5_1:Int):=of_decide_eq_true (by first|(with_reducible assumption)|assumption);have q301:x5_1<(l0.length:Int):=of_decide_eq_true (by first|(with_reducible assumption)|assumption);obtain ⟨ad301,e301,hx301_0⟩:=Kd.at_string HR0.out x5_1 p301 q301;cases e301;replace p301:=eq_true p301;replace q301:=eq_true q301;have p302:0≤(x5_1:Int):=of_decide_eq_true (by first|(with_reducible assumption)|assumption);have q302:x5_1<(l1.length:Int):=of_decide_eq_true (by first|(with_reducible assumption)|assumption);obtain ⟨ad302,e302,hx302_0⟩:=Kd.at_string HR1.out x5_1 p302 q302;cases e302;replace p302:=eq_true p302;replace q302:=eq_true q302;go_wp2
             repeat (go_quiet (fail);try go_wp2)
             go_ret;exact ⟨by first|rfl|(simp;done)|(simp [*];done),by repeat (first|exact Drawn0.refl _|apply Drawn0.step)⟩
         · rw [if_neg c6] at H;exact absurd H (by simp)
       · rw [if_neg c5] at H;exact absurd H (by simp)
     · rw [if_neg c4] at H;have c4b0:decide (x5_1<(l0.length:Int))=false:=decide_eq_false c4;clear c4;obtain rfl:=Option.some.inj H;go_wp2
       repeat (go_quiet (fail);try go_wp2)
       go_ret;exact ⟨by first|rfl|(simp;done)|(simp [*];done),by repeat (first|exact Drawn0.refl _|apply Drawn0.step)⟩
 · rw [if_neg c3] at H;have c3b0:((l0.length:Int)==(l1.length:Int))=false:=beq_eq_false_iff_ne.mpr c3;have c3b1:((l0.length:Int) != (l1.length:Int))=true:=bne_iff_ne.mpr c3
   have c3b2:(l0.length==l1.length)=false:=by first|simpa using c3|(simp at c3 ⊢; omega)
   obtain rfl:=Option.some.inj H;go_enter Tryz.func11,Tryz.ntmps11;go_wp2
   repeat (go_quiet (fail);try go_wp2)
   go_ret;exact ⟨by first|rfl|(simp;done)|(simp [*];done),by repeat (first|exact Drawn0.refl _|apply Drawn0.step)⟩
def mummerref04_place.l0:Nat→List ByteArray→ByteArray→Int→Option (Int)
 |0,_,_,_=>none
 |k+1,x0,x1,x5=>if x5<(x0.length:Int) then (if 0≤x5 then (if (rdOf ByteArray.empty x0 x5).toList=x1.toList then (some x5) else (mummerref04_place.l0 k x0 x1 (wrap64 (x5+1)))) else (none)) else (some (-1))
def mummerref04_place.f (k:Nat) (l0:List ByteArray) (a1:ByteArray):Option (Int):=mummerref04_place.l0 k l0 a1 0
set_option maxHeartbeats 8000000 in
set_option maxRecDepth 100000 in
theorem mummerref04_place.calls (k:Nat) (A0:Option Addr) (c0:Nat) (l0:List ByteArray) (a1:ByteArray) (r:Int) (w:World) (hr0:Kd.C Kd.string w A0 l0.length l0) (hc0:l0.length≤c0) (h:mummerref04_place.f k l0 a1=some r):
 Calls Tryz.prog 35 #[.slice A0 l0.length c0,.string a1] w fun e w'=>e= .returned (.int .i64 r)∧Drawn0 w w':=by
 have HR0:=Aside0.mk hr0;have HC0:=Aside0.mk hc0;clear hr0 hc0;have H:(mummerref04_place.l0 k l0 a1 0)=some r:=h;clear h;have H':=Aside0.mk H;clear H;go_enter Tryz.func35,Tryz.ntmps35;go_wp2
 go_loopg [5] k (fun kq v5 w'=> ∃(x5_1:Int),v5= .int .i64 x5_1∧Aside0 (mummerref04_place.l0 kq l0 a1 x5_1=some r)∧Aside0 (kq≤k)∧Drawn0 w w')
 case atStart=>exact ⟨(0),(by first|rfl|(simp;done)|(simp [*];done)),H',⟨Nat.le_refl _⟩,by repeat (first|exact Drawn0.refl _|apply Drawn0.step)⟩
 case round=>
  clear H'
  try clear p2
  obtain ⟨x5_1,rfl,HA,HK1,⟨m1,rfl⟩⟩:=hrel
  cases gk with
  |zero=>exact absurd HA.out (by simp [mummerref04_place.l0])
  |succ k1=>
   have H:=HA.out;clear HA;simp only [mummerref04_place.l0] at H;by_cases c3:x5_1<(l0.length:Int)
   · rw [if_pos c3] at H;have c3b0:decide (x5_1<(l0.length:Int))=true:=decide_eq_true c3;clear c3;by_cases c4:0≤x5_1
     · rw [if_pos c4] at H;have c4b0:decide (0≤x5_1)=true:=decide_eq_true c4;clear c4;by_cases c5:(rdOf ByteArray.empty l0 x5_1).toList=a1.toList
       · rw [if_pos c5] at H;have c5b0:((rdOf ByteArray.empty l0 x5_1).toList==a1.toList)=true:=beq_iff_eq.mpr c5;have c5b1:((rdOf ByteArray.empty l0 x5_1).toList != a1.toList)=false:=bne_eq_false_iff_eq.mpr c5;clear c5;obtain rfl:=Option.some.inj H;have p303:0≤(x5_1:Int):=of_decide_eq_true (by first|(with_reducible assumption)|assumption);have q303:x5_1<(l0.length:Int):=of_decide_eq_true (by first|(with_reducible assumption)|assumption);obtain ⟨ad303,e303,hx303_0⟩:=Kd.at_string HR0.out x5_1 p303 q303;cases e303;replace p303:=eq_true p303;replace q303:=eq_true q303;go_wp2;go_ret;exact ⟨by first|rfl|(simp;done)|(simp [*];done),by repeat (first|exact Drawn0.refl _|apply Drawn0.step)⟩
       · rw [if_neg c5] at H;have c5b0:((rdOf ByteArray.empty l0 x5_1).toList==a1.toList)=false:=beq_eq_false_iff_ne.mpr c5;have c5b1:((rdOf ByteArray.empty l0 x5_1).toList != a1.toList)=true:=bne_iff_ne.mpr c5;have H':=Aside0.mk H;clear H;have p303:0≤(x5_1:Int):=of_decide_eq_true (by first|(with_reducible assumption)|assumption);have q303:x5_1<(l0.length:Int):=of_decide_eq_true (by first|(with_reducible assumption)|assumption);obtain ⟨ad303,e303,hx303_0⟩:=Kd.at_string HR0.out x5_1 p303 q303;cases e303;replace p303:=eq_true p303;replace q303:=eq_true q303;go_wp2;go_roundg k1
         case measure=>have:=HK1.out;omega
         case rel=>exact ⟨(wrap64 (x5_1+1)),(by first|rfl|(simp;done)|(simp [*];done)),H',⟨by have:=HK1.out;omega⟩,by repeat (first|exact Drawn0.refl _|apply Drawn0.step)⟩
     · rw [if_neg c4] at H;exact absurd H (by simp)
   · rw [if_neg c3] at H;have c3b0:decide (x5_1<(l0.length:Int))=false:=decide_eq_false c3;clear c3;obtain rfl:=Option.some.inj H;go_wp2;go_ret;exact ⟨by first|rfl|(simp;done)|(simp [*];done),by repeat (first|exact Drawn0.refl _|apply Drawn0.step)⟩
end Go.Proofs.YtgmiekggdgmhkaaGreatDoor.Q
end
