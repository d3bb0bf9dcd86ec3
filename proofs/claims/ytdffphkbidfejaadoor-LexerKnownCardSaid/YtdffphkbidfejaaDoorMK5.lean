import Derived.ArgAppend
import Derived.Below
import Derived.BigQuiet
import Derived.Deep.AppendLies
import Derived.Deep.CutBlock
import Derived.Deep.DeepCutAuto
import Derived.Deep.Draws
import Derived.Deep.LoopGhost
import Derived.Deep.OwnRows
import Derived.Deep.QuietTactic
import Derived.Deep.RegionHeld3
import Derived.KernelRfl
import Derived.Laws.BitsLemmas
import Derived.Laws.BytesArg
import Derived.Laws.IdiomCopy
import Derived.Laws.MakeOwn
import Derived.Laws.OwnMore
import Derived.Laws.Rows
import Derived.Laws.Slices
import Derived.Lib.AppendStr
import Derived.Lib.ConvBytes
import Derived.Maps.AppendAt
import Derived.OrdersHeld
import Derived.OwnWalk
import Derived.RowKit
import Derived.RowKit3
import Derived.Tactics
import Derived.Test.YtdffphkbidfejaaDoorProg
import Derived.WalkKit
import Derived.WideLaws
import Derived.Test.YtdffphkbidfejaaDoorMK0
import Derived.Test.YtdffphkbidfejaaDoorMK2
import Derived.Test.YtdffphkbidfejaaDoorMK3
import Derived.Test.YtdffphkbidfejaaDoorMK4
section
namespace Go.Proofs.YtdffphkbidfejaaDoor.Q
open Go.RowKit Go.Proofs.YtdffphkbidfejaaDoorW.PrintWords Go.Proofs.YtdffphkbidfejaaDoorW.PrintLast Go.Proofs.YtdffphkbidfejaaDoorW.PrintMore
attribute [local go_sem] max2_int min2_int max_two min_two max_three min_three max_four min_four
set_option linter.unusedVariables false
set_option linter.unusedSimpArgs false
def errW:Option Int→Value
 |none=> .nilIface
 |some c=> .iface 0 (.int .i64 c)
theorem errW_none:errW none= .nilIface:=rfl
theorem errW_some (c:Int):errW (some c)= .iface 0 (.int .i64 c):=rfl
theorem info27:(Tryd.prog.info? 27).map (fun i=>(i.zero,i.size,i.bytes))=some (some (.agg #[(.int .i64 0),(.int .i64 0)]),2,16):=by kernel_rfl
theorem info36:(Tryd.prog.info? 36).map (fun i=>(i.zero,i.size,i.bytes))=some (some (.agg #[(.int .i64 0),(.int .i64 0),(.int .i64 0),(.int .i64 0),(.string ⟨#[]⟩)]),5,48):=by kernel_rfl
structure S27 where
 f0:Int
 f1:Int
def z27:S27:=⟨(0:Int),(0:Int)⟩
def k27:Kd S27:=Kd.iso (Kd.pair (Kd.int .i64) (Kd.int .i64)) (fun x:S27=>(x.f0,x.f1))
theorem k27_open {w:World} {x:S27} {cs:List Value} (h:k27.K w x cs):cs=[.int .i64 x.f0,.int .i64 x.f1]:=by
 obtain ⟨_,_,rfl,rfl,rfl⟩:=h;exact rfl
theorem k27_openM {w:World} {base:Nat} {ok:Nat→Prop} {x:S27} {cs:List Value} (h:k27.M w base ok x cs):cs=[.int .i64 x.f0,.int .i64 x.f1]:=by
 obtain ⟨_,_,rfl,rfl,rfl⟩:=h;exact rfl
theorem k27_mkM (w:World) (base:Nat) (ok:Nat→Prop) (x:S27)  :k27.M w base ok x [.int .i64 x.f0,.int .i64 x.f1]:=⟨[.int .i64 x.f0],[.int .i64 x.f1],rfl,rfl,rfl⟩
def rd_T27 (xs:List S27) (i:Int):S27:=xs.getD i.toNat z27
theorem at_T27 {w:World} {A:Option Addr} {n:Nat} {xs:List S27} (h:Kd.C k27 w A n xs) (i:Int) (h0:0≤i) (h1:i<n): ∃ad ,A=some ad∧w.cell? (ad.add (i.toNat*2))=some (.int .i64 (rd_T27 xs i).f0)∧w.cell? ⟨(ad.add (i.toNat*2)).block,(ad.add (i.toNat*2)).off+1,none⟩=some (.int .i64 (rd_T27 xs i).f1):=by
 obtain ⟨ad,c,e,_,hK,hc0⟩:=Kd.C_get h z27 i h0 h1;have hc: ∀j u,c[j]? =some u→w.cell? (ad.add (i.toNat*2+j))=some u:=hc0;obtain rfl:=k27_open hK;exact ⟨ad,e,hc 0 _ rfl,by rw [←add_field _ _ 1 (by omega)];exact hc 1 _ rfl⟩
structure S36 where
 f0:Int
 f1:S27
 f2:Int
 f3:ByteArray
def z36:S36:=⟨(0:Int),z27,(0:Int),(⟨#[]⟩:ByteArray)⟩
def k36:Kd S36:=Kd.iso (Kd.pair (Kd.int .i64) (Kd.pair k27 (Kd.pair (Kd.int .i64) Kd.string))) (fun x:S36=>(x.f0,x.f1,x.f2,x.f3))
theorem k36_open {w:World} {x:S36} {cs:List Value} (h:k36.K w x cs):cs=[.int .i64 x.f0,.int .i64 x.f1.f0,.int .i64 x.f1.f1,.int .i64 x.f2,.string x.f3]:=by
 obtain ⟨_,_,rfl,rfl,⟨_,_,rfl,s1,⟨_,_,rfl,rfl,rfl⟩⟩⟩:=h;obtain rfl:=k27_open s1;exact rfl
theorem k36_mkM (w:World) (base:Nat) (ok:Nat→Prop) (x:S36)  :k36.M w base ok x [.int .i64 x.f0,.int .i64 x.f1.f0,.int .i64 x.f1.f1,.int .i64 x.f2,.string x.f3]:=⟨[.int .i64 x.f0],[.int .i64 x.f1.f0,.int .i64 x.f1.f1,.int .i64 x.f2,.string x.f3],rfl,rfl,⟨[.int .i64 x.f1.f0,.int .i64 x.f1.f1],[.int .i64 x.f2,.string x.f3],rfl,(k27_mkM w base ok x.f1 ),⟨[.int .i64 x.f2],[.string x.f3],rfl,rfl,rfl⟩⟩⟩
def rd_T36 (xs:List S36) (i:Int):S36:=xs.getD i.toNat z36
theorem at_T36 {w:World} {A:Option Addr} {n:Nat} {xs:List S36} (h:Kd.C k36 w A n xs) (i:Int) (h0:0≤i) (h1:i<n): ∃ad ,A=some ad∧w.cell? (ad.add (i.toNat*5))=some (.int .i64 (rd_T36 xs i).f0)∧w.cell? ⟨(ad.add (i.toNat*5)).block,(ad.add (i.toNat*5)).off+1,none⟩=some (.int .i64 (rd_T36 xs i).f1.f0)∧w.cell? ⟨(ad.add (i.toNat*5)).block,(ad.add (i.toNat*5)).off+2,none⟩=some (.int .i64 (rd_T36 xs i).f1.f1)∧w.cell? ⟨(ad.add (i.toNat*5)).block,(ad.add (i.toNat*5)).off+3,none⟩=some (.int .i64 (rd_T36 xs i).f2)∧w.cell? ⟨(ad.add (i.toNat*5)).block,(ad.add (i.toNat*5)).off+4,none⟩=some (.string (rd_T36 xs i).f3):=by
 obtain ⟨ad,c,e,_,hK,hc0⟩:=Kd.C_get h z36 i h0 h1;have hc: ∀j u,c[j]? =some u→w.cell? (ad.add (i.toNat*5+j))=some u:=hc0;obtain rfl:=k36_open hK;exact ⟨ad,e,hc 0 _ rfl,by rw [←add_field _ _ 1 (by omega)];exact hc 1 _ rfl,by rw [←add_field _ _ 2 (by omega)];exact hc 2 _ rfl,by rw [←add_field _ _ 3 (by omega)];exact hc 3 _ rfl,by rw [←add_field _ _ 4 (by omega)];exact hc 4 _ rfl⟩
def lexer_hash.f (a0:ByteArray):Option (Int×Int×Int×Int×ByteArray×Int):=if a0.toList=([35,59]:List UInt8) then (some (4,0,0,0,(⟨#[]⟩:ByteArray),0)) else (if a0.toList=([35,116]:List UInt8) then (some (6,0,0,1,(⟨#[]⟩:ByteArray),0)) else (if a0.toList=([35,102]:List UInt8) then (some (6,0,0,0,(⟨#[]⟩:ByteArray),0)) else (some (0,0,0,0,(⟨#[]⟩:ByteArray),6))))
set_option maxHeartbeats 8000000 in
set_option maxRecDepth 100000 in
theorem lexer_hash.calls (a0:ByteArray) (r1:Int) (r2:Int) (r3:Int) (r4:Int) (r5:ByteArray) (r6:Int) (w:World) (h:lexer_hash.f a0=some (r1,r2,r3,r4,r5,r6)):
 Calls Tryd.prog 28 #[.string a0] w fun e w'=>e= .returned (.tuple #[.agg #[.int .i64 r1,.int .i64 r2,.int .i64 r3,.int .i64 r4,.string r5],.int .i64 r6])∧Below w.heap.size w w':=by
 have hu36:=Tryd.underlying36;have HB:=Aside0.mk (Below.refl w.heap.size w);have H:(if a0.toList=([35,59]:List UInt8) then (some (4,0,0,0,(⟨#[]⟩:ByteArray),0)) else (if a0.toList=([35,116]:List UInt8) then (some (6,0,0,1,(⟨#[]⟩:ByteArray),0)) else (if a0.toList=([35,102]:List UInt8) then (some (6,0,0,0,(⟨#[]⟩:ByteArray),0)) else (some (0,0,0,0,(⟨#[]⟩:ByteArray),6)))))=some (r1,r2,r3,r4,r5,r6):=h;clear h
 by_cases c2:a0.toList=([35,59]:List UInt8)
 · rw [if_pos c2] at H;have c2b0:(a0.toList==([35,59]:List UInt8))=true:=beq_iff_eq.mpr c2;have c2b1:(a0.toList != ([35,59]:List UInt8))=false:=bne_eq_false_iff_eq.mpr c2;clear c2;simp only [Option.some.injEq,Prod.mk.injEq] at H;obtain ⟨rfl,rfl,rfl,rfl,rfl,rfl⟩:=H;go_enter Tryd.func28,Tryd.ntmps28
   go_wp2_with (first|((with_reducible refine gate_dst (N:=2) rfl ?_);refine box_event ?hg (N:=2) ?hd (cs:= #[.int .i64 0,.int .i64 0,.int .i64 0,.int .i64 0,.string (⟨#[]⟩:ByteArray)]) (t:=36) ?hr ?_;(case hd=>rfl);(case hg=>rfl);(case hr=>first|(go_simp;done)|(go_simp;rfl));intro gb324 hg w3 hbox hb;have n0_:=Aside0.mk (below_step (by repeat (first|(with_reducible first|exact HB.out|apply below_alloc|apply pw_below_drewN|apply below_drew1)|exact HB.out)) hb);have n1_:=Aside0.mk (hbox);have n2_:=Aside0.mk ((by rw [hg];exact (below_size (by repeat (first|(with_reducible first|exact HB.out|apply below_alloc|apply pw_below_drewN|apply below_drew1)|exact HB.out))):w.heap.size≤gb324));have n3_:=Aside0.mk ((by rw [hg];exact (below_size (by repeat (first|(with_reducible first|exact HB.out|apply below_alloc|apply pw_below_drewN|apply below_drew1)|exact HB.out))):w.heap.size≤gb324));clear HB;have HB:=n0_;have BK324:=n1_;have GW324:=n2_;have GE324:=n3_;clear n0_ n1_ n2_ n3_;clear hb hbox hg;have hcz4_0:w3.cell? ⟨gb324,0,none⟩=some (.int .i64 0):=(blk_cell BK324.out 0).trans rfl;have hcz4_1:w3.cell? ⟨gb324,1,none⟩=some (.int .i64 0):=(blk_cell BK324.out 1).trans rfl;have hcz4_2:w3.cell? ⟨gb324,2,none⟩=some (.int .i64 0):=(blk_cell BK324.out 2).trans rfl;have hcz4_3:w3.cell? ⟨gb324,3,none⟩=some (.int .i64 0):=(blk_cell BK324.out 3).trans rfl;have hcz4_4:w3.cell? ⟨gb324,4,none⟩=some (.string (⟨#[]⟩:ByteArray)):=(blk_cell BK324.out 4).trans rfl;have hfz4_0:=blk_frozen BK324.out 0;have hfz4_1:=blk_frozen BK324.out 1;have hfz4_2:=blk_frozen BK324.out 2;have hfz4_3:=blk_frozen BK324.out 3;have hfz4_4:=blk_frozen BK324.out 4))
   refine bodyPost_ret (results_ct rfl _ _ gb324 36 #[.int .i64 4,.int .i64 0,.int .i64 0,.int .i64 0,.string (⟨#[]⟩:ByteArray)] (0,0) _ rfl (by (with_reducible repeat (first|refine blk_drewN ?_ _|refine blk_drew ?_|refine blk_alloc ?_ _));refine blk_put (cs:= #[.int .i64 4,.int .i64 0,.int .i64 0,.int .i64 0,.string (⟨#[]⟩:ByteArray)]) ?_ 4 _ rfl;(with_reducible repeat (first|refine blk_drewN ?_ _|refine blk_drew ?_|refine blk_alloc ?_ _));refine blk_put (cs:= #[.int .i64 4,.int .i64 0,.int .i64 0,.int .i64 0,.string (⟨#[]⟩:ByteArray)]) ?_ 3 _ rfl;(with_reducible repeat (first|refine blk_drewN ?_ _|refine blk_drew ?_|refine blk_alloc ?_ _));refine blk_put (cs:= #[.int .i64 4,.int .i64 0,.int .i64 0,.int .i64 0,.string (⟨#[]⟩:ByteArray)]) ?_ 2 _ rfl;(with_reducible repeat (first|refine blk_drewN ?_ _|refine blk_drew ?_|refine blk_alloc ?_ _));refine blk_put (cs:= #[.int .i64 4,.int .i64 0,.int .i64 0,.int .i64 0,.string (⟨#[]⟩:ByteArray)]) ?_ 1 _ rfl;(with_reducible repeat (first|refine blk_drewN ?_ _|refine blk_drew ?_|refine blk_alloc ?_ _));refine blk_put (cs:= #[.int .i64 0,.int .i64 0,.int .i64 0,.int .i64 0,.string (⟨#[]⟩:ByteArray)]) ?_ 0 _ rfl;(with_reducible repeat (first|refine blk_drewN ?_ _|refine blk_drew ?_|refine blk_alloc ?_ _));exact BK324.out) Tryd.underlying36 rfl (by kernel_rfl)) rfl ?_;exact ⟨by first|rfl|(simp [errW_none,errW_some]<;>rfl)|(simp [*, errW_none,errW_some]<;>rfl),by repeat (first|(with_reducible first|exact HB.out|apply below_alloc|apply pw_below_drewN|apply below_drew1|refine below_set ?_ GE324.out)|exact HB.out)⟩
 · rw [if_neg c2] at H;have c2b0:(a0.toList==([35,59]:List UInt8))=false:=beq_eq_false_iff_ne.mpr c2;have c2b1:(a0.toList != ([35,59]:List UInt8))=true:=bne_iff_ne.mpr c2
   by_cases c5:a0.toList=([35,116]:List UInt8)
   · rw [if_pos c5] at H;have c5b0:(a0.toList==([35,116]:List UInt8))=true:=beq_iff_eq.mpr c5;have c5b1:(a0.toList != ([35,116]:List UInt8))=false:=bne_eq_false_iff_eq.mpr c5;clear c5;simp only [Option.some.injEq,Prod.mk.injEq] at H;obtain ⟨rfl,rfl,rfl,rfl,rfl,rfl⟩:=H;go_enter Tryd.func28,Tryd.ntmps28
     go_wp2_with (first|((with_reducible refine gate_dst (N:=2) rfl ?_);refine box_event ?hg (N:=2) ?hd (cs:= #[.int .i64 0,.int .i64 0,.int .i64 0,.int .i64 0,.string (⟨#[]⟩:ByteArray)]) (t:=36) ?hr ?_;(case hd=>rfl);(case hg=>rfl);(case hr=>first|(go_simp;done)|(go_simp;rfl));intro gb324 hg w6 hbox hb;have n0_:=Aside0.mk (below_step (by repeat (first|(with_reducible first|exact HB.out|apply below_alloc|apply pw_below_drewN|apply below_drew1)|exact HB.out)) hb);have n1_:=Aside0.mk (hbox);have n2_:=Aside0.mk ((by rw [hg];exact (below_size (by repeat (first|(with_reducible first|exact HB.out|apply below_alloc|apply pw_below_drewN|apply below_drew1)|exact HB.out))):w.heap.size≤gb324));have n3_:=Aside0.mk ((by rw [hg];exact (below_size (by repeat (first|(with_reducible first|exact HB.out|apply below_alloc|apply pw_below_drewN|apply below_drew1)|exact HB.out))):w.heap.size≤gb324));clear HB;have HB:=n0_;have BK324:=n1_;have GW324:=n2_;have GE324:=n3_;clear n0_ n1_ n2_ n3_;clear hb hbox hg;have hcz7_0:w6.cell? ⟨gb324,0,none⟩=some (.int .i64 0):=(blk_cell BK324.out 0).trans rfl;have hcz7_1:w6.cell? ⟨gb324,1,none⟩=some (.int .i64 0):=(blk_cell BK324.out 1).trans rfl;have hcz7_2:w6.cell? ⟨gb324,2,none⟩=some (.int .i64 0):=(blk_cell BK324.out 2).trans rfl;have hcz7_3:w6.cell? ⟨gb324,3,none⟩=some (.int .i64 0):=(blk_cell BK324.out 3).trans rfl;have hcz7_4:w6.cell? ⟨gb324,4,none⟩=some (.string (⟨#[]⟩:ByteArray)):=(blk_cell BK324.out 4).trans rfl;have hfz7_0:=blk_frozen BK324.out 0;have hfz7_1:=blk_frozen BK324.out 1;have hfz7_2:=blk_frozen BK324.out 2;have hfz7_3:=blk_frozen BK324.out 3;have hfz7_4:=blk_frozen BK324.out 4))
     refine bodyPost_ret (results_ct rfl _ _ gb324 36 #[.int .i64 6,.int .i64 0,.int .i64 0,.int .i64 1,.string (⟨#[]⟩:ByteArray)] (0,0) _ rfl (by (with_reducible repeat (first|refine blk_drewN ?_ _|refine blk_drew ?_|refine blk_alloc ?_ _));refine blk_put (cs:= #[.int .i64 6,.int .i64 0,.int .i64 0,.int .i64 1,.string (⟨#[]⟩:ByteArray)]) ?_ 4 _ rfl;(with_reducible repeat (first|refine blk_drewN ?_ _|refine blk_drew ?_|refine blk_alloc ?_ _));refine blk_put (cs:= #[.int .i64 6,.int .i64 0,.int .i64 0,.int .i64 1,.string (⟨#[]⟩:ByteArray)]) ?_ 3 _ rfl;(with_reducible repeat (first|refine blk_drewN ?_ _|refine blk_drew ?_|refine blk_alloc ?_ _));refine blk_put (cs:= #[.int .i64 6,.int .i64 0,.int .i64 0,.int .i64 1,.string (⟨#[]⟩:ByteArray)]) ?_ 2 _ rfl;(with_reducible repeat (first|refine blk_drewN ?_ _|refine blk_drew ?_|refine blk_alloc ?_ _));refine blk_put (cs:= #[.int .i64 6,.int .i64 0,.int .i64 0,.int .i64 1,.string (⟨#[]⟩:ByteArray)]) ?_ 1 _ rfl;(with_reducible repeat (first|refine blk_drewN ?_ _|refine blk_drew ?_|refine blk_alloc ?_ _));refine blk_put (cs:= #[.int .i64 6,.int .i64 0,.int .i64 0,.int .i64 1,.string (⟨#[]⟩:ByteArray)]) ?_ 0 _ rfl;(with_reducible repeat (first|refine blk_drewN ?_ _|refine blk_drew ?_|refine blk_alloc ?_ _));refine blk_put (cs:= #[.int .i64 0,.int .i64 0,.int .i64 0,.int .i64 1,.string (⟨#[]⟩:ByteArray)]) ?_ 0 _ rfl;(with_reducible repeat (first|refine blk_drewN ?_ _|refine blk_drew ?_|refine blk_alloc ?_ _));refine blk_put (cs:= #[.int .i64 0,.int .i64 0,.int .i64 0,.int .i64 0,.string (⟨#[]⟩:ByteArray)]) ?_ 3 _ rfl;(with_reducible repeat (first|refine blk_drewN ?_ _|refine blk_drew ?_|refine blk_alloc ?_ _));exact BK324.out) Tryd.underlying36 rfl (by kernel_rfl)) rfl ?_;exact ⟨by first|rfl|(simp [errW_none,errW_some]<;>rfl)|(simp [*, errW_none,errW_some]<;>rfl),by repeat (first|(with_reducible first|exact HB.out|apply below_alloc|apply pw_below_drewN|apply below_drew1|refine below_set ?_ GE324.out)|exact HB.out)⟩
   · rw [if_neg c5] at H;have c5b0:(a0.toList==([35,116]:List UInt8))=false:=beq_eq_false_iff_ne.mpr c5;have c5b1:(a0.toList != ([35,116]:List UInt8))=true:=bne_iff_ne.mpr c5
     by_cases c8:a0.toList=([35,102]:List UInt8)
     · rw [if_pos c8] at H;have c8b0:(a0.toList==([35,102]:List UInt8))=true:=beq_iff_eq.mpr c8;have c8b1:(a0.toList != ([35,102]:List UInt8))=false:=bne_eq_false_iff_eq.mpr c8;clear c8;simp only [Option.some.injEq,Prod.mk.injEq] at H;obtain ⟨rfl,rfl,rfl,rfl,rfl,rfl⟩:=H;go_enter Tryd.func28,Tryd.ntmps28
       go_wp2_with (first|((with_reducible refine gate_dst (N:=2) rfl ?_);refine box_event ?hg (N:=2) ?hd (cs:= #[.int .i64 0,.int .i64 0,.int .i64 0,.int .i64 0,.string (⟨#[]⟩:ByteArray)]) (t:=36) ?hr ?_;(case hd=>rfl);(case hg=>rfl);(case hr=>first|(go_simp;done)|(go_simp;rfl));intro gb324 hg w9 hbox hb;have n0_:=Aside0.mk (below_step (by repeat (first|(with_reducible first|exact HB.out|apply below_alloc|apply pw_below_drewN|apply below_drew1)|exact HB.out)) hb);have n1_:=Aside0.mk (hbox);have n2_:=Aside0.mk ((by rw [hg];exact (below_size (by repeat (first|(with_reducible first|exact HB.out|apply below_alloc|apply pw_below_drewN|apply below_drew1)|exact HB.out))):w.heap.size≤gb324));have n3_:=Aside0.mk ((by rw [hg];exact (below_size (by repeat (first|(with_reducible first|exact HB.out|apply below_alloc|apply pw_below_drewN|apply below_drew1)|exact HB.out))):w.heap.size≤gb324));clear HB;have HB:=n0_;have BK324:=n1_;have GW324:=n2_;have GE324:=n3_;clear n0_ n1_ n2_ n3_;clear hb hbox hg;have hcz10_0:w9.cell? ⟨gb324,0,none⟩=some (.int .i64 0):=(blk_cell BK324.out 0).trans rfl;have hcz10_1:w9.cell? ⟨gb324,1,none⟩=some (.int .i64 0):=(blk_cell BK324.out 1).trans rfl;have hcz10_2:w9.cell? ⟨gb324,2,none⟩=some (.int .i64 0):=(blk_cell BK324.out 2).trans rfl;have hcz10_3:w9.cell? ⟨gb324,3,none⟩=some (.int .i64 0):=(blk_cell BK324.out 3).trans rfl;have hcz10_4:w9.cell? ⟨gb324,4,none⟩=some (.string (⟨#[]⟩:ByteArray)):=(blk_cell BK324.out 4).trans rfl;have hfz10_0:=blk_frozen BK324.out 0;have hfz10_1:=blk_frozen BK324.out 1;have hfz10_2:=blk_frozen BK324.out 2;have hfz10_3:=blk_frozen BK324.out 3;have hfz10_4:=blk_frozen BK324.out 4))
       refine bodyPost_ret (results_ct rfl _ _ gb324 36 #[.int .i64 6,.int .i64 0,.int .i64 0,.int .i64 0,.string (⟨#[]⟩:ByteArray)] (0,0) _ rfl (by (with_reducible repeat (first|refine blk_drewN ?_ _|refine blk_drew ?_|refine blk_alloc ?_ _));refine blk_put (cs:= #[.int .i64 6,.int .i64 0,.int .i64 0,.int .i64 0,.string (⟨#[]⟩:ByteArray)]) ?_ 4 _ rfl;(with_reducible repeat (first|refine blk_drewN ?_ _|refine blk_drew ?_|refine blk_alloc ?_ _));refine blk_put (cs:= #[.int .i64 6,.int .i64 0,.int .i64 0,.int .i64 0,.string (⟨#[]⟩:ByteArray)]) ?_ 3 _ rfl;(with_reducible repeat (first|refine blk_drewN ?_ _|refine blk_drew ?_|refine blk_alloc ?_ _));refine blk_put (cs:= #[.int .i64 6,.int .i64 0,.int .i64 0,.int .i64 0,.string (⟨#[]⟩:ByteArray)]) ?_ 2 _ rfl;(with_reducible repeat (first|refine blk_drewN ?_ _|refine blk_drew ?_|refine blk_alloc ?_ _));refine blk_put (cs:= #[.int .i64 6,.int .i64 0,.int .i64 0,.int .i64 0,.string (⟨#[]⟩:ByteArray)]) ?_ 1 _ rfl;(with_reducible repeat (first|refine blk_drewN ?_ _|refine blk_drew ?_|refine blk_alloc ?_ _));refine blk_put (cs:= #[.int .i64 6,.int .i64 0,.int .i64 0,.int .i64 0,.string (⟨#[]⟩:ByteArray)]) ?_ 0 _ rfl;(with_reducible repeat (first|refine blk_drewN ?_ _|refine blk_drew ?_|refine blk_alloc ?_ _));refine blk_put (cs:= #[.int .i64 0,.int .i64 0,.int .i64 0,.int .i64 0,.string (⟨#[]⟩:ByteArray)]) ?_ 0 _ rfl;(with_reducible repeat (first|refine blk_drewN ?_ _|refine blk_drew ?_|refine blk_alloc ?_ _));exact BK324.out) Tryd.underlying36 rfl (by kernel_rfl)) rfl ?_;exact ⟨by first|rfl|(simp [errW_none,errW_some]<;>rfl)|(simp [*, errW_none,errW_some]<;>rfl),by repeat (first|(with_reducible first|exact HB.out|apply below_alloc|apply pw_below_drewN|apply below_drew1|refine below_set ?_ GE324.out)|exact HB.out)⟩
     · rw [if_neg c8] at H;have c8b0:(a0.toList==([35,102]:List UInt8))=false:=beq_eq_false_iff_ne.mpr c8;have c8b1:(a0.toList != ([35,102]:List UInt8))=true:=bne_iff_ne.mpr c8;simp only [Option.some.injEq,Prod.mk.injEq] at H;obtain ⟨rfl,rfl,rfl,rfl,rfl,rfl⟩:=H;go_enter Tryd.func28,Tryd.ntmps28
       go_wp2_with (first|((with_reducible refine gate_dst (N:=2) rfl ?_);refine box_event ?hg (N:=2) ?hd (cs:= #[.int .i64 0,.int .i64 0,.int .i64 0,.int .i64 0,.string (⟨#[]⟩:ByteArray)]) (t:=36) ?hr ?_;(case hd=>rfl);(case hg=>rfl);(case hr=>first|(go_simp;done)|(go_simp;rfl));intro gb324 hg w11 hbox hb;have n0_:=Aside0.mk (below_step (by repeat (first|(with_reducible first|exact HB.out|apply below_alloc|apply pw_below_drewN|apply below_drew1)|exact HB.out)) hb);have n1_:=Aside0.mk (hbox);have n2_:=Aside0.mk ((by rw [hg];exact (below_size (by repeat (first|(with_reducible first|exact HB.out|apply below_alloc|apply pw_below_drewN|apply below_drew1)|exact HB.out))):w.heap.size≤gb324));have n3_:=Aside0.mk ((by rw [hg];exact (below_size (by repeat (first|(with_reducible first|exact HB.out|apply below_alloc|apply pw_below_drewN|apply below_drew1)|exact HB.out))):w.heap.size≤gb324));clear HB;have HB:=n0_;have BK324:=n1_;have GW324:=n2_;have GE324:=n3_;clear n0_ n1_ n2_ n3_;clear hb hbox hg;have hcz12_0:w11.cell? ⟨gb324,0,none⟩=some (.int .i64 0):=(blk_cell BK324.out 0).trans rfl;have hcz12_1:w11.cell? ⟨gb324,1,none⟩=some (.int .i64 0):=(blk_cell BK324.out 1).trans rfl;have hcz12_2:w11.cell? ⟨gb324,2,none⟩=some (.int .i64 0):=(blk_cell BK324.out 2).trans rfl;have hcz12_3:w11.cell? ⟨gb324,3,none⟩=some (.int .i64 0):=(blk_cell BK324.out 3).trans rfl;have hcz12_4:w11.cell? ⟨gb324,4,none⟩=some (.string (⟨#[]⟩:ByteArray)):=(blk_cell BK324.out 4).trans rfl;have hfz12_0:=blk_frozen BK324.out 0;have hfz12_1:=blk_frozen BK324.out 1;have hfz12_2:=blk_frozen BK324.out 2;have hfz12_3:=blk_frozen BK324.out 3;have hfz12_4:=blk_frozen BK324.out 4))
       refine bodyPost_ret (results_ct rfl _ _ gb324 36 #[.int .i64 0,.int .i64 0,.int .i64 0,.int .i64 0,.string (⟨#[]⟩:ByteArray)] (0,0) _ rfl (by (with_reducible repeat (first|refine blk_drewN ?_ _|refine blk_drew ?_|refine blk_alloc ?_ _));refine blk_put (cs:= #[.int .i64 0,.int .i64 0,.int .i64 0,.int .i64 0,.string (⟨#[]⟩:ByteArray)]) ?_ 4 _ rfl;(with_reducible repeat (first|refine blk_drewN ?_ _|refine blk_drew ?_|refine blk_alloc ?_ _));refine blk_put (cs:= #[.int .i64 0,.int .i64 0,.int .i64 0,.int .i64 0,.string (⟨#[]⟩:ByteArray)]) ?_ 3 _ rfl;(with_reducible repeat (first|refine blk_drewN ?_ _|refine blk_drew ?_|refine blk_alloc ?_ _));refine blk_put (cs:= #[.int .i64 0,.int .i64 0,.int .i64 0,.int .i64 0,.string (⟨#[]⟩:ByteArray)]) ?_ 2 _ rfl;(with_reducible repeat (first|refine blk_drewN ?_ _|refine blk_drew ?_|refine blk_alloc ?_ _));refine blk_put (cs:= #[.int .i64 0,.int .i64 0,.int .i64 0,.int .i64 0,.string (⟨#[]⟩:ByteArray)]) ?_ 1 _ rfl;(with_reducible repeat (first|refine blk_drewN ?_ _|refine blk_drew ?_|refine blk_alloc ?_ _));refine blk_put (cs:= #[.int .i64 0,.int .i64 0,.int .i64 0,.int .i64 0,.string (⟨#[]⟩:ByteArray)]) ?_ 0 _ rfl;(with_reducible repeat (first|refine blk_drewN ?_ _|refine blk_drew ?_|refine blk_alloc ?_ _));exact BK324.out) Tryd.underlying36 rfl (by kernel_rfl)) rfl ?_;exact ⟨by first|rfl|(simp [errW_none,errW_some]<;>rfl)|(simp [*, errW_none,errW_some]<;>rfl),by repeat (first|(with_reducible first|exact HB.out|apply below_alloc|apply pw_below_drewN|apply below_drew1|refine below_set ?_ GE324.out)|exact HB.out)⟩
theorem eqA27 (d:Nat) (w:World) (x0 y0:Int) (x1 y1:Int):
 (Op.equalIn (d+2) 27 (.agg #[.int .i64 x0,.int .i64 x1]) (.agg #[.int .i64 y0,.int .i64 y1])).run Tryd.prog w= .ok (x0==y0&&(x1==y1)) w:=by
 refine eqA_of Tryd.underlying27 (by kernel_rfl) ?_;refine eqf_cons (by rfl) (by go_simp;rfl) (by go_simp;rfl) (by go_simp) ?_;exact eqf_last (by rfl) (by go_simp;rfl) (by go_simp;rfl) (by go_simp)
end Go.Proofs.YtdffphkbidfejaaDoor.Q
end
section
namespace Go.Proofs.YtdffphkbidfejaaDoor.Q
open Go.RowKit Go.Proofs.YtdffphkbidfejaaDoorW.PrintWords Go.Proofs.YtdffphkbidfejaaDoorW.PrintLast Go.Proofs.YtdffphkbidfejaaDoorW.PrintMore
attribute [local go_sem] max2_int min2_int max_two min_two max_three min_three max_four min_four
set_option linter.unusedVariables false
set_option linter.unusedSimpArgs false
attribute [local go_sem high] eqA27
def mummerref03_Same.l0:Nat→List (S27)→List (S27)→Int→Option (Bool)
 |0,_,_,_=>none
 |k+1,x0,x1,x5=>if x5<(x0.length:Int) then (if 0≤x5 then (if x5<(x1.length:Int) then (if (!(((rd_T27 x0 x5).f0)==((rd_T27 x1 x5).f0))||(!(((rd_T27 x0 x5).f1)==((rd_T27 x1 x5).f1))))=true then (some false) else (mummerref03_Same.l0 k x0 x1 (wrap64 (x5+1)))) else (none)) else (none)) else (some true)
def mummerref03_Same.f (k:Nat) (l0:List (S27)) (l1:List (S27)):Option (Bool):=if (l0.length:Int)=(l1.length:Int) then (mummerref03_Same.l0 k l0 l1 0) else (some false)
theorem mummerref03_Same.mono_l: ∀k,(∀y0 y1 y2,LeO (mummerref03_Same.l0 k y0 y1 y2) (mummerref03_Same.l0 (k+1) y0 y1 y2))
 |0=>fun _ _ _ r h=>by simp [mummerref03_Same.l0] at h
 |k+1=>by
  have ih0:=mummerref03_Same.mono_l k
  · intro y0 y1 y2;unfold mummerref03_Same.l0
    repeat' first
    |(with_reducible exact ih0 _ _ _)
    |(with_reducible exact LeO.refl _)
    |(with_reducible exact LeO.none _)
    |(with_reducible refine LeO.ite ?_ ?_)
    |(with_reducible refine LeO.bind ?_ (fun _=>?_))
    |exact ih0 _ _ _
    |exact LeO.none _
    |refine LeO.ite ?_ ?_
    |refine LeO.bind ?_ (fun _=>?_)
theorem mummerref03_Same.mono: ∀a0 a1 k,LeO (mummerref03_Same.f k a0 a1) (mummerref03_Same.f (k+1) a0 a1):=by
 intro a0 a1 k;have ih0:=mummerref03_Same.mono_l k;unfold mummerref03_Same.f
 repeat' first
  |(with_reducible exact ih0 _ _ _)
  |(with_reducible exact LeO.refl _)
  |(with_reducible exact LeO.none _)
  |(with_reducible refine LeO.ite ?_ ?_)
  |(with_reducible refine LeO.bind ?_ (fun _=>?_))
  |exact ih0 _ _ _
  |exact LeO.none _
  |refine LeO.ite ?_ ?_
  |refine LeO.bind ?_ (fun _=>?_)
set_option maxHeartbeats 8000000 in
set_option maxRecDepth 100000 in
theorem mummerref03_Same.calls (k:Nat) (A0:Option Addr) (c0:Nat) (l0:List (S27)) (A1:Option Addr) (c1:Nat) (l1:List (S27)) (r:Bool) (w:World) (hr0:Kd.C k27 w A0 l0.length l0) (hc0:l0.length≤c0) (hr1:Kd.C k27 w A1 l1.length l1) (hc1:l1.length≤c1) (h:mummerref03_Same.f k l0 l1=some r):
 Calls Tryd.prog 15 #[.slice A0 l0.length c0,.slice A1 l1.length c1] w fun e w'=>e= .returned (.bool r)∧Drawn0 w w':=by
 have hu27:=Tryd.underlying27;have HR0:=Aside0.mk hr0;have HC0:=Aside0.mk hc0;clear hr0 hc0;have HR1:=Aside0.mk hr1;have HC1:=Aside0.mk hc1;clear hr1 hc1;have H:(if (l0.length:Int)=(l1.length:Int) then (mummerref03_Same.l0 k l0 l1 0) else (some false))=some r:=h;clear h
 by_cases c3:(l0.length:Int)=(l1.length:Int)
 · rw [if_pos c3] at H;have c3b0:((l0.length:Int)==(l1.length:Int))=true:=beq_iff_eq.mpr c3;have c3b1:((l0.length:Int) != (l1.length:Int))=false:=bne_eq_false_iff_eq.mpr c3
   have c3b2:(l0.length==l1.length)=true:=by first|simpa using c3|(simp at c3 ⊢; omega)
   clear c3;have H':=Aside0.mk H;clear H;go_enter Tryd.func15,Tryd.ntmps15;go_wp2
   repeat (go_quiet (fail);try go_wp2)
   go_loopg [5] k (fun kq v5 w'=> ∃(x5_1:Int),v5= .int .i64 x5_1∧Aside0 (mummerref03_Same.l0 kq l0 l1 x5_1=some r)∧Aside0 (kq≤k)∧Drawn0 w w')
   case atStart=>exact ⟨(0),(by first|rfl|(simp;done)|(simp [*];done)),H',⟨Nat.le_refl _⟩,by repeat (first|exact Drawn0.refl _|apply Drawn0.step)⟩
   case round=>
    clear H'
    try clear c1
    try clear p2
    try clear c3
    try clear c3b0
    try clear c3b1
    try clear c3b2
    obtain ⟨x5_1,rfl,HA,HK1,⟨m1,rfl⟩⟩:=hrel
    cases gk with
    |zero=>exact absurd HA.out (by simp [mummerref03_Same.l0])
    |succ k1=>
     have H:=HA.out;clear HA;simp only [mummerref03_Same.l0] at H;by_cases c4:x5_1<(l0.length:Int)
     · rw [if_pos c4] at H;have c4b0:decide (x5_1<(l0.length:Int))=true:=decide_eq_true c4;clear c4;by_cases c5:0≤x5_1
       · rw [if_pos c5] at H;have c5b0:decide (0≤x5_1)=true:=decide_eq_true c5;clear c5;by_cases c6:x5_1<(l1.length:Int)
         · rw [if_pos c6] at H;have c6b0:decide (x5_1<(l1.length:Int))=true:=decide_eq_true c6;clear c6;by_cases c7:(!(((rd_T27 l0 x5_1).f0)==((rd_T27 l1 x5_1).f0))||(!(((rd_T27 l0 x5_1).f1)==((rd_T27 l1 x5_1).f1))))=true
           · rw [if_pos c7] at H;have c7b0:(!(((rd_T27 l0 x5_1).f0)==((rd_T27 l1 x5_1).f0))||(!(((rd_T27 l0 x5_1).f1)==((rd_T27 l1 x5_1).f1))))=true:=c7;clear c7;obtain rfl:=Option.some.inj H;have p250:0≤(x5_1:Int):=of_decide_eq_true (by first|(with_reducible assumption)|assumption);have q250:x5_1<(l0.length:Int):=of_decide_eq_true (by first|(with_reducible assumption)|assumption);obtain ⟨ad250,e250,hx250_0,hx250_1⟩:=at_T27 HR0.out x5_1 p250 q250;cases e250;replace p250:=eq_true p250;replace q250:=eq_true q250;have p251:0≤(x5_1:Int):=of_decide_eq_true (by first|(with_reducible assumption)|assumption);have q251:x5_1<(l1.length:Int):=of_decide_eq_true (by first|(with_reducible assumption)|assumption);obtain ⟨ad251,e251,hx251_0,hx251_1⟩:=at_T27 HR1.out x5_1 p251 q251;cases e251;replace p251:=eq_true p251;replace q251:=eq_true q251;go_wp2
             repeat (go_quiet (fail);try go_wp2)
             go_ret;exact ⟨by first|rfl|(simp;done)|(simp [*];done),by repeat (first|exact Drawn0.refl _|apply Drawn0.step)⟩
           · rw [if_neg c7] at H
             have c7b0:(!(((rd_T27 l0 x5_1).f0)==((rd_T27 l1 x5_1).f0))||(!(((rd_T27 l0 x5_1).f1)==((rd_T27 l1 x5_1).f1))))=false:=by simpa using c7
             clear c7;have H':=Aside0.mk H;clear H;have p250:0≤(x5_1:Int):=of_decide_eq_true (by first|(with_reducible assumption)|assumption);have q250:x5_1<(l0.length:Int):=of_decide_eq_true (by first|(with_reducible assumption)|assumption);obtain ⟨ad250,e250,hx250_0,hx250_1⟩:=at_T27 HR0.out x5_1 p250 q250;cases e250;replace p250:=eq_true p250;replace q250:=eq_true q250;have p251:0≤(x5_1:Int):=of_decide_eq_true (by first|(with_reducible assumption)|assumption);have q251:x5_1<(l1.length:Int):=of_decide_eq_true (by first|(with_reducible assumption)|assumption);obtain ⟨ad251,e251,hx251_0,hx251_1⟩:=at_T27 HR1.out x5_1 p251 q251;cases e251;replace p251:=eq_true p251;replace q251:=eq_true q251;go_wp2
             repeat (go_quiet (fail);try go_wp2)
             go_roundg k1
             case measure=>have:=HK1.out;omega
             case rel=>exact ⟨(wrap64 (x5_1+1)),(by first|rfl|(simp;done)|(simp [*];done)),H',⟨by have:=HK1.out;omega⟩,by repeat (first|exact Drawn0.refl _|apply Drawn0.step)⟩
         · rw [if_neg c6] at H;exact absurd H (by simp)
       · rw [if_neg c5] at H;exact absurd H (by simp)
     · rw [if_neg c4] at H;have c4b0:decide (x5_1<(l0.length:Int))=false:=decide_eq_false c4;clear c4;obtain rfl:=Option.some.inj H;go_wp2
       repeat (go_quiet (fail);try go_wp2)
       go_ret;exact ⟨by first|rfl|(simp;done)|(simp [*];done),by repeat (first|exact Drawn0.refl _|apply Drawn0.step)⟩
 · rw [if_neg c3] at H;have c3b0:((l0.length:Int)==(l1.length:Int))=false:=beq_eq_false_iff_ne.mpr c3;have c3b1:((l0.length:Int) != (l1.length:Int))=true:=bne_iff_ne.mpr c3
   have c3b2:(l0.length==l1.length)=false:=by first|simpa using c3|(simp at c3 ⊢; omega)
   obtain rfl:=Option.some.inj H;go_enter Tryd.func15,Tryd.ntmps15;go_wp2
   repeat (go_quiet (fail);try go_wp2)
   go_ret;exact ⟨by first|rfl|(simp;done)|(simp [*];done),by repeat (first|exact Drawn0.refl _|apply Drawn0.step)⟩
end Go.Proofs.YtdffphkbidfejaaDoor.Q
end
