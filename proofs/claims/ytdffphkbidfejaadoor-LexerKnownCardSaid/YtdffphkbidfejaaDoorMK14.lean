import Derived.Lib.BytesEntry
import Derived.Test.YtdffphkbidfejaaDoorMK11
import Derived.Test.YtdffphkbidfejaaDoorMK13
import Derived.Test.YtdffphkbidfejaaDoorMK5
import Derived.Test.YtdffphkbidfejaaDoorMK8
section
namespace Go.Proofs.YtdffphkbidfejaaDoor.Q
open Go.RowKit Go.Proofs.YtdffphkbidfejaaDoorW.PrintWords Go.Proofs.YtdffphkbidfejaaDoorW.PrintLast Go.Proofs.YtdffphkbidfejaaDoorW.PrintMore
set_option linter.unusedVariables false
set_option linter.unusedSimpArgs false
theorem word_str (s:ByteArray) (w W:World) (hs:0<s.size) (hsz:s.size≤1000000) (hG:G5 w) (hW:Below w.heap.size w W):
 Calls Tryd.prog 27 #[.slice (some ⟨W.heap.size,0,none⟩) s.size (grownCap W s.size 0 5),.int .i64 0] (Lib.bytesWorld W 5 s) fun e w'=>e= .returned (.int .i64 (whileR (bytesOf s) wordP 0:Nat))∧Below (Lib.bytesWorld W 5 s).heap.size (Lib.bytesWorld W 5 s) w':=by
 have hR:=bytes_reads W 5 s (by omega);obtain ⟨b,off,e,hBC⟩:=BC.of (l:=bytesOf s) (by rw [bytesOf_length];exact Kd.C_of_reads (d:=(0:Int)) (h1:=fun _=>rfl) hR) (by rw [bytesOf_length];exact hs);cases e;exact lword_in W.heap.size 0 (grownCap W s.size 0 5) s.size (bytesOf s) 0 _ (by rw [bytesOf_length]) (Nat.zero_le _) (grownCap_ge _ _ _ _) hsz hBC (bytesOf_bytes s) (G0_keep hG.g0 (bytes_below hW hW.size _ _))
set_option maxRecDepth 100000 in
set_option maxHeartbeats 4000000 in
theorem sym_walk (s:ByteArray) (n e:Int) (K:Nat) (b1 b2 b3:Bool) (w:World) (h1:s.toList.isEmpty=false) (d1:decide ((s.size:Int)≤24)=b1) (d2:((K:Int)==(s.size:Int))=b2) (d3:(e==6)=b3)
 (hI:Calls Tryd.prog 16 #[.string s] w fun x w'=>x= .returned (.tuple #[.int .i64 n,.int .i64 e])∧Below w.heap.size w w')
 (hW: ∀W,Below w.heap.size w W→Calls Tryd.prog 27 #[.slice (some ⟨W.heap.size,0,none⟩) s.size (grownCap W s.size 0 5),.int .i64 0] (Lib.bytesWorld W 5 s) fun x w'=>x= .returned (.int .i64 K)∧Below (Lib.bytesWorld W 5 s).heap.size (Lib.bytesWorld W 5 s) w'):
 Calls Tryd.prog 17 #[.string s] w fun x w'=>x= .returned (.bool (b1&&(b2&&b3)))∧Below w.heap.size w w':=by
 have kb:=fun W=>print_bytes (P:=Tryd.prog) 9 23 5 Tryd.underlying9 Tryd.underlying23 Tryd.underlying5 s W
 have HI:=Aside0.mk hI;have HW:=Aside0.mk hW;clear hI hW
 cases b1<;>cases b2<;>cases b3
 all_goals go_enter Tryd.func17,Tryd.ntmps17
 all_goals go_wp2_with (first
  |(go_at_call 16;refine HI.out.mono ?_;rintro x w1 ⟨rfl,hb⟩)
  |(go_at_call 27;refine (HW.out _ hb).mono ?_;rintro x w2 ⟨rfl,hb2⟩;replace hb:=below_step (bytes_below hb hb.size _ _) hb2;clear hb2))
 all_goals go_ret
 all_goals exact ⟨rfl,hb⟩
set_option maxRecDepth 100000 in
set_option maxHeartbeats 4000000 in
theorem sym_empty (w:World):Calls Tryd.prog 17 #[.string ⟨#[]⟩] w fun x w'=>x= .returned (.bool false)∧Below w.heap.size w w':=by
 have HI:=Aside0.mk (int_empty w);go_enter Tryd.func17,Tryd.ntmps17
 go_wp2_with (go_at_call 16;refine HI.out.mono ?_;rintro x w1 ⟨rfl,hb⟩)
 go_ret;exact ⟨rfl,hb⟩
def symL (s:ByteArray):Bool:=decide (0<s.size)&&(decide (s.size≤24)&&(decide (whileR (bytesOf s) wordP 0=s.size)&&decide ((intF s.data.toList).2=6)))
theorem lsym_cl (s:ByteArray) (w:World) (hsz:s.size≤1000000) (hG:G5 w):
 Calls Tryd.prog 17 #[.string s] w fun x w'=>x= .returned (.bool (symL s))∧Below w.heap.size w w':=by
 by_cases h0:s.size=0
 · obtain rfl:s=⟨#[]⟩:=by
    obtain ⟨⟨l⟩⟩:=s;cases l
    · rfl
    · simp [ByteArray.size] at h0
   exact sym_empty w
 · have h1:s.toList.isEmpty=false:=by
    rw [Lib.toList_data];obtain ⟨⟨l⟩⟩:=s;cases l
    · simp [ByteArray.size] at h0
    · rfl
   have e1:symL s=(decide ((s.size:Int)≤24)&&(decide (whileR (bytesOf s) wordP 0=s.size)&&decide ((intF s.data.toList).2=6))):=by
    unfold symL;rw [decide_eq_true (show 0<s.size by omega),Bool.true_and]
    congr 1
    by_cases c:s.size≤24
    · rw [decide_eq_true c,decide_eq_true (by omega)]
    · rw [decide_eq_false c,decide_eq_false (by omega)]
   rw [e1];refine sym_walk s _ _ (whileR (bytesOf s) wordP 0) _ _ _ w h1 rfl ?_ ?_ (int_cl s w hsz hG) (fun W hW=>word_str s w W (by omega) hsz hG hW)
   · by_cases c:whileR (bytesOf s) wordP 0=s.size
     · rw [decide_eq_true c,c];exact beq_self_eq_true _
     · rw [decide_eq_false c,beq_eq_false_iff_ne];omega
   · by_cases c:(intF s.data.toList).2=6
     · rw [decide_eq_true c,c];rfl
     · rw [decide_eq_false c,beq_eq_false_iff_ne];exact c
def lexer_Symbol.f (a0:ByteArray):Option (Bool):=if a0.size≤1000000 then some (symL a0) else none
theorem lexer_Symbol.calls (a0:ByteArray) (r:Bool) (w:World) (hG:G5 w) (h:lexer_Symbol.f a0=some r):
 Calls Tryd.prog 17 #[.string a0] w fun e w'=>e= .returned (.bool r)∧Below w.heap.size w w':=by
 unfold lexer_Symbol.f at h;by_cases c:a0.size≤1000000
 · rw [if_pos c] at h;obtain rfl:=Option.some.inj h;exact lsym_cl a0 w c hG
 · rw [if_neg c] at h;cases h
end Go.Proofs.YtdffphkbidfejaaDoor.Q
end
section
namespace Go.Proofs.YtdffphkbidfejaaDoor.Q
open Go.RowKit Go.Proofs.YtdffphkbidfejaaDoorW.PrintWords Go.Proofs.YtdffphkbidfejaaDoorW.PrintLast Go.Proofs.YtdffphkbidfejaaDoorW.PrintMore
attribute [local go_sem] max2_int min2_int max_two min_two max_three min_three max_four min_four
set_option linter.unusedVariables false
set_option linter.unusedSimpArgs false
mutual
def lexer_Check.j2:Nat→Int→Int→Int→Int→Int→Int→ByteArray→Option (Int)
 |0,_,_,_,_,_,_,_=>none
 |k+1,x3,x4,x326000,x326001,x326002,x326003,x326004=>if x326004.toList=([]:List UInt8) then (if x326003<x3 then (some 7) else (if x326003>x4 then (some 7) else (some 0))) else (some 2)
def lexer_Check.j0:Nat→Int→Int→Int→Bool→Int→Int→Int→Int→ByteArray→Option (Int)
 |0,_,_,_,_,_,_,_,_,_=>none
 |k+1,x3,x4,x6,x7,x326000,x326001,x326002,x326003,x326004=>if x7=true then (lexer_Check.j2 k 1 2 x326000 x326001 x326002 x326003 x326004) else (if x6=6 then (lexer_Check.j2 k x3 1 x326000 x326001 x326002 x326003 x326004) else (if x6=5 then (lexer_Check.j2 k x326003 x326003 x326000 x326001 x326002 x326003 x326004) else (if x6=7 then (if x326003=0 then ((lexer_Symbol.f x326004).bind fun t326=>(if t326=true then (some 0) else (some 6))) else (some 2)) else (if x6=3 then (lexer_Check.j1 k x3 x4 (x6==3) x326000 x326001 x326002 x326003 x326004) else (lexer_Check.j1 k x3 x4 (x6==4) x326000 x326001 x326002 x326003 x326004)))))
def lexer_Check.j1:Nat→Int→Int→Bool→Int→Int→Int→Int→ByteArray→Option (Int)
 |0,_,_,_,_,_,_,_,_=>none
 |k+1,x3,x4,x27,x326000,x326001,x326002,x326003,x326004=>if x27=true then (if x326003=0 then (lexer_Check.j2 k x3 x4 x326000 x326001 x326002 x326003 x326004) else (some 2)) else (some 2)
end
def lexer_Check.f (k:Nat) (a0_0:Int) (a0_1:Int) (a0_2:Int) (a0_3:Int) (a0_4:ByteArray):Option (Int):=if a0_0=1 then (lexer_Check.j0 k 0 0 a0_0 (a0_0==1) a0_0 a0_1 a0_2 a0_3 a0_4) else (lexer_Check.j0 k 0 0 a0_0 (a0_0==2) a0_0 a0_1 a0_2 a0_3 a0_4)
set_option maxHeartbeats 8000000 in
set_option maxRecDepth 100000 in
theorem lexer_Check.calls (k:Nat) (a0_0:Int) (a0_1:Int) (a0_2:Int) (a0_3:Int) (a0_4:ByteArray) (r:Int) (w:World) (hG:G5 w) (h:lexer_Check.f k a0_0 a0_1 a0_2 a0_3 a0_4=some r):
 Calls Tryd.prog 18 #[.agg #[.int .i64 a0_0,.int .i64 a0_1,.int .i64 a0_2,.int .i64 a0_3,.string a0_4]] w fun e w'=>e= .returned (.int .i64 r)∧Below w.heap.size w w':=by
 have hu36:=Tryd.underlying36;have HGl:=Aside0.mk hG;clear hG;have HB:=Aside0.mk (Below.refl w.heap.size w);have H:(if a0_0=1 then (lexer_Check.j0 k 0 0 a0_0 (a0_0==1) a0_0 a0_1 a0_2 a0_3 a0_4) else (lexer_Check.j0 k 0 0 a0_0 (a0_0==2) a0_0 a0_1 a0_2 a0_3 a0_4))=some r:=h;clear h;have HC2:=Aside0.mk H;clear H;go_enter Tryd.func18,Tryd.ntmps18
 go_upto_block 0 with (first|((with_reducible refine gate_dst (N:=1) rfl ?_);refine box_event ?hg (N:=1) ?hd (cs:= #[.int .i64 a0_0,.int .i64 a0_1,.int .i64 a0_2,.int .i64 a0_3,.string a0_4]) (t:=36) ?hr ?_;(case hd=>rfl);(case hg=>rfl);(case hr=>first|(go_simp;done)|(go_simp;rfl));intro gb325 hg w3 hbox hb;have n0_:=Aside0.mk (below_step (by repeat (first|(with_reducible first|exact HB.out|apply below_alloc|apply pw_below_drewN|apply below_drew1)|exact HB.out)) hb);have n1_:=Aside0.mk (hbox);have n2_:=Aside0.mk ((by rw [hg];exact (below_size (by repeat (first|(with_reducible first|exact HB.out|apply below_alloc|apply pw_below_drewN|apply below_drew1)|exact HB.out))):w.heap.size≤gb325));have n3_:=Aside0.mk ((by rw [hg];exact (below_size (by repeat (first|(with_reducible first|exact HB.out|apply below_alloc|apply pw_below_drewN|apply below_drew1)|exact HB.out))):w.heap.size≤gb325));clear HB;have HB:=n0_;have BK325:=n1_;have GW325:=n2_;have GE325:=n3_;clear n0_ n1_ n2_ n3_;clear hb hbox hg;have hcz4_0:w3.cell? ⟨gb325,0,none⟩=some (.int .i64 a0_0):=(blk_cell BK325.out 0).trans rfl;have hcz4_1:w3.cell? ⟨gb325,1,none⟩=some (.int .i64 a0_1):=(blk_cell BK325.out 1).trans rfl;have hcz4_2:w3.cell? ⟨gb325,2,none⟩=some (.int .i64 a0_2):=(blk_cell BK325.out 2).trans rfl;have hcz4_3:w3.cell? ⟨gb325,3,none⟩=some (.int .i64 a0_3):=(blk_cell BK325.out 3).trans rfl;have hcz4_4:w3.cell? ⟨gb325,4,none⟩=some (.string a0_4):=(blk_cell BK325.out 4).trans rfl;have hfz4_0:=blk_frozen BK325.out 0;have hfz4_1:=blk_frozen BK325.out 1;have hfz4_2:=blk_frozen BK325.out 2;have hfz4_3:=blk_frozen BK325.out 3;have hfz4_4:=blk_frozen BK325.out 4))
 repeat (go_quiet (first|((with_reducible refine gate_dst (N:=1) rfl ?_);refine box_event ?hg (N:=1) ?hd (cs:= #[.int .i64 a0_0,.int .i64 a0_1,.int .i64 a0_2,.int .i64 a0_3,.string a0_4]) (t:=36) ?hr ?_;(case hd=>rfl);(case hg=>rfl);(case hr=>first|(go_simp;done)|(go_simp;rfl));intro gb325 hg w3 hbox hb;have n0_:=Aside0.mk (below_step (by repeat (first|(with_reducible first|exact HB.out|apply below_alloc|apply pw_below_drewN|apply below_drew1)|exact HB.out)) hb);have n1_:=Aside0.mk (hbox);have n2_:=Aside0.mk ((by rw [hg];exact (below_size (by repeat (first|(with_reducible first|exact HB.out|apply below_alloc|apply pw_below_drewN|apply below_drew1)|exact HB.out))):w.heap.size≤gb325));have n3_:=Aside0.mk ((by rw [hg];exact (below_size (by repeat (first|(with_reducible first|exact HB.out|apply below_alloc|apply pw_below_drewN|apply below_drew1)|exact HB.out))):w.heap.size≤gb325));clear HB;have HB:=n0_;have BK325:=n1_;have GW325:=n2_;have GE325:=n3_;clear n0_ n1_ n2_ n3_;clear hb hbox hg;have hcz4_0:w3.cell? ⟨gb325,0,none⟩=some (.int .i64 a0_0):=(blk_cell BK325.out 0).trans rfl;have hcz4_1:w3.cell? ⟨gb325,1,none⟩=some (.int .i64 a0_1):=(blk_cell BK325.out 1).trans rfl;have hcz4_2:w3.cell? ⟨gb325,2,none⟩=some (.int .i64 a0_2):=(blk_cell BK325.out 2).trans rfl;have hcz4_3:w3.cell? ⟨gb325,3,none⟩=some (.int .i64 a0_3):=(blk_cell BK325.out 3).trans rfl;have hcz4_4:w3.cell? ⟨gb325,4,none⟩=some (.string a0_4):=(blk_cell BK325.out 4).trans rfl;have hfz4_0:=blk_frozen BK325.out 0;have hfz4_1:=blk_frozen BK325.out 1;have hfz4_2:=blk_frozen BK325.out 2;have hfz4_3:=blk_frozen BK325.out 3;have hfz4_4:=blk_frozen BK325.out 4));go_upto_block 0 with (first|((with_reducible refine gate_dst (N:=1) rfl ?_);refine box_event ?hg (N:=1) ?hd (cs:= #[.int .i64 a0_0,.int .i64 a0_1,.int .i64 a0_2,.int .i64 a0_3,.string a0_4]) (t:=36) ?hr ?_;(case hd=>rfl);(case hg=>rfl);(case hr=>first|(go_simp;done)|(go_simp;rfl));intro gb325 hg w3 hbox hb;have n0_:=Aside0.mk (below_step (by repeat (first|(with_reducible first|exact HB.out|apply below_alloc|apply pw_below_drewN|apply below_drew1)|exact HB.out)) hb);have n1_:=Aside0.mk (hbox);have n2_:=Aside0.mk ((by rw [hg];exact (below_size (by repeat (first|(with_reducible first|exact HB.out|apply below_alloc|apply pw_below_drewN|apply below_drew1)|exact HB.out))):w.heap.size≤gb325));have n3_:=Aside0.mk ((by rw [hg];exact (below_size (by repeat (first|(with_reducible first|exact HB.out|apply below_alloc|apply pw_below_drewN|apply below_drew1)|exact HB.out))):w.heap.size≤gb325));clear HB;have HB:=n0_;have BK325:=n1_;have GW325:=n2_;have GE325:=n3_;clear n0_ n1_ n2_ n3_;clear hb hbox hg;have hcz4_0:w3.cell? ⟨gb325,0,none⟩=some (.int .i64 a0_0):=(blk_cell BK325.out 0).trans rfl;have hcz4_1:w3.cell? ⟨gb325,1,none⟩=some (.int .i64 a0_1):=(blk_cell BK325.out 1).trans rfl;have hcz4_2:w3.cell? ⟨gb325,2,none⟩=some (.int .i64 a0_2):=(blk_cell BK325.out 2).trans rfl;have hcz4_3:w3.cell? ⟨gb325,3,none⟩=some (.int .i64 a0_3):=(blk_cell BK325.out 3).trans rfl;have hcz4_4:w3.cell? ⟨gb325,4,none⟩=some (.string a0_4):=(blk_cell BK325.out 4).trans rfl;have hfz4_0:=blk_frozen BK325.out 0;have hfz4_1:=blk_frozen BK325.out 1;have hfz4_2:=blk_frozen BK325.out 2;have hfz4_3:=blk_frozen BK325.out 3;have hfz4_4:=blk_frozen BK325.out 4)))
 (try simp only [Act.put,List.setIfInBounds_toArray,List.set_cons_zero,List.set_cons_succ])
 go_cut [3,4] (fun v3 v4 wc=> ∃(kq:Nat) (x3_1:Int) (x4_1:Int),v3= .int .i64 x3_1∧v4= .int .i64 x4_1∧Aside0 (lexer_Check.j2 kq x3_1 x4_1 a0_0 a0_1 a0_2 a0_3 a0_4=some r)∧Aside0 (kq≤k)∧Aside0 (wc.heap[gb325]? =some (.cells #[.int .i64 a0_0,.int .i64 a0_1,.int .i64 a0_2,.int .i64 a0_3,.string a0_4] 36 (0,0)))∧Aside0 (Below w.heap.size w wc))
 case first=>
  have H:=HC2.out;clear HC2;have HC5:=Aside0.mk H;clear H
  go_upto_if 7 with (fail)
  repeat (go_quiet (fail);go_upto_if 7 with (fail))
  go_cut [7] (fun v7 wc=> ∃(kq:Nat) (x7_4:Bool),v7= .bool x7_4∧Aside0 (lexer_Check.j0 kq 0 0 a0_0 x7_4 a0_0 a0_1 a0_2 a0_3 a0_4=some r)∧Aside0 (kq≤k)∧Aside0 (wc.heap[gb325]? =some (.cells #[.int .i64 a0_0,.int .i64 a0_1,.int .i64 a0_2,.int .i64 a0_3,.string a0_4] 36 (0,0)))∧Aside0 (Below w.heap.size w wc))
  case first=>
   have H:=HC5.out;clear HC5;by_cases c6:a0_0=1
   · rw [if_pos c6] at H;have c6b0:(a0_0==1)=true:=beq_iff_eq.mpr c6;have c6b1:(a0_0 != 1)=false:=bne_eq_false_iff_eq.mpr c6;clear c6
     (first|rw [c6b0]|(simp only [i64_w,i32_w];rw [c6b0])|skip)
     have H':=Aside0.mk H;clear H;go_wp2
     repeat (go_quiet (fail);try go_wp2)
     go_meet
     case rel=>exact ⟨_,((a0_0==1)),(by first|rfl|(simp;done)|(simp [*];done)),H',⟨by first|omega|exact Nat.le_refl _⟩,⟨by (with_reducible repeat (first|refine blk_drewN ?_ _|refine blk_drew ?_|refine blk_alloc ?_ _));exact BK325.out⟩,⟨by repeat (first|(with_reducible first|exact HB.out|apply below_alloc|apply pw_below_drewN|apply below_drew1|refine below_set ?_ GE325.out)|exact HB.out)⟩⟩
   · rw [if_neg c6] at H;have c6b0:(a0_0==1)=false:=beq_eq_false_iff_ne.mpr c6;have c6b1:(a0_0 != 1)=true:=bne_iff_ne.mpr c6
     (first|rw [c6b0]|(simp only [i64_w,i32_w];rw [c6b0])|skip)
     have H':=Aside0.mk H;clear H;go_wp2
     repeat (go_quiet (fail);try go_wp2)
     go_meet
     case rel=>exact ⟨_,((a0_0==2)),(by first|rfl|(simp;done)|(simp [*];done)),H',⟨by first|omega|exact Nat.le_refl _⟩,⟨by (with_reducible repeat (first|refine blk_drewN ?_ _|refine blk_drew ?_|refine blk_alloc ?_ _));exact BK325.out⟩,⟨by repeat (first|(with_reducible first|exact HB.out|apply below_alloc|apply pw_below_drewN|apply below_drew1|refine below_set ?_ GE325.out)|exact HB.out)⟩⟩
  case rest=>
   clear HC5
   try clear c1
   try clear p2
   try clear c6
   try clear c6b0
   try clear c6b1
   try clear hcz4_0
   try clear hcz4_1
   try clear hcz4_2
   try clear hcz4_3
   try clear hcz4_4
   try clear hfz4_0
   try clear hfz4_1
   try clear hfz4_2
   try clear hfz4_3
   try clear hfz4_4
   obtain ⟨kq,x7_4,rfl,HA,HJ4,BK325,HB⟩:=hcut
   cases kq with
   |zero=>exact absurd HA.out (by simp [lexer_Check.j0])
   |succ kj4=>
    have H:=HA.out;clear HA;simp only [lexer_Check.j0] at H;by_cases c7:x7_4=true
    · subst c7
      have H1:(lexer_Check.j2 kj4 1 2 a0_0 a0_1 a0_2 a0_3 a0_4)=some r:=by rw [if_pos rfl] at H;exact H
      clear H;have H:=H1;clear H1;have H':=Aside0.mk H;clear H;go_wp2
      repeat (go_quiet (fail);try go_wp2)
      go_meet
      case rel=>exact ⟨_,(1),(2),(by first|rfl|(simp;done)|(simp [*];done)),(by first|rfl|(simp;done)|(simp [*];done)),H',⟨by have:=HJ4.out;first|omega|exact Nat.le_refl _⟩,⟨by (with_reducible repeat (first|refine blk_drewN ?_ _|refine blk_drew ?_|refine blk_alloc ?_ _));exact BK325.out⟩,⟨by repeat (first|(with_reducible first|exact HB.out|apply below_alloc|apply pw_below_drewN|apply below_drew1|refine below_set ?_ GE325.out)|exact HB.out)⟩⟩
    · replace c7:=Bool.eq_false_iff.mpr c7;subst c7
      have H1:(if a0_0=6 then (lexer_Check.j2 kj4 0 1 a0_0 a0_1 a0_2 a0_3 a0_4) else (if a0_0=5 then (lexer_Check.j2 kj4 a0_3 a0_3 a0_0 a0_1 a0_2 a0_3 a0_4) else (if a0_0=7 then (if a0_3=0 then ((lexer_Symbol.f a0_4).bind fun t326=>(if t326=true then (some 0) else (some 6))) else (some 2)) else (if a0_0=3 then (lexer_Check.j1 kj4 0 0 (a0_0==3) a0_0 a0_1 a0_2 a0_3 a0_4) else (lexer_Check.j1 kj4 0 0 (a0_0==4) a0_0 a0_1 a0_2 a0_3 a0_4)))))=some r:=by rw [if_neg (show ¬(false=true) by decide)] at H;exact H
      clear H;have H:=H1;clear H1;by_cases c8:a0_0=6
      · rw [if_pos c8] at H;have c8b0:(a0_0==6)=true:=beq_iff_eq.mpr c8;have c8b1:(a0_0 != 6)=false:=bne_eq_false_iff_eq.mpr c8;clear c8;have H':=Aside0.mk H;clear H;go_wp2
        repeat (go_quiet (fail);try go_wp2)
        go_meet
        case rel=>exact ⟨_,(0),(1),(by first|rfl|(simp;done)|(simp [*];done)),(by first|rfl|(simp;done)|(simp [*];done)),H',⟨by have:=HJ4.out;first|omega|exact Nat.le_refl _⟩,⟨by (with_reducible repeat (first|refine blk_drewN ?_ _|refine blk_drew ?_|refine blk_alloc ?_ _));exact BK325.out⟩,⟨by repeat (first|(with_reducible first|exact HB.out|apply below_alloc|apply pw_below_drewN|apply below_drew1|refine below_set ?_ GE325.out)|exact HB.out)⟩⟩
      · rw [if_neg c8] at H;have c8b0:(a0_0==6)=false:=beq_eq_false_iff_ne.mpr c8;have c8b1:(a0_0 != 6)=true:=bne_iff_ne.mpr c8;by_cases c9:a0_0=5
        · rw [if_pos c9] at H;have c9b0:(a0_0==5)=true:=beq_iff_eq.mpr c9;have c9b1:(a0_0 != 5)=false:=bne_eq_false_iff_eq.mpr c9;clear c9;have H':=Aside0.mk H;clear H;have hcz10_0:wc.cell? ⟨gb325,0,none⟩=some (.int .i64 a0_0):=(blk_cell BK325.out 0).trans rfl;have hcz10_1:wc.cell? ⟨gb325,1,none⟩=some (.int .i64 a0_1):=(blk_cell BK325.out 1).trans rfl;have hcz10_2:wc.cell? ⟨gb325,2,none⟩=some (.int .i64 a0_2):=(blk_cell BK325.out 2).trans rfl;have hcz10_3:wc.cell? ⟨gb325,3,none⟩=some (.int .i64 a0_3):=(blk_cell BK325.out 3).trans rfl;have hcz10_4:wc.cell? ⟨gb325,4,none⟩=some (.string a0_4):=(blk_cell BK325.out 4).trans rfl;have hfz10_0:=blk_frozen BK325.out 0;have hfz10_1:=blk_frozen BK325.out 1;have hfz10_2:=blk_frozen BK325.out 2;have hfz10_3:=blk_frozen BK325.out 3;have hfz10_4:=blk_frozen BK325.out 4;go_wp2
          repeat (go_quiet (fail);try go_wp2)
          go_meet
          case rel=>exact ⟨_,(a0_3),(a0_3),(by first|rfl|(simp;done)|(simp [*];done)),(by first|rfl|(simp;done)|(simp [*];done)),H',⟨by have:=HJ4.out;first|omega|exact Nat.le_refl _⟩,⟨by (with_reducible repeat (first|refine blk_drewN ?_ _|refine blk_drew ?_|refine blk_alloc ?_ _));exact BK325.out⟩,⟨by repeat (first|(with_reducible first|exact HB.out|apply below_alloc|apply pw_below_drewN|apply below_drew1|refine below_set ?_ GE325.out)|exact HB.out)⟩⟩
        · rw [if_neg c9] at H;have c9b0:(a0_0==5)=false:=beq_eq_false_iff_ne.mpr c9;have c9b1:(a0_0 != 5)=true:=bne_iff_ne.mpr c9;by_cases c11:a0_0=7
          · rw [if_pos c11] at H;have c11b0:(a0_0==7)=true:=beq_iff_eq.mpr c11;have c11b1:(a0_0 != 7)=false:=bne_eq_false_iff_eq.mpr c11;clear c11;by_cases c12:a0_3=0
            · rw [if_pos c12] at H;have c12b0:(a0_3==0)=true:=beq_iff_eq.mpr c12;have c12b1:(a0_3 != 0)=false:=bne_eq_false_iff_eq.mpr c12;clear c12;replace H:=Option.bind_eq_some_iff.mp H;obtain ⟨t326,A130,H⟩:=H;replace H:(if t326=true then (some 0) else (some 6))=some r:=H;have A13:=Aside0.mk A130;clear A130;by_cases c14:t326=true
              · subst c14
                have H1:(some 0)=some r:=by rw [if_pos rfl] at H;exact H
                clear H;have H:=H1;clear H1;obtain rfl:=Option.some.inj H;have hcz15_0:wc.cell? ⟨gb325,0,none⟩=some (.int .i64 a0_0):=(blk_cell BK325.out 0).trans rfl;have hcz15_1:wc.cell? ⟨gb325,1,none⟩=some (.int .i64 a0_1):=(blk_cell BK325.out 1).trans rfl;have hcz15_2:wc.cell? ⟨gb325,2,none⟩=some (.int .i64 a0_2):=(blk_cell BK325.out 2).trans rfl;have hcz15_3:wc.cell? ⟨gb325,3,none⟩=some (.int .i64 a0_3):=(blk_cell BK325.out 3).trans rfl;have hcz15_4:wc.cell? ⟨gb325,4,none⟩=some (.string a0_4):=(blk_cell BK325.out 4).trans rfl;have hfz15_0:=blk_frozen BK325.out 0;have hfz15_1:=blk_frozen BK325.out 1;have hfz15_2:=blk_frozen BK325.out 2;have hfz15_3:=blk_frozen BK325.out 3;have hfz15_4:=blk_frozen BK325.out 4
                go_wp2_with (first|(go_at_call 17;(with_reducible refine (lexer_Symbol.calls a0_4 true _ ?side1 A13.out).mono ?_);(case side1=>exact G5_keep HGl.out (by repeat (first|(with_reducible first|exact HB.out|apply below_alloc|apply pw_below_drewN|apply below_drew1|refine below_set ?_ GE325.out)|exact HB.out)));rintro e w16 ⟨rfl,hb⟩;have n0_:=Aside0.mk (blk_below (g:=gb325) (o:= .cells #[.int .i64 a0_0,.int .i64 a0_1,.int .i64 a0_2,.int .i64 a0_3,.string a0_4] 36 (0,0)) (by (with_reducible repeat (first|refine blk_drewN ?_ _|refine blk_drew ?_|refine blk_alloc ?_ _));exact BK325.out) hb);have n1_:=Aside0.mk (below_step (by repeat (first|(with_reducible first|exact HB.out|apply below_alloc|apply pw_below_drewN|apply below_drew1|refine below_set ?_ GE325.out)|exact HB.out)) hb);clear BK325;clear HB;have BK325:=n0_;have HB:=n1_;clear n0_ n1_;(try clear hb);(try clear hb2);(try clear hk);(try clear hi)))
                repeat (go_quiet (first|(go_at_call 17;(with_reducible refine (lexer_Symbol.calls a0_4 true _ ?side1 A13.out).mono ?_);(case side1=>exact G5_keep HGl.out (by repeat (first|(with_reducible first|exact HB.out|apply below_alloc|apply pw_below_drewN|apply below_drew1|refine below_set ?_ GE325.out)|exact HB.out)));rintro e w16 ⟨rfl,hb⟩;have n0_:=Aside0.mk (blk_below (g:=gb325) (o:= .cells #[.int .i64 a0_0,.int .i64 a0_1,.int .i64 a0_2,.int .i64 a0_3,.string a0_4] 36 (0,0)) (by (with_reducible repeat (first|refine blk_drewN ?_ _|refine blk_drew ?_|refine blk_alloc ?_ _));exact BK325.out) hb);have n1_:=Aside0.mk (below_step (by repeat (first|(with_reducible first|exact HB.out|apply below_alloc|apply pw_below_drewN|apply below_drew1|refine below_set ?_ GE325.out)|exact HB.out)) hb);clear BK325;clear HB;have BK325:=n0_;have HB:=n1_;clear n0_ n1_;(try clear hb);(try clear hb2);(try clear hk);(try clear hi)));try go_wp2_with (first|(go_at_call 17;(with_reducible refine (lexer_Symbol.calls a0_4 true _ ?side1 A13.out).mono ?_);(case side1=>exact G5_keep HGl.out (by repeat (first|(with_reducible first|exact HB.out|apply below_alloc|apply pw_below_drewN|apply below_drew1|refine below_set ?_ GE325.out)|exact HB.out)));rintro e w16 ⟨rfl,hb⟩;have n0_:=Aside0.mk (blk_below (g:=gb325) (o:= .cells #[.int .i64 a0_0,.int .i64 a0_1,.int .i64 a0_2,.int .i64 a0_3,.string a0_4] 36 (0,0)) (by (with_reducible repeat (first|refine blk_drewN ?_ _|refine blk_drew ?_|refine blk_alloc ?_ _));exact BK325.out) hb);have n1_:=Aside0.mk (below_step (by repeat (first|(with_reducible first|exact HB.out|apply below_alloc|apply pw_below_drewN|apply below_drew1|refine below_set ?_ GE325.out)|exact HB.out)) hb);clear BK325;clear HB;have BK325:=n0_;have HB:=n1_;clear n0_ n1_;(try clear hb);(try clear hb2);(try clear hk);(try clear hi))))
                go_ret;exact ⟨by first|rfl|(simp [errW_none,errW_some]<;>rfl)|(simp [*, errW_none,errW_some]<;>rfl),by repeat (first|(with_reducible first|exact HB.out|apply below_alloc|apply pw_below_drewN|apply below_drew1|refine below_set ?_ GE325.out)|exact HB.out)⟩
              · replace c14:=Bool.eq_false_iff.mpr c14;subst c14
                have H1:(some 6)=some r:=by rw [if_neg (show ¬(false=true) by decide)] at H;exact H
                clear H;have H:=H1;clear H1;obtain rfl:=Option.some.inj H;have hcz17_0:wc.cell? ⟨gb325,0,none⟩=some (.int .i64 a0_0):=(blk_cell BK325.out 0).trans rfl;have hcz17_1:wc.cell? ⟨gb325,1,none⟩=some (.int .i64 a0_1):=(blk_cell BK325.out 1).trans rfl;have hcz17_2:wc.cell? ⟨gb325,2,none⟩=some (.int .i64 a0_2):=(blk_cell BK325.out 2).trans rfl;have hcz17_3:wc.cell? ⟨gb325,3,none⟩=some (.int .i64 a0_3):=(blk_cell BK325.out 3).trans rfl;have hcz17_4:wc.cell? ⟨gb325,4,none⟩=some (.string a0_4):=(blk_cell BK325.out 4).trans rfl;have hfz17_0:=blk_frozen BK325.out 0;have hfz17_1:=blk_frozen BK325.out 1;have hfz17_2:=blk_frozen BK325.out 2;have hfz17_3:=blk_frozen BK325.out 3;have hfz17_4:=blk_frozen BK325.out 4
                go_wp2_with (first|(go_at_call 17;(with_reducible refine (lexer_Symbol.calls a0_4 false _ ?side1 A13.out).mono ?_);(case side1=>exact G5_keep HGl.out (by repeat (first|(with_reducible first|exact HB.out|apply below_alloc|apply pw_below_drewN|apply below_drew1|refine below_set ?_ GE325.out)|exact HB.out)));rintro e w18 ⟨rfl,hb⟩;have n0_:=Aside0.mk (blk_below (g:=gb325) (o:= .cells #[.int .i64 a0_0,.int .i64 a0_1,.int .i64 a0_2,.int .i64 a0_3,.string a0_4] 36 (0,0)) (by (with_reducible repeat (first|refine blk_drewN ?_ _|refine blk_drew ?_|refine blk_alloc ?_ _));exact BK325.out) hb);have n1_:=Aside0.mk (below_step (by repeat (first|(with_reducible first|exact HB.out|apply below_alloc|apply pw_below_drewN|apply below_drew1|refine below_set ?_ GE325.out)|exact HB.out)) hb);clear BK325;clear HB;have BK325:=n0_;have HB:=n1_;clear n0_ n1_;(try clear hb);(try clear hb2);(try clear hk);(try clear hi)))
                repeat (go_quiet (first|(go_at_call 17;(with_reducible refine (lexer_Symbol.calls a0_4 false _ ?side1 A13.out).mono ?_);(case side1=>exact G5_keep HGl.out (by repeat (first|(with_reducible first|exact HB.out|apply below_alloc|apply pw_below_drewN|apply below_drew1|refine below_set ?_ GE325.out)|exact HB.out)));rintro e w18 ⟨rfl,hb⟩;have n0_:=Aside0.mk (blk_below (g:=gb325) (o:= .cells #[.int .i64 a0_0,.int .i64 a0_1,.int .i64 a0_2,.int .i64 a0_3,.string a0_4] 36 (0,0)) (by (with_reducible repeat (first|refine blk_drewN ?_ _|refine blk_drew ?_|refine blk_alloc ?_ _));exact BK325.out) hb);have n1_:=Aside0.mk (below_step (by repeat (first|(with_reducible first|exact HB.out|apply below_alloc|apply pw_below_drewN|apply below_drew1|refine below_set ?_ GE325.out)|exact HB.out)) hb);clear BK325;clear HB;have BK325:=n0_;have HB:=n1_;clear n0_ n1_;(try clear hb);(try clear hb2);(try clear hk);(try clear hi)));try go_wp2_with (first|(go_at_call 17;(with_reducible refine (lexer_Symbol.calls a0_4 false _ ?side1 A13.out).mono ?_);(case side1=>exact G5_keep HGl.out (by repeat (first|(with_reducible first|exact HB.out|apply below_alloc|apply pw_below_drewN|apply below_drew1|refine below_set ?_ GE325.out)|exact HB.out)));rintro e w18 ⟨rfl,hb⟩;have n0_:=Aside0.mk (blk_below (g:=gb325) (o:= .cells #[.int .i64 a0_0,.int .i64 a0_1,.int .i64 a0_2,.int .i64 a0_3,.string a0_4] 36 (0,0)) (by (with_reducible repeat (first|refine blk_drewN ?_ _|refine blk_drew ?_|refine blk_alloc ?_ _));exact BK325.out) hb);have n1_:=Aside0.mk (below_step (by repeat (first|(with_reducible first|exact HB.out|apply below_alloc|apply pw_below_drewN|apply below_drew1|refine below_set ?_ GE325.out)|exact HB.out)) hb);clear BK325;clear HB;have BK325:=n0_;have HB:=n1_;clear n0_ n1_;(try clear hb);(try clear hb2);(try clear hk);(try clear hi))))
                go_ret;exact ⟨by first|rfl|(simp [errW_none,errW_some]<;>rfl)|(simp [*, errW_none,errW_some]<;>rfl),by repeat (first|(with_reducible first|exact HB.out|apply below_alloc|apply pw_below_drewN|apply below_drew1|refine below_set ?_ GE325.out)|exact HB.out)⟩
            · rw [if_neg c12] at H;have c12b0:(a0_3==0)=false:=beq_eq_false_iff_ne.mpr c12;have c12b1:(a0_3 != 0)=true:=bne_iff_ne.mpr c12;obtain rfl:=Option.some.inj H;have hcz19_0:wc.cell? ⟨gb325,0,none⟩=some (.int .i64 a0_0):=(blk_cell BK325.out 0).trans rfl;have hcz19_1:wc.cell? ⟨gb325,1,none⟩=some (.int .i64 a0_1):=(blk_cell BK325.out 1).trans rfl;have hcz19_2:wc.cell? ⟨gb325,2,none⟩=some (.int .i64 a0_2):=(blk_cell BK325.out 2).trans rfl;have hcz19_3:wc.cell? ⟨gb325,3,none⟩=some (.int .i64 a0_3):=(blk_cell BK325.out 3).trans rfl;have hcz19_4:wc.cell? ⟨gb325,4,none⟩=some (.string a0_4):=(blk_cell BK325.out 4).trans rfl;have hfz19_0:=blk_frozen BK325.out 0;have hfz19_1:=blk_frozen BK325.out 1;have hfz19_2:=blk_frozen BK325.out 2;have hfz19_3:=blk_frozen BK325.out 3;have hfz19_4:=blk_frozen BK325.out 4;go_wp2
              repeat (go_quiet (fail);try go_wp2)
              go_ret;exact ⟨by first|rfl|(simp [errW_none,errW_some]<;>rfl)|(simp [*, errW_none,errW_some]<;>rfl),by repeat (first|(with_reducible first|exact HB.out|apply below_alloc|apply pw_below_drewN|apply below_drew1|refine below_set ?_ GE325.out)|exact HB.out)⟩
          · rw [if_neg c11] at H;have c11b0:(a0_0==7)=false:=beq_eq_false_iff_ne.mpr c11;have c11b1:(a0_0 != 7)=true:=bne_iff_ne.mpr c11;have HC20:=Aside0.mk H;clear H
            go_upto_if 27 with (fail)
            repeat (go_quiet (fail);go_upto_if 27 with (fail))
            go_cut [27] (fun v27 wc=> ∃(kq:Nat) (x27_19:Bool),v27= .bool x27_19∧Aside0 (lexer_Check.j1 kq 0 0 x27_19 a0_0 a0_1 a0_2 a0_3 a0_4=some r)∧Aside0 (kq≤kj4)∧Aside0 (wc.heap[gb325]? =some (.cells #[.int .i64 a0_0,.int .i64 a0_1,.int .i64 a0_2,.int .i64 a0_3,.string a0_4] 36 (0,0)))∧Aside0 (Below w.heap.size w wc))
            case first=>
              have H:=HC20.out;clear HC20;by_cases c21:a0_0=3
              · rw [if_pos c21] at H;have c21b0:(a0_0==3)=true:=beq_iff_eq.mpr c21;have c21b1:(a0_0 != 3)=false:=bne_eq_false_iff_eq.mpr c21;clear c21
                (first|rw [c21b0]|(simp only [i64_w,i32_w];rw [c21b0])|skip)
                have H':=Aside0.mk H;clear H;go_wp2
                repeat (go_quiet (fail);try go_wp2)
                go_meet
                case rel=>exact ⟨_,((a0_0==3)),(by first|rfl|(simp;done)|(simp [*];done)),H',⟨by have:=HJ4.out;first|omega|exact Nat.le_refl _⟩,⟨by (with_reducible repeat (first|refine blk_drewN ?_ _|refine blk_drew ?_|refine blk_alloc ?_ _));exact BK325.out⟩,⟨by repeat (first|(with_reducible first|exact HB.out|apply below_alloc|apply pw_below_drewN|apply below_drew1|refine below_set ?_ GE325.out)|exact HB.out)⟩⟩
              · rw [if_neg c21] at H;have c21b0:(a0_0==3)=false:=beq_eq_false_iff_ne.mpr c21;have c21b1:(a0_0 != 3)=true:=bne_iff_ne.mpr c21
                (first|rw [c21b0]|(simp only [i64_w,i32_w];rw [c21b0])|skip)
                have H':=Aside0.mk H;clear H;go_wp2
                repeat (go_quiet (fail);try go_wp2)
                go_meet
                case rel=>exact ⟨_,((a0_0==4)),(by first|rfl|(simp;done)|(simp [*];done)),H',⟨by have:=HJ4.out;first|omega|exact Nat.le_refl _⟩,⟨by (with_reducible repeat (first|refine blk_drewN ?_ _|refine blk_drew ?_|refine blk_alloc ?_ _));exact BK325.out⟩,⟨by repeat (first|(with_reducible first|exact HB.out|apply below_alloc|apply pw_below_drewN|apply below_drew1|refine below_set ?_ GE325.out)|exact HB.out)⟩⟩
            case rest=>
              clear HC20
              try clear c1
              try clear c2
              try clear p2
              try clear c6
              try clear c6b0
              try clear c6b1
              try clear c7
              try clear c8
              try clear c8b0
              try clear c8b1
              try clear c9
              try clear c9b0
              try clear c9b1
              try clear c11
              try clear c11b0
              try clear c11b1
              try clear c12
              try clear c12b0
              try clear c12b1
              try clear c14
              try clear c18
              try clear c21
              try clear c21b0
              try clear c21b1
              try clear hcz10_0
              try clear hcz10_1
              try clear hcz10_2
              try clear hcz10_3
              try clear hcz10_4
              try clear hcz15_0
              try clear hcz15_1
              try clear hcz15_2
              try clear hcz15_3
              try clear hcz15_4
              try clear hcz17_0
              try clear hcz17_1
              try clear hcz17_2
              try clear hcz17_3
              try clear hcz17_4
              try clear hcz19_0
              try clear hcz19_1
              try clear hcz19_2
              try clear hcz19_3
              try clear hcz19_4
              try clear hcz4_0
              try clear hcz4_1
              try clear hcz4_2
              try clear hcz4_3
              try clear hcz4_4
              try clear hfz10_0
              try clear hfz10_1
              try clear hfz10_2
              try clear hfz10_3
              try clear hfz10_4
              try clear hfz15_0
              try clear hfz15_1
              try clear hfz15_2
              try clear hfz15_3
              try clear hfz15_4
              try clear hfz17_0
              try clear hfz17_1
              try clear hfz17_2
              try clear hfz17_3
              try clear hfz17_4
              try clear hfz19_0
              try clear hfz19_1
              try clear hfz19_2
              try clear hfz19_3
              try clear hfz19_4
              try clear hfz4_0
              try clear hfz4_1
              try clear hfz4_2
              try clear hfz4_3
              try clear hfz4_4
              try clear p2
              obtain ⟨kq,x27_19,rfl,HA,HJ19,BK325,HB⟩:=hcut
              cases kq with
              |zero=>exact absurd HA.out (by simp [lexer_Check.j1])
              |succ kj19=>
               have H:=HA.out;clear HA;simp only [lexer_Check.j1] at H;by_cases c22:x27_19=true
               · subst c22
                 have H1:(if a0_3=0 then (lexer_Check.j2 kj19 0 0 a0_0 a0_1 a0_2 a0_3 a0_4) else (some 2))=some r:=by rw [if_pos rfl] at H;exact H
                 clear H;have H:=H1;clear H1;by_cases c23:a0_3=0
                 · rw [if_pos c23] at H;have c23b0:(a0_3==0)=true:=beq_iff_eq.mpr c23;have c23b1:(a0_3 != 0)=false:=bne_eq_false_iff_eq.mpr c23;clear c23;have H':=Aside0.mk H;clear H;have hcz24_0:wc.cell? ⟨gb325,0,none⟩=some (.int .i64 a0_0):=(blk_cell BK325.out 0).trans rfl;have hcz24_1:wc.cell? ⟨gb325,1,none⟩=some (.int .i64 a0_1):=(blk_cell BK325.out 1).trans rfl;have hcz24_2:wc.cell? ⟨gb325,2,none⟩=some (.int .i64 a0_2):=(blk_cell BK325.out 2).trans rfl;have hcz24_3:wc.cell? ⟨gb325,3,none⟩=some (.int .i64 a0_3):=(blk_cell BK325.out 3).trans rfl;have hcz24_4:wc.cell? ⟨gb325,4,none⟩=some (.string a0_4):=(blk_cell BK325.out 4).trans rfl;have hfz24_0:=blk_frozen BK325.out 0;have hfz24_1:=blk_frozen BK325.out 1;have hfz24_2:=blk_frozen BK325.out 2;have hfz24_3:=blk_frozen BK325.out 3;have hfz24_4:=blk_frozen BK325.out 4;go_wp2
                   repeat (go_quiet (fail);try go_wp2)
                   go_meet
                   case rel=>exact ⟨_,(0),(0),(by first|rfl|(simp;done)|(simp [*];done)),(by first|rfl|(simp;done)|(simp [*];done)),H',⟨by have:=HJ4.out;have:=HJ19.out;first|omega|exact Nat.le_refl _⟩,⟨by (with_reducible repeat (first|refine blk_drewN ?_ _|refine blk_drew ?_|refine blk_alloc ?_ _));exact BK325.out⟩,⟨by repeat (first|(with_reducible first|exact HB.out|apply below_alloc|apply pw_below_drewN|apply below_drew1|refine below_set ?_ GE325.out)|exact HB.out)⟩⟩
                 · rw [if_neg c23] at H;have c23b0:(a0_3==0)=false:=beq_eq_false_iff_ne.mpr c23;have c23b1:(a0_3 != 0)=true:=bne_iff_ne.mpr c23;obtain rfl:=Option.some.inj H;have hcz25_0:wc.cell? ⟨gb325,0,none⟩=some (.int .i64 a0_0):=(blk_cell BK325.out 0).trans rfl;have hcz25_1:wc.cell? ⟨gb325,1,none⟩=some (.int .i64 a0_1):=(blk_cell BK325.out 1).trans rfl;have hcz25_2:wc.cell? ⟨gb325,2,none⟩=some (.int .i64 a0_2):=(blk_cell BK325.out 2).trans rfl;have hcz25_3:wc.cell? ⟨gb325,3,none⟩=some (.int .i64 a0_3):=(blk_cell BK325.out 3).trans rfl;have hcz25_4:wc.cell? ⟨gb325,4,none⟩=some (.string a0_4):=(blk_cell BK325.out 4).trans rfl;have hfz25_0:=blk_frozen BK325.out 0;have hfz25_1:=blk_frozen BK325.out 1;have hfz25_2:=blk_frozen BK325.out 2;have hfz25_3:=blk_frozen BK325.out 3;have hfz25_4:=blk_frozen BK325.out 4;go_wp2
                   repeat (go_quiet (fail);try go_wp2)
                   go_ret;exact ⟨by first|rfl|(simp [errW_none,errW_some]<;>rfl)|(simp [*, errW_none,errW_some]<;>rfl),by repeat (first|(with_reducible first|exact HB.out|apply below_alloc|apply pw_below_drewN|apply below_drew1|refine below_set ?_ GE325.out)|exact HB.out)⟩
               · replace c22:=Bool.eq_false_iff.mpr c22;subst c22
                 have H1:(some 2)=some r:=by rw [if_neg (show ¬(false=true) by decide)] at H;exact H
                 clear H;have H:=H1;clear H1;obtain rfl:=Option.some.inj H;go_wp2
                 repeat (go_quiet (fail);try go_wp2)
                 go_ret;exact ⟨by first|rfl|(simp [errW_none,errW_some]<;>rfl)|(simp [*, errW_none,errW_some]<;>rfl),by repeat (first|(with_reducible first|exact HB.out|apply below_alloc|apply pw_below_drewN|apply below_drew1|refine below_set ?_ GE325.out)|exact HB.out)⟩
 case rest=>
  clear HC2
  try clear c1
  try clear c2
  try clear p2
  try clear c6
  try clear c6b0
  try clear c6b1
  try clear c7
  try clear c8
  try clear c8b0
  try clear c8b1
  try clear c9
  try clear c9b0
  try clear c9b1
  try clear c11
  try clear c11b0
  try clear c11b1
  try clear c12
  try clear c12b0
  try clear c12b1
  try clear c14
  try clear c18
  try clear c21
  try clear c21b0
  try clear c21b1
  try clear c22
  try clear c23
  try clear c23b0
  try clear c23b1
  try clear hcz10_0
  try clear hcz10_1
  try clear hcz10_2
  try clear hcz10_3
  try clear hcz10_4
  try clear hcz15_0
  try clear hcz15_1
  try clear hcz15_2
  try clear hcz15_3
  try clear hcz15_4
  try clear hcz17_0
  try clear hcz17_1
  try clear hcz17_2
  try clear hcz17_3
  try clear hcz17_4
  try clear hcz19_0
  try clear hcz19_1
  try clear hcz19_2
  try clear hcz19_3
  try clear hcz19_4
  try clear hcz24_0
  try clear hcz24_1
  try clear hcz24_2
  try clear hcz24_3
  try clear hcz24_4
  try clear hcz25_0
  try clear hcz25_1
  try clear hcz25_2
  try clear hcz25_3
  try clear hcz25_4
  try clear hcz4_0
  try clear hcz4_1
  try clear hcz4_2
  try clear hcz4_3
  try clear hcz4_4
  try clear hfz10_0
  try clear hfz10_1
  try clear hfz10_2
  try clear hfz10_3
  try clear hfz10_4
  try clear hfz15_0
  try clear hfz15_1
  try clear hfz15_2
  try clear hfz15_3
  try clear hfz15_4
  try clear hfz17_0
  try clear hfz17_1
  try clear hfz17_2
  try clear hfz17_3
  try clear hfz17_4
  try clear hfz19_0
  try clear hfz19_1
  try clear hfz19_2
  try clear hfz19_3
  try clear hfz19_4
  try clear hfz24_0
  try clear hfz24_1
  try clear hfz24_2
  try clear hfz24_3
  try clear hfz24_4
  try clear hfz25_0
  try clear hfz25_1
  try clear hfz25_2
  try clear hfz25_3
  try clear hfz25_4
  try clear hfz4_0
  try clear hfz4_1
  try clear hfz4_2
  try clear hfz4_3
  try clear hfz4_4
  try clear p2
  obtain ⟨kq,x3_1,x4_1,rfl,rfl,HA,HJ1,BK325,HB⟩:=hcut
  cases kq with
  |zero=>exact absurd HA.out (by simp [lexer_Check.j2])
  |succ kj1=>
   have H:=HA.out;clear HA;simp only [lexer_Check.j2] at H
   by_cases c26:a0_4.toList=([]:List UInt8)
   · rw [if_pos c26] at H;have c26b0:(a0_4.toList==([]:List UInt8))=true:=beq_iff_eq.mpr c26;have c26b1:(a0_4.toList != ([]:List UInt8))=false:=bne_eq_false_iff_eq.mpr c26;clear c26;by_cases c27:a0_3<x3_1
     · rw [if_pos c27] at H;have c27b0:decide (a0_3<x3_1)=true:=decide_eq_true c27;clear c27;obtain rfl:=Option.some.inj H;have hcz28_0:wc.cell? ⟨gb325,0,none⟩=some (.int .i64 a0_0):=(blk_cell BK325.out 0).trans rfl;have hcz28_1:wc.cell? ⟨gb325,1,none⟩=some (.int .i64 a0_1):=(blk_cell BK325.out 1).trans rfl;have hcz28_2:wc.cell? ⟨gb325,2,none⟩=some (.int .i64 a0_2):=(blk_cell BK325.out 2).trans rfl;have hcz28_3:wc.cell? ⟨gb325,3,none⟩=some (.int .i64 a0_3):=(blk_cell BK325.out 3).trans rfl;have hcz28_4:wc.cell? ⟨gb325,4,none⟩=some (.string a0_4):=(blk_cell BK325.out 4).trans rfl;have hfz28_0:=blk_frozen BK325.out 0;have hfz28_1:=blk_frozen BK325.out 1;have hfz28_2:=blk_frozen BK325.out 2;have hfz28_3:=blk_frozen BK325.out 3;have hfz28_4:=blk_frozen BK325.out 4;go_wp2
       repeat (go_quiet (fail);try go_wp2)
       go_ret;exact ⟨by first|rfl|(simp [errW_none,errW_some]<;>rfl)|(simp [*, errW_none,errW_some]<;>rfl),by repeat (first|(with_reducible first|exact HB.out|apply below_alloc|apply pw_below_drewN|apply below_drew1|refine below_set ?_ GE325.out)|exact HB.out)⟩
     · rw [if_neg c27] at H;have c27b0:decide (a0_3<x3_1)=false:=decide_eq_false c27;clear c27;by_cases c29:a0_3>x4_1
       · rw [if_pos c29] at H;have c29b0:decide (x4_1<a0_3)=true:=decide_eq_true c29;clear c29;obtain rfl:=Option.some.inj H;have hcz30_0:wc.cell? ⟨gb325,0,none⟩=some (.int .i64 a0_0):=(blk_cell BK325.out 0).trans rfl;have hcz30_1:wc.cell? ⟨gb325,1,none⟩=some (.int .i64 a0_1):=(blk_cell BK325.out 1).trans rfl;have hcz30_2:wc.cell? ⟨gb325,2,none⟩=some (.int .i64 a0_2):=(blk_cell BK325.out 2).trans rfl;have hcz30_3:wc.cell? ⟨gb325,3,none⟩=some (.int .i64 a0_3):=(blk_cell BK325.out 3).trans rfl;have hcz30_4:wc.cell? ⟨gb325,4,none⟩=some (.string a0_4):=(blk_cell BK325.out 4).trans rfl;have hfz30_0:=blk_frozen BK325.out 0;have hfz30_1:=blk_frozen BK325.out 1;have hfz30_2:=blk_frozen BK325.out 2;have hfz30_3:=blk_frozen BK325.out 3;have hfz30_4:=blk_frozen BK325.out 4;go_wp2
         repeat (go_quiet (fail);try go_wp2)
         go_ret;exact ⟨by first|rfl|(simp [errW_none,errW_some]<;>rfl)|(simp [*, errW_none,errW_some]<;>rfl),by repeat (first|(with_reducible first|exact HB.out|apply below_alloc|apply pw_below_drewN|apply below_drew1|refine below_set ?_ GE325.out)|exact HB.out)⟩
       · rw [if_neg c29] at H;have c29b0:decide (x4_1<a0_3)=false:=decide_eq_false c29;clear c29;obtain rfl:=Option.some.inj H;have hcz31_0:wc.cell? ⟨gb325,0,none⟩=some (.int .i64 a0_0):=(blk_cell BK325.out 0).trans rfl;have hcz31_1:wc.cell? ⟨gb325,1,none⟩=some (.int .i64 a0_1):=(blk_cell BK325.out 1).trans rfl;have hcz31_2:wc.cell? ⟨gb325,2,none⟩=some (.int .i64 a0_2):=(blk_cell BK325.out 2).trans rfl;have hcz31_3:wc.cell? ⟨gb325,3,none⟩=some (.int .i64 a0_3):=(blk_cell BK325.out 3).trans rfl;have hcz31_4:wc.cell? ⟨gb325,4,none⟩=some (.string a0_4):=(blk_cell BK325.out 4).trans rfl;have hfz31_0:=blk_frozen BK325.out 0;have hfz31_1:=blk_frozen BK325.out 1;have hfz31_2:=blk_frozen BK325.out 2;have hfz31_3:=blk_frozen BK325.out 3;have hfz31_4:=blk_frozen BK325.out 4;go_wp2
         repeat (go_quiet (fail);try go_wp2)
         go_ret;exact ⟨by first|rfl|(simp [errW_none,errW_some]<;>rfl)|(simp [*, errW_none,errW_some]<;>rfl),by repeat (first|(with_reducible first|exact HB.out|apply below_alloc|apply pw_below_drewN|apply below_drew1|refine below_set ?_ GE325.out)|exact HB.out)⟩
   · rw [if_neg c26] at H;have c26b0:(a0_4.toList==([]:List UInt8))=false:=beq_eq_false_iff_ne.mpr c26;have c26b1:(a0_4.toList != ([]:List UInt8))=true:=bne_iff_ne.mpr c26;obtain rfl:=Option.some.inj H;have hcz32_0:wc.cell? ⟨gb325,0,none⟩=some (.int .i64 a0_0):=(blk_cell BK325.out 0).trans rfl;have hcz32_1:wc.cell? ⟨gb325,1,none⟩=some (.int .i64 a0_1):=(blk_cell BK325.out 1).trans rfl;have hcz32_2:wc.cell? ⟨gb325,2,none⟩=some (.int .i64 a0_2):=(blk_cell BK325.out 2).trans rfl;have hcz32_3:wc.cell? ⟨gb325,3,none⟩=some (.int .i64 a0_3):=(blk_cell BK325.out 3).trans rfl;have hcz32_4:wc.cell? ⟨gb325,4,none⟩=some (.string a0_4):=(blk_cell BK325.out 4).trans rfl;have hfz32_0:=blk_frozen BK325.out 0;have hfz32_1:=blk_frozen BK325.out 1;have hfz32_2:=blk_frozen BK325.out 2;have hfz32_3:=blk_frozen BK325.out 3;have hfz32_4:=blk_frozen BK325.out 4;go_wp2
     repeat (go_quiet (fail);try go_wp2)
     go_ret;exact ⟨by first|rfl|(simp [errW_none,errW_some]<;>rfl)|(simp [*, errW_none,errW_some]<;>rfl),by repeat (first|(with_reducible first|exact HB.out|apply below_alloc|apply pw_below_drewN|apply below_drew1|refine below_set ?_ GE325.out)|exact HB.out)⟩
end Go.Proofs.YtdffphkbidfejaaDoor.Q
end
