import Derived.WalkLawsBesides
import Derived.Test.YtgmiekggdgmhkaaGreatDoorMN5
section
namespace Go.Proofs.YtgmiekggdgmhkaaGreatDoor.U
open Go.RowKit Go.Proofs.YtgmiekggdgmhkaaGreatDoorW.PrintWords Go.Proofs.YtgmiekggdgmhkaaGreatDoorW.PrintLast Go.Proofs.YtgmiekggdgmhkaaGreatDoorW.PrintMore
set_option linter.unusedVariables false
set_option linter.unusedSimpArgs false
def cmpS (a b:ByteArray):Int:=if Op.bytesLess a.toList b.toList=true then-1 else if (a.toList==b.toList)=true then 0 else 1
set_option maxHeartbeats 1000000 in
theorem cmpS_any (a b:ByteArray) (w:World):Calls Tryz.prog 55 #[.string a,.string b] w fun e w'=>e= .returned (.int .i64 (cmpS a b))∧Drawn0 w w':=by
 have hn: ∀(x:ByteArray) (W:World),Calls Tryz.prog 84 #[.string x] W fun e w'=>e= .returned (.bool false)∧Drawn0 W w':=fun x W=>
  cmp_isNaN_string.calls x false W (by unfold cmp_isNaN_string.f;simp)
 have HN:=Aside0.mk hn;clear hn;unfold cmpS
 cases h1:Op.bytesLess a.toList b.toList with
 |true=>
  rw [if_pos rfl];go_enter Tryz.func55,Tryz.ntmps55
  go_wp2_with (go_at_call 84;refine (HN.out _ _).mono ?_;rintro e w1 ⟨rfl,n1,rfl⟩)
  go_ret;exact ⟨rfl,_,rfl⟩
 |false=>
  rw [if_neg (by decide)]
  cases h2:a.toList==b.toList with
  |true=>
   rw [if_pos rfl];go_enter Tryz.func55,Tryz.ntmps55
   go_wp2_with (go_at_call 84;refine (HN.out _ _).mono ?_;rintro e w1 ⟨rfl,n1,rfl⟩)
   go_ret;exact ⟨rfl,_,rfl⟩
  |false=>
   rw [if_neg (by decide)];go_enter Tryz.func55,Tryz.ntmps55
   go_wp2_with (go_at_call 84;refine (HN.out _ _).mono ?_;rintro e w1 ⟨rfl,n1,rfl⟩)
   go_ret;exact ⟨rfl,_,rfl⟩
def cmpI (a b:Int):Int:=if a<b then-1 else if b<a then 1 else 0
theorem cmp_int_f (a b:Int):cmp_Compare_int.f a b=some (cmpI a b):=by
 unfold cmp_Compare_int.f cmp_isNaN_int.f cmpI;simp only [bne_self_eq_false,Option.bind_some,Bool.false_eq_true,if_false]
 split
 · rfl
 · split<;>rfl
theorem cmp_int64_f (a b:Int):cmp_Compare_int64.f a b=some (cmpI a b):=by
 unfold cmp_Compare_int64.f cmp_isNaN_int64.f cmpI;simp only [bne_self_eq_false,Option.bind_some,Bool.false_eq_true,if_false]
 split
 · rfl
 · split<;>rfl
theorem cmpI_any (a b:Int) (w:World):Calls Tryz.prog 53 #[.int .i64 a,.int .i64 b] w fun e w'=>e= .returned (.int .i64 (cmpI a b))∧Drawn0 w w':=cmp_Compare_int.calls a b _ w (cmp_int_f a b)
theorem cmpI64_any (a b:Int) (w:World):Calls Tryz.prog 54 #[.int .i64 a,.int .i64 b] w fun e w'=>e= .returned (.int .i64 (cmpI a b))∧Drawn0 w w':=cmp_Compare_int64.calls a b _ w (cmp_int64_f a b)
def or3 (a b c:Int):Int:=if a=0 then (if b=0 then c else b) else a
theorem or3_f (a b c:Int):cmp_Or_int.f 5 [a,b,c]=some (or3 a b c):=by
 unfold or3
 have w1:wrap64 1=1:=by unfold wrap64;omega
 have w2:wrap64 2=2:=by unfold wrap64;omega
 have w3:wrap64 3=3:=by unfold wrap64;omega
 by_cases ha:a=0
 · by_cases hb:b=0
   · by_cases hc:c=0
     · simp [cmp_Or_int.f,cmp_Or_int.l0,rd,ha,hb,hc,w1,w2,w3]
     · simp [cmp_Or_int.f,cmp_Or_int.l0,rd,ha,hb,hc,w1,w2,w3]
   · simp [cmp_Or_int.f,cmp_Or_int.l0,rd,ha,hb,w1,w2,w3]
 · simp [cmp_Or_int.f,cmp_Or_int.l0,rd,ha,w1,w2,w3]
theorem or3_any (a b c:Int) (g:Nat) (W:World) (h:W.heap[g]? =some (.cells #[.int .i64 a,.int .i64 b,.int .i64 c] 3 (0,0))):
 Calls Tryz.prog 52 #[.slice (some ⟨g,0,none⟩) 3 3] W fun e w'=>e= .returned (.int .i64 (or3 a b c))∧Drawn0 W w':=by
 refine cmp_Or_int.calls 5 (some ⟨g,0,none⟩) 3 [a,b,c] _ W (Kd.C_of_reads (d:=(0:Int)) (h1:=fun _=>rfl) ?_) (by simp) (or3_f a b c);refine ⟨rfl,by simp,fun _=>⟨_,rfl,fun j hj=>?_⟩⟩;rw [show (⟨g,0,none⟩:Addr).add j=⟨g,j,none⟩ from Addr.add_lit .. |>.trans (by simp),blk_cell h]
 match j,hj with
 |0,_=>rfl
 |1,_=>rfl
 |2,_=>rfl
end Go.Proofs.YtgmiekggdgmhkaaGreatDoor.U
end
