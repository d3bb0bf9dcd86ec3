import Derived.Laws.RangeString
import Derived.LoopTactic
import Derived.Outline
import Derived.Shelf.Small.Utf8
import Derived.Test.YtdffphkbidfejaaDoorMK6
import Derived.Test.YtdffphkbidfejaaDoorMK9
section
namespace Go.Proofs.YtdffphkbidfejaaDoor.Q
open Go.RowKit Go.Proofs.YtdffphkbidfejaaDoorW.PrintWords Go.Proofs.YtdffphkbidfejaaDoorW.PrintLast Go.Proofs.YtdffphkbidfejaaDoorW.PrintMore
set_option linter.unusedVariables false
set_option linter.unusedSimpArgs false
theorem bool_of' (p:Prop) [Decidable p]:decide p=true∨decide p=false:=by cases h:decide p<;>simp
def hasB (l:List UInt8) (r:Int):Bool:=l.any fun c=>(c.toNat:Int)==r
set_option maxRecDepth 100000 in
set_option maxHeartbeats 2000000 in
theorem hasRune_any (s:ByteArray) (r:Int) (w:World) (ha: ∀(j:Nat) (h:j<s.size),(s[j]'h).toNat<128):
 Calls Tryd.prog 57 #[.string s,.int .i32 r] w fun e w'=>e= .returned (.bool (hasB s.data.toList r))∧Below w.heap.size w w':=by
 go_enter Tryd.func57,Tryd.ntmps57;go_wp2
 go_loopw [6] (fun _ w'=> ∃pos:Nat,w'=w.iter s pos∧pos≤s.size∧Aside0 (hasB (s.data.toList.drop pos) r=hasB s.data.toList r)) (fun _ w'=>s.size-w'.iterPos w.heap.size)
 case atStart=>exact ⟨0,rfl,Nat.zero_le _,⟨rfl⟩⟩
 case round=>
  obtain ⟨pos,rfl,hle,HH⟩:=hrel;by_cases hp:pos<s.size
  · have hnx: ∀ty,(Instr.next (.pointer (some ⟨w.heap.size,0,none⟩)) true ty).run Tryd.prog (w.iter s pos)=_:=fun ty=>run_next_ascii w s pos ty hp (ha pos hp)
    have hd:s.data.toList.drop pos=s[pos]'hp::s.data.toList.drop (pos+1):=by
        rw [List.drop_eq_getElem_cons (by simpa using hp)];rfl
    have hcons:hasB (s.data.toList.drop pos) r=(((s[pos]'hp).toNat:Int)==r||hasB (s.data.toList.drop (pos+1)) r):=by rw [hd];rfl
    rcases hb:(((s[pos]'hp).toNat:Int)==r) with _|_
    · have HB:=Aside0.mk hb;have HC:=Aside0.mk hcons;have hb2:((↑(s[pos]'hp).toNat:Int)==r)=false:=hb;clear hcons hd hb;go_wp2;refine ⟨⟨pos+1,rfl,hp,⟨by rw [←HH.out,HC.out,HB.out];rfl⟩⟩,?_⟩;simp;omega
    · have HB:=Aside0.mk hb;have HC:=Aside0.mk hcons;have hb2:((↑(s[pos]'hp).toNat:Int)==r)=true:=hb;clear hcons hd hb;go_wp2;go_ret;refine ⟨?_,(Below.refl _ _).alloc (Nat.le_refl _) _⟩;rw [←HH.out,HC.out,HB.out];rfl
  · have hnx: ∀ty,(Instr.next (.pointer (some ⟨w.heap.size,0,none⟩)) true ty).run Tryd.prog (w.iter s pos)=_:=fun ty=>run_next_end w s pos ty hp
    have hcons:hasB (s.data.toList.drop pos) r=false:=by rw [List.drop_eq_nil_of_le (by simp;exact Nat.le_of_not_lt hp)];rfl
    have HC:=Aside0.mk hcons;clear hcons;go_wp2;go_ret;refine ⟨?_,(Below.refl _ _).alloc (Nat.le_refl _) _⟩;rw [←HH.out,HC.out];rfl
def clsList:List (List UInt8):=[[],[9,10,13,32],[40,91],[41,93],[39],[35],[59],[],[43,45],[33,36,37,38,42,47,58,60,61,62,63,94,95,126,46,64]]
def clsScan:List (List UInt8)→Int→Int→Int
 |[],_,_=>10
 |s::t,c,r=>if hasB s r=true then c else clsScan t (c+1) r
def clsOf (r:Int):Int:=if 48≤r∧r≤57 then 7 else if (97≤r∧r≤122)∨(65≤r∧r≤90)∨160<r then 9 else clsScan clsList 0 r
def clsTab:Array Value:= #[.string ⟨#[]⟩,.string ⟨#[9,10,13,32]⟩,.string ⟨#[40,91]⟩,.string ⟨#[41,93]⟩,.string ⟨#[39]⟩,.string ⟨#[35]⟩,.string ⟨#[59]⟩,.string ⟨#[]⟩,.string ⟨#[43,45]⟩,.string ⟨#[33,36,37,38,42,47,58,60,61,62,63,94,95,126,46,64]⟩]
def clsAt (k:Nat):ByteArray:=⟨(clsList.getD k []).toArray⟩
theorem clsAt_list (k:Nat):(clsAt k).data.toList=clsList.getD k []:=by simp [clsAt]
theorem cls_index0: ∀w,(Instr.index 93 (.agg clsTab) (.int .i64 0)).run Tryd.prog w= .ok (.string (clsAt 0)) w:=fun w=>by kernel_rfl
theorem cls_index1: ∀w,(Instr.index 93 (.agg clsTab) (.int .i64 1)).run Tryd.prog w= .ok (.string (clsAt 1)) w:=fun w=>by kernel_rfl
theorem cls_index2: ∀w,(Instr.index 93 (.agg clsTab) (.int .i64 2)).run Tryd.prog w= .ok (.string (clsAt 2)) w:=fun w=>by kernel_rfl
theorem cls_index3: ∀w,(Instr.index 93 (.agg clsTab) (.int .i64 3)).run Tryd.prog w= .ok (.string (clsAt 3)) w:=fun w=>by kernel_rfl
theorem cls_index4: ∀w,(Instr.index 93 (.agg clsTab) (.int .i64 4)).run Tryd.prog w= .ok (.string (clsAt 4)) w:=fun w=>by kernel_rfl
theorem cls_index5: ∀w,(Instr.index 93 (.agg clsTab) (.int .i64 5)).run Tryd.prog w= .ok (.string (clsAt 5)) w:=fun w=>by kernel_rfl
theorem cls_index6: ∀w,(Instr.index 93 (.agg clsTab) (.int .i64 6)).run Tryd.prog w= .ok (.string (clsAt 6)) w:=fun w=>by kernel_rfl
theorem cls_index7: ∀w,(Instr.index 93 (.agg clsTab) (.int .i64 7)).run Tryd.prog w= .ok (.string (clsAt 7)) w:=fun w=>by kernel_rfl
theorem cls_index8: ∀w,(Instr.index 93 (.agg clsTab) (.int .i64 8)).run Tryd.prog w= .ok (.string (clsAt 8)) w:=fun w=>by kernel_rfl
theorem cls_index9: ∀w,(Instr.index 93 (.agg clsTab) (.int .i64 9)).run Tryd.prog w= .ok (.string (clsAt 9)) w:=fun w=>by kernel_rfl
theorem cls_index (k:Nat) (hk:k<10) (w:World):(Instr.index 93 (.agg clsTab) (.int .i64 k)).run Tryd.prog w= .ok (.string (clsAt k)) w:=by
 match k,hk with
 |0,_=>exact cls_index0 w
 |1,_=>exact cls_index1 w
 |2,_=>exact cls_index2 w
 |3,_=>exact cls_index3 w
 |4,_=>exact cls_index4 w
 |5,_=>exact cls_index5 w
 |6,_=>exact cls_index6 w
 |7,_=>exact cls_index7 w
 |8,_=>exact cls_index8 w
 |9,_=>exact cls_index9 w
 |_+10,h=>exact absurd h (by omega)
theorem clsList_ascii (k:Nat): ∀b∈clsList.getD k [],b.toNat<128:=by
 by_cases hk:k<10
 · match k,hk with
   |0,_=>decide
   |1,_=>decide
   |2,_=>decide
   |3,_=>decide
   |4,_=>decide
   |5,_=>decide
   |6,_=>decide
   |7,_=>decide
   |8,_=>decide
   |9,_=>decide
   |_+10,h=>exact absurd h (by omega)
 · rw [List.getD_eq_getElem?_getD,List.getElem?_eq_none (by simp [clsList];omega)];simp
theorem clsAt_ascii (k:Nat) (j:Nat) (h:j<(clsAt k).size):((clsAt k)[j]'h).toNat<128:=by
 refine clsList_ascii k _ ?_
 have h2:j<(clsList.getD k []).length:=by simpa [clsAt,ByteArray.size] using h
 have:(clsAt k)[j]'h=(clsList.getD k [])[j]'h2:=by simp [clsAt];rfl
 rw [this];exact List.getElem_mem h2
theorem clsScan_step (k:Nat) (hk:k<10) (r:Int):clsScan (clsList.drop k) k r=if hasB (clsAt k).data.toList r=true then (k:Int) else clsScan (clsList.drop (k+1)) ((k+1:Nat):Int) r:=by
 rw [clsAt_list,List.drop_eq_getElem_cons (show k<clsList.length by simpa [clsList] using hk)];simp only [clsScan];rw [List.getD_eq_getElem?_getD,List.getElem?_eq_getElem (show k<clsList.length by simpa [clsList] using hk)];simp
set_option maxRecDepth 100000 in
set_option maxHeartbeats 2000000 in
theorem classes_calls (w:World):Calls Tryd.prog 56 #[] w fun e w'=>e= .returned (.agg clsTab)∧Below w.heap.size w w':=by
 go_enter Tryd.func56,Tryd.ntmps56;go_wp2;exact bodyPost_ret (v:= .agg clsTab) (by simp [results,Tryd.results56,go_sem,clsTab]) rfl ⟨rfl,(Below.refl _ _).alloc (Nat.le_refl _) _⟩
theorem is_any (r:Int) (w:World):Calls Tryd.prog 55 #[.int .i32 r] w fun e w'=>e= .returned (.bool (Lib.validRune r))∧w=w':=by
 go_enter Tryd.func55,Tryd.ntmps55
 go_wp2_with (go_at_call 74;refine (Any.utf8_ValidRune Tryd.lays119 r _).mono ?_;rintro e w1 ⟨rfl,rfl⟩)
 go_ret;exact ⟨rfl,rfl⟩
set_option maxRecDepth 100000 in
set_option maxHeartbeats 4000000 in
theorem class_good (r:Int) (w:World) (h:Lib.validRune r=true):Calls Tryd.prog 36 #[.int .i32 r] w fun e w'=>e= .returned (.tuple #[.int .i64 (clsOf r),.int .i64 0])∧Below w.heap.size w w':=by
 have hc:=is_any r w;rw [h] at hc;clear h;by_cases h7:48≤r∧r≤57
 · have e:clsOf r=7:=if_pos h7;rw [e];clear e;obtain ⟨a,b⟩:=h7;go_enter Tryd.func36,Tryd.ntmps36
   go_wp2_with (go_at_call 55;refine hc.mono ?_;rintro e w1 ⟨rfl,rfl⟩)
   go_ret2;exact ⟨rfl,Below.refl _ _⟩
 · have d7:(48≤r)=False∨(48≤r∧(r≤57)=False):=by
    by_cases a:48≤r
    · exact .inr ⟨a,eq_false (fun b=>h7 ⟨a,b⟩)⟩
    · exact .inl (eq_false a)
   by_cases h9:(97≤r∧r≤122)∨(65≤r∧r≤90)∨160<r
   · have e:clsOf r=9:=by unfold clsOf;rw [if_neg h7,if_pos h9]
     rw [e];clear e
     have n1:decide (48≤r)=true→decide (r≤57)=false:=by simp;omega
     clear h7 d7
     rcases bool_of' (48≤r) with a1|a1<;>rcases bool_of' (97≤r) with a2|a2<;>rcases bool_of' (r≤122) with b2|b2<;>rcases bool_of' (65≤r) with a3|a3<;>rcases bool_of' (r≤90) with b3|b3
     all_goals
        try have b1:=n1 a1
        clear n1
        first
         |(exfalso;simp at a1 a2 b2 a3 b3;omega)
         |(have n4:decide (160<r)=true:=by (simp at a1 a2 b2 a3 b3 ⊢; omega)
           clear h9;go_enter Tryd.func36,Tryd.ntmps36
           go_wp2_with (go_at_call 55;refine hc.mono ?_;rintro e w1 ⟨rfl,rfl⟩)
           go_ret2
           exact ⟨rfl,Below.refl _ _⟩)
         |(clear h9
           go_enter Tryd.func36,Tryd.ntmps36
           go_wp2_with (go_at_call 55;refine hc.mono ?_;rintro e w1 ⟨rfl,rfl⟩)
           go_ret2
           exact ⟨rfl,Below.refl _ _⟩)
   · have e:clsOf r=clsScan clsList 0 r:=by unfold clsOf;rw [if_neg h7,if_neg h9]
     rw [e];clear e
     have n1:decide (48≤r)=true→decide (r≤57)=false:=by simp;omega
     have n2:decide (97≤r)=true→decide (r≤122)=false:=by simp;omega
     have n3:decide (65≤r)=true→decide (r≤90)=false:=by simp;omega
     have n4:decide (160<r)=false:=by simp;omega
     clear h7 h9 d7
     rcases bool_of' (48≤r) with a1|a1<;>rcases bool_of' (97≤r) with a2|a2<;>rcases bool_of' (65≤r) with a3|a3
     all_goals
        try have b1:=n1 a1
        try have b2:=n2 a2
        try have b3:=n3 a3
        clear n1 n2 n3;go_enter Tryd.func36,Tryd.ntmps36
        go_wp2_with (first|(go_at_call 55;refine hc.mono ?_;rintro e w1 ⟨rfl,rfl⟩)|(go_at_call 56;refine (classes_calls _).mono ?_;rintro e w1 ⟨rfl,hb1⟩))
        go_loopw [33] (fun i wr=> ∃k:Nat,i= .int .i64 k∧k≤10∧Aside0 (clsScan (clsList.drop k) k r=clsScan clsList 0 r)∧Aside0 (Below w.heap.size w wr)) (fun i _=>10-(intOf i).toNat)
        case atStart=>exact ⟨0,rfl,by omega,⟨rfl⟩,⟨hb1⟩⟩
        case round=>
         obtain ⟨k,rfl,hk,HS,HB⟩:=hrel;by_cases hlt:k<10
         · have hltI:(k:Int)<10:=by omega
           have hix:=cls_index k hlt;have hst:=clsScan_step k hlt r;have HA:=Aside0.mk (clsAt_ascii k)
           rcases hb:hasB (clsAt k).data.toList r with _|_
           · rw [hb] at hst;have HT:=Aside0.mk hst;have HE:=Aside0.mk hb;clear hst hb
             go_wp2_with (go_at_call 57;refine (hasRune_any (clsAt k) r _ HA.out).mono ?_;rintro e w2 ⟨rfl,hb2⟩;rw [HE.out])
             go_roundw
             case rel=>exact ⟨k+1,by go_num,by omega,⟨by rw [←HS.out,HT.out];simp⟩,⟨below_then HB.out HB.out.size hb2⟩⟩
             case measure=>simp [intOf];omega
           · rw [hb] at hst;have HT:=Aside0.mk hst;have HE:=Aside0.mk hb;clear hst hb
             go_wp2_with (go_at_call 57;refine (hasRune_any (clsAt k) r _ HA.out).mono ?_;rintro e w2 ⟨rfl,hb2⟩;rw [HE.out])
             go_ret2;exact ⟨by rw [←HS.out,HT.out];rfl,below_then HB.out HB.out.size hb2⟩
         · obtain rfl:k=10:=by omega
           go_wp2;go_ret2;exact ⟨by rw [←HS.out];rfl,HB.out⟩
end Go.Proofs.YtdffphkbidfejaaDoor.Q
end
