import Derived.Lib.Hide
import Derived.Shelf.Strings.IndexAnyAll
import Derived.Shelf.Strings.Prefix
import Derived.Shelf.Strings.SlTrimAscii
import Derived.Test.YtgmiekggdgmhkaaGreatDoorMN1
import Derived.Test.YtgmiekggdgmhkaaGreatDoorMN11
import Derived.Test.YtgmiekggdgmhkaaGreatDoorMN12
import Derived.Test.YtgmiekggdgmhkaaGreatDoorMN5
import Derived.Test.YtgmiekggdgmhkaaGreatDoorMN6
import Derived.Test.YtgmiekggdgmhkaaGreatDoorMN9
section
namespace Go.Proofs.YtgmiekggdgmhkaaGreatDoor.Q
open Go.RowKit Go.Proofs.YtgmiekggdgmhkaaGreatDoorW.PrintWords Go.Proofs.YtgmiekggdgmhkaaGreatDoorW.PrintLast Go.Proofs.YtgmiekggdgmhkaaGreatDoorW.PrintMore
set_option linter.unusedVariables false
set_option linter.unusedSimpArgs false
def digitsB:List UInt8:=[48,49,50,51,52,53,54,55,56,57]
def restB (l:List UInt8):List UInt8:=Lib.trimLeftS (Lib.trimPrefix (Lib.trimPrefix l [43]) [45]) digitsB
def intB (l:List UInt8):Bool:=(restB l).isEmpty&&(Lib.containsAny l digitsB&& !Lib.hasPrefix l [43,45])
def symCls (r:Int):Bool:=clsOf r==9||(clsOf r==7||clsOf r==8)
def symB (s:ByteArray):Bool:=decide (1≤s.size)&&(decide (s.size≤24)&&(!intB s.data.toList&&(okB (bytesOf s)&&(runesOf (bytesOf s)).all symCls)))
set_option maxRecDepth 100000 in
set_option maxHeartbeats 2000000 in
theorem sym_empty (w:World):Calls Tryz.prog 22 #[.string ⟨#[]⟩] w fun e w'=>e= .returned (.bool false)∧w=w':=by
 go_enter Tryz.func22,Tryz.ntmps22;go_wp2;go_ret;exact ⟨rfl,rfl⟩
set_option maxRecDepth 100000 in
set_option maxHeartbeats 2000000 in
theorem sym_long (s:ByteArray) (w:World) (h0:(24:Int)<s.size) (h1:s.toList.isEmpty=false):Calls Tryz.prog 22 #[.string s] w fun e w'=>e= .returned (.bool false)∧w=w':=by
 have d:decide ((24:Int)<s.size)=true:=decide_eq_true h0;go_enter Tryz.func22,Tryz.ntmps22;go_wp2;go_ret;exact ⟨rfl,rfl⟩
structure Front (s s1 s2 s3:ByteArray) (b4 b5:Bool):Prop where
 c1: ∀W,Calls Tryz.prog 47 #[.string s,.string ⟨#[43]⟩] W fun e w'=>e= .returned (.string s1)∧W=w'
 c2: ∀W,Calls Tryz.prog 47 #[.string s1,.string ⟨#[45]⟩] W fun e w'=>e= .returned (.string s2)∧W=w'
 c3: ∀W,Calls Tryz.prog 46 #[.string s2,.string ⟨#[48,49,50,51,52,53,54,55,56,57]⟩] W fun e w'=>e= .returned (.string s3)∧Below W.heap.size W w'
 c4:s3.toList.isEmpty=true→ ∀W,Calls Tryz.prog 48 #[.string s,.string ⟨#[48,49,50,51,52,53,54,55,56,57]⟩] W fun e w'=>e= .returned (.bool b4)∧Below W.heap.size W w'
 c5: ∀W,Calls Tryz.prog 49 #[.string s,.string ⟨#[43,45]⟩] W fun e w'=>e= .returned (.bool b5)∧W=w'
set_option maxRecDepth 100000 in
set_option maxHeartbeats 4000000 in
theorem sym_int (s s1 s2 s3:ByteArray) (w:World) (h0: ¬(24:Int)<s.size) (h1:s.toList.isEmpty=false) (HF:Front s s1 s2 s3 true false) (h3:s3.toList.isEmpty=true):Calls Tryz.prog 22 #[.string s] w fun e w'=>e= .returned (.bool false)∧Below w.heap.size w w':=by
 have d:decide ((24:Int)<s.size)=false:=decide_eq_false h0;have H3:=Aside0.mk h3;go_enter Tryz.func22,Tryz.ntmps22
 go_wp2_with (first
  |(go_at_call_of 47 (Value.string s);refine (HF.c1 _).mono ?_;rintro e w1 ⟨rfl,rfl⟩)
  |(go_at_call_of 47 (Value.string s1);refine (HF.c2 _).mono ?_;rintro e w1 ⟨rfl,rfl⟩)
  |(go_at_call 46;refine (HF.c3 _).mono ?_;rintro e w3 ⟨rfl,hb3⟩)
  |(go_at_call 48;refine (HF.c4 H3.out _).mono ?_;rintro e w4 ⟨rfl,hb4⟩)
  |(go_at_call 49;refine (HF.c5 _).mono ?_;rintro e w5 ⟨rfl,rfl⟩))
 go_ret;exact ⟨rfl,below_then hb3 hb3.size hb4⟩
theorem runesOf_valid (bs:List Int): ∀r∈runesOf bs,Lib.validRune r=true:=fun r hr=>by
 simp only [runesOf,List.mem_map] at hr;obtain ⟨x,hx,rfl⟩:=hr;exact itemsF_valid _ _ _ x hx
theorem all_take_succ (rs:List Int) (k:Nat) (hk:k<rs.length):(rs.take (k+1)).all symCls=((rs.take k).all symCls&&symCls (rd rs k)):=by
 rw [List.take_succ_eq_append_getElem hk,List.all_append];simp [rd,List.getD_eq_getElem?_getD,List.getElem?_eq_getElem hk]
theorem all_false_of_take (rs:List Int) (k:Nat) (h:(rs.take k).all symCls=false):rs.all symCls=false:=by
 rw [←List.take_append_drop k rs,List.all_append,h];rfl
theorem sym_run (s:ByteArray) (w:World) (hsz:s.size≤24) (hG:G0 w) (W:World) (hW:Below w.heap.size w W):Calls Tryz.prog 50 #[.slice (some ⟨W.heap.size,0,none⟩) s.size (grownCap W s.size 0 5)] (Lib.bytesWorld W 5 s) (RunPost (bytesOf s) (Lib.bytesWorld W 5 s)):=by
 have hR:=bytes_reads W 5 s (by omega);have:=rrun_any (some ⟨W.heap.size,0,none⟩) (grownCap W s.size 0 5) (bytesOf s) (Lib.bytesWorld W 5 s) (by rw [bytesOf_length];exact Kd.C_of_reads (d:=(0:Int)) (h1:=fun _=>rfl) hR) (by rw [bytesOf_length];exact grownCap_ge _ _ _ _) (bytesOf_bytes s) (G0_keep hG (bytes_below hW hW.size _ _))
 rwa [bytesOf_length] at this
set_option maxRecDepth 100000 in
set_option maxHeartbeats 4000000 in
theorem sym_rest_no (s s1 s2 s3:ByteArray) (b4 b5:Bool) (w:World) (h0: ¬(24:Int)<s.size) (h1:s.toList.isEmpty=false) (HF:Front s s1 s2 s3 b4 b5) (h3:s3.toList.isEmpty=false∨(s3.toList.isEmpty=true∧b4=false)∨(s3.toList.isEmpty=true∧b4=true∧b5=true)) (hG:G0 w) (hok:okB (bytesOf s)=false):
 Calls Tryz.prog 22 #[.string s] w fun e w'=>e= .returned (.bool false)∧Below w.heap.size w w':=by
 have d:decide ((24:Int)<s.size)=false:=decide_eq_false h0
 have hsz:s.size≤24:=by omega
 have hrun: ∀W:World,Below w.heap.size w W→Calls Tryz.prog 50 #[.slice (some ⟨W.heap.size,0,none⟩) s.size (grownCap W s.size 0 5)] (Lib.bytesWorld W 5 s) fun e w'=>(∃q:Int,(q != 0)=true∧e= .returned (.tuple #[.slice none 0 0,.int .i64 q]))∧Below (Lib.bytesWorld W 5 s).heap.size (Lib.bytesWorld W 5 s) w':=fun W hW=>
  (sym_run s w hsz hG W hW).mono fun e w' h=>⟨(h.2.1 hok).elim fun q hq=>⟨q,bne_iff_ne.mpr hq.1,hq.2⟩,h.2.2⟩
 have HRUN:=Aside0.mk hrun;clear hrun hok hG
 have kb:=fun W=>print_bytes (P:=Tryz.prog) 9 80 5 Tryz.underlying9 Tryz.underlying80 Tryz.underlying5 s W
 rcases h3 with h3|⟨h3,rfl⟩|⟨h3,rfl,rfl⟩
 all_goals
  have H3:=Aside0.mk h3;have hb3:=Below.refl w.heap.size w;go_enter Tryz.func22,Tryz.ntmps22
  go_wp2_with (first
   |(go_at_call_of 47 (Value.string s);refine (HF.c1 _).mono ?_;rintro e w1 ⟨rfl,rfl⟩)
   |(go_at_call_of 47 (Value.string s1);refine (HF.c2 _).mono ?_;rintro e w1 ⟨rfl,rfl⟩)
   |(go_at_call 46;refine (HF.c3 _).mono ?_;rintro e w3 ⟨rfl,hb4⟩;replace hb3:=below_then hb3 hb3.size hb4;clear hb4)
   |(go_at_call 48;refine (HF.c4 H3.out _).mono ?_;rintro e w4 ⟨rfl,hb4⟩;replace hb3:=below_then hb3 hb3.size hb4;clear hb4)
   |(go_at_call 49;refine (HF.c5 _).mono ?_;rintro e w5 ⟨rfl,rfl⟩)
   |(go_at_call 50;refine (HRUN.out _ hb3).mono ?_;rintro e w6 ⟨⟨q,hq,rfl⟩,hb6⟩;replace hb3:=below_then (bytes_below hb3 hb3.size _ _) (bytes_below hb3 hb3.size _ _).size hb6;clear hb6))
 all_goals go_ret
 all_goals exact ⟨rfl,hb3⟩
set_option maxRecDepth 100000 in
set_option maxHeartbeats 4000000 in
theorem sym_rest_yes (s s1 s2 s3:ByteArray) (b4 b5:Bool) (w:World) (h0: ¬(24:Int)<s.size) (h1:s.toList.isEmpty=false) (HF:Front s s1 s2 s3 b4 b5) (h3:s3.toList.isEmpty=false∨(s3.toList.isEmpty=true∧b4=false)∨(s3.toList.isEmpty=true∧b4=true∧b5=true)) (hG:G0 w) (hok:okB (bytesOf s)=true):
 Calls Tryz.prog 22 #[.string s] w fun e w'=>e= .returned (.bool ((runesOf (bytesOf s)).all symCls))∧Below w.heap.size w w':=by
 have d:decide ((24:Int)<s.size)=false:=decide_eq_false h0
 have hsz:s.size≤24:=by omega
 have hrun: ∀W:World,Below w.heap.size w W→Calls Tryz.prog 50 #[.slice (some ⟨W.heap.size,0,none⟩) s.size (grownCap W s.size 0 5)] (Lib.bytesWorld W 5 s) fun e w'=>(∃A c,e= .returned (.tuple #[.slice A (runesOf (bytesOf s)).length c,.int .i64 0])∧ReadsInt w' .i32 A (runesOf (bytesOf s)).length (runesOf (bytesOf s)))∧Below (Lib.bytesWorld W 5 s).heap.size (Lib.bytesWorld W 5 s) w':=fun W hW=>
  (sym_run s w hsz hG W hW).mono fun e w' h=>⟨by
   obtain ⟨v,he,hown⟩:=h.1 hok;obtain ⟨A,c,rfl,hr⟩:=own_reads hown
   exact ⟨A,c,he,hr⟩,h.2.2⟩
 have HRUN:=Aside0.mk hrun;clear hrun hok hG
 have kb:=fun W=>print_bytes (P:=Tryz.prog) 9 80 5 Tryz.underlying9 Tryz.underlying80 Tryz.underlying5 s W
 rcases h3 with h3|⟨h3,rfl⟩|⟨h3,rfl,rfl⟩
 all_goals
  have H3:=Aside0.mk h3;have hb3:=Below.refl w.heap.size w;go_enter Tryz.func22,Tryz.ntmps22
  go_wp2_with (first
   |(go_at_call_of 47 (Value.string s);refine (HF.c1 _).mono ?_;rintro e w1 ⟨rfl,rfl⟩)
   |(go_at_call_of 47 (Value.string s1);refine (HF.c2 _).mono ?_;rintro e w1 ⟨rfl,rfl⟩)
   |(go_at_call 46;refine (HF.c3 _).mono ?_;rintro e w3 ⟨rfl,hb4⟩;replace hb3:=below_then hb3 hb3.size hb4;clear hb4)
   |(go_at_call 48;refine (HF.c4 H3.out _).mono ?_;rintro e w4 ⟨rfl,hb4⟩;replace hb3:=below_then hb3 hb3.size hb4;clear hb4)
   |(go_at_call 49;refine (HF.c5 _).mono ?_;rintro e w5 ⟨rfl,rfl⟩)
   |(go_at_call 50;refine (HRUN.out _ hb3).mono ?_;rintro e w6 ⟨⟨A,c,rfl,hread⟩,hb6⟩;replace hb3:=below_then (bytes_below hb3 hb3.size _ _) (bytes_below hb3 hb3.size _ _).size hb6;clear hb6))
 all_goals
  have hval:=runesOf_valid (bytesOf s);generalize hrs:runesOf (bytesOf s)=rs at *; have HRS:=Aside0.mk hrs;clear hrs;have HV:=Aside0.mk hval;have HRD:=Aside0.mk hread;have hmax:=hread.2.1;have hlen:=hread.1;clear hval hread hlen
  obtain ⟨w7,hw7⟩: ∃w7,w7=w6:=⟨_,rfl⟩
  go_loopw [42] (fun i wr=> ∃k:Nat,i= .int .i64 k∧k≤rs.length∧Aside0 ((rs.take k).all symCls=true)∧Aside0 (Below w6.heap.size w6 wr)) (fun i _=>rs.length-(intOf i).toNat)
  case atStart=>exact ⟨0,rfl,Nat.zero_le _,⟨rfl⟩,⟨Below.refl _ _⟩⟩
  case round=>
   obtain ⟨k,rfl,hk,HS,HB⟩:=hrel;by_cases hlt:k<rs.length
   · have hltI:(k:Int)<rs.length:=by omega
     obtain ⟨ad,rfl,hcell⟩:=(HRD.out.below HB.out).at_ k (by omega) hltI;rw [Int.toNat_natCast] at hcell
     have hv:Lib.validRune (rd rs k)=true:=HV.out _ (by
      have:rd rs k=rs[k]'hlt:=by simp [rd,List.getD_eq_getElem?_getD,List.getElem?_eq_getElem hlt]
      rw [this];exact List.getElem_mem hlt)
     obtain ⟨cl,hcl⟩: ∃cl,clsOf (rd rs k)=cl:=⟨_,rfl⟩
     have hcc: ∀W,Calls Tryz.prog 51 #[.int .i32 (rd rs k)] W fun e w'=>e= .returned (.tuple #[.int .i64 cl,.int .i64 0])∧Below W.heap.size W w':=fun W=>by rw [←hcl];exact class_good _ W hv
     have hsucc:=all_take_succ rs k hlt;rw [HS.out] at hsucc;by_cases hs:cl=9∨cl=7∨cl=8
     · have hsy:(rs.take (k+1)).all symCls=true:=by
        rw [hsucc];unfold symCls;rw [hcl];rcases hs with rfl|rfl|rfl<;>rfl
       have HC:=Aside0.mk hcc;have HSY:=Aside0.mk hsy;clear hcc hsucc hsy hv hcl
       rcases hs with rfl|rfl|rfl
       all_goals
        go_wp2_with (go_at_call 51;refine (HC.out _).mono ?_;rintro e w8 ⟨rfl,hb8⟩)
        go_roundw
        case rel=>exact ⟨k+1,by go_num,hlt,HSY,⟨below_then HB.out HB.out.size hb8⟩⟩
        case measure=>simp [intOf];omega
     · have hall:rs.all symCls=false:=all_false_of_take rs (k+1) (by
        rw [hsucc];unfold symCls;rw [hcl,beq_eq_false_iff_ne.mpr (fun e=>hs (.inl e)),beq_eq_false_iff_ne.mpr (fun e=>hs (.inr (.inl e))),beq_eq_false_iff_ne.mpr (fun e=>hs (.inr (.inr e)))];rfl)
       have n9:(cl==9)=false:=beq_eq_false_iff_ne.mpr (fun e=>hs (.inl e));have n7:(cl==7)=false:=beq_eq_false_iff_ne.mpr (fun e=>hs (.inr (.inl e)));have n8:(cl==8)=false:=beq_eq_false_iff_ne.mpr (fun e=>hs (.inr (.inr e)));have HC:=Aside0.mk hcc;have HA:=Aside0.mk hall;clear hcc hsucc hall hv hcl hs
       go_wp2_with (go_at_call 51;refine (HC.out _).mono ?_;rintro e w8 ⟨rfl,hb8⟩)
       go_ret;exact ⟨by rw [HRS.out,HA.out];rfl,below_then hb3 hb3.size (below_then HB.out HB.out.size hb8)⟩
   · have hk2:k=rs.length:=by omega
     have hall:rs.all symCls=true:=by have:=HS.out;rwa [hk2,List.take_length] at this
     have HA:=Aside0.mk hall;clear hall hk2;go_wp2;go_ret;exact ⟨by rw [HRS.out,HA.out];rfl,below_then hb3 hb3.size HB.out⟩
def data_Symbol.f (a0:ByteArray):Option (Bool):=some (symB a0)
theorem digits_ascii: ∀(j:Nat) b,(⟨#[48,49,50,51,52,53,54,55,56,57]⟩:ByteArray).data.toList[j]? =some b→b.toNat<128:=by
 intro j b h;have:=List.mem_of_getElem? h;simp at this
 rcases this with rfl|rfl|rfl|rfl|rfl|rfl|rfl|rfl|rfl|rfl<;>decide
theorem infoSet:(Tryz.prog.info? 101).map (fun i=>(i.zero,i.size))=some (some (.agg (Array.replicate 256 (.bool false))),256):=by kernel_rfl
theorem all_of_dropWhile {α:Type} (p:α→Bool): ∀l:List α,l.dropWhile p=[]→ ∀x∈l,p x=true
 |[],_,x,hx=>by simp at hx
 |y::l,h,x,hx=>by
  rw [List.dropWhile_cons] at h
  cases hp:p y with
  |false=>rw [hp] at h;simp at h
  |true=>
   rw [hp] at h
   rcases List.mem_cons.mp hx with rfl|hx
   · exact hp
   · exact all_of_dropWhile p l h x hx
theorem mem_trimPrefix (l:List UInt8) (c x:UInt8) (h:x∈l):x=c∨x∈Lib.trimPrefix l [c]:=by
 unfold Lib.trimPrefix Lib.hasPrefix
 cases l with
 |nil=>simp at h
 |cons y l=>
  by_cases e:([c]:List UInt8).isPrefixOf (y::l)=true
  · rw [if_pos e];simp at e
    rcases List.mem_cons.mp h with rfl|h
    · exact .inl e.symm
    · exact .inr (by simpa using h)
  · rw [if_neg e];exact .inr h
theorem digitsB_ascii (b:UInt8) (h:digitsB.contains b=true):b.toNat<128:=by
 simp [digitsB] at h
 rcases h with rfl|rfl|rfl|rfl|rfl|rfl|rfl|rfl|rfl|rfl<;>decide
theorem restB_ascii (l:List UInt8) (h:restB l=[]): ∀b∈l,b.toNat<128:=by
 intro b hb
 rcases mem_trimPrefix l 43 b hb with rfl|hb
 · decide
 · rcases mem_trimPrefix _ 45 b hb with rfl|hb
   · decide
   · exact digitsB_ascii b (all_of_dropWhile _ _ h b hb)
theorem ten_small:(⟨#[48,49,50,51,52,53,54,55,56,57]⟩:ByteArray).size<4294967281:=by
 have:(⟨#[48,49,50,51,52,53,54,55,56,57]⟩:ByteArray).size=10:=rfl;rw [this];omega
theorem small24 (n:Nat) (h: ¬(24:Int)<n):n<4294967281:=by omega
theorem data_Symbol.calls (a0:ByteArray) (r:Bool) (w:World) (hG:G0 w) (h:data_Symbol.f a0=some r):
 Calls Tryz.prog 22 #[.string a0] w fun e w'=>e= .returned (.bool r)∧Below w.heap.size w w':=by
 obtain rfl:=Option.some.inj h;by_cases h0:a0.size=0
 · obtain rfl:a0=⟨#[]⟩:=by
    obtain ⟨⟨l⟩⟩:=a0;cases l
    · rfl
    · simp [ByteArray.size] at h0
   have e:symB ⟨#[]⟩=false:=rfl;rw [e]
   exact (sym_empty w).mono fun e w' ⟨he,hw⟩=>⟨he,hw▸Below.refl _ _⟩
 · have h1:a0.toList.isEmpty=false:=by
    rw [Lib.toList_data];obtain ⟨⟨l⟩⟩:=a0;cases l
    · simp [ByteArray.size] at h0
    · rfl
   by_cases h2:(24:Int)<a0.size
   · have e:symB a0=false:=by unfold symB;rw [decide_eq_false (show ¬a0.size≤24 by omega)];simp
     rw [e]
     exact (sym_long a0 w h2 h1).mono fun e w' ⟨he,hw⟩=>⟨he,hw▸Below.refl _ _⟩
   · have e1:symB a0=(!intB a0.data.toList&&(okB (bytesOf a0)&&(runesOf (bytesOf a0)).all symCls)):=by
        unfold symB;rw [decide_eq_true (show 1≤a0.size by omega),decide_eq_true (show a0.size≤24 by omega)];rfl
     rw [e1]
     have HF:Front a0 ⟨(Lib.trimPrefix a0.data.toList [43]).toArray⟩ ⟨(Lib.trimPrefix (Lib.trimPrefix a0.data.toList [43]) [45]).toArray⟩ ⟨(restB a0.data.toList).toArray⟩ (Lib.containsAny a0.data.toList digitsB) (Lib.hasPrefix a0.data.toList [43,45]):=
        { c1:=fun W=>(Any.strings_TrimPrefix Tryz.lays101 a0 ⟨#[43]⟩ W).mono fun e w' ⟨he,hw⟩=>⟨he,hw.symm⟩
          c2:=fun W=>(Any.strings_TrimPrefix Tryz.lays101 ⟨(Lib.trimPrefix a0.data.toList [43]).toArray⟩ ⟨#[45]⟩ W).mono fun e w' ⟨he,hw⟩=>⟨he,hw.symm⟩
          c3:=fun W=>Any.strings_TrimLeft_laid Tryz.lays161 infoSet ⟨(Lib.trimPrefix (Lib.trimPrefix a0.data.toList [43]) [45]).toArray⟩ ⟨#[48,49,50,51,52,53,54,55,56,57]⟩ W ten_small digits_ascii
          c4:=fun h W=>Any.strings_ContainsAny_laid Tryz.lays150 infoSet a0 ⟨#[48,49,50,51,52,53,54,55,56,57]⟩ W (small24 _ h2) ten_small (fun j b hb=>restB_ascii a0.data.toList (by rw [Lib.toList_data] at h;simpa using h) b (List.mem_of_getElem? hb)) digits_ascii
          c5:=fun W=>(Any.strings_HasPrefix Tryz.lays99 a0 ⟨#[43,45]⟩ W).mono fun e w' ⟨he,hw⟩=>⟨he,hw.symm⟩ }
     have h3e:((⟨(restB a0.data.toList).toArray⟩:ByteArray).toList.isEmpty)=(restB a0.data.toList).isEmpty:=by rw [Lib.toList_data]
     cases hi:intB a0.data.toList with
     |true=>
      unfold intB at hi;simp only [Bool.and_eq_true,Bool.not_eq_true'] at hi;rw [hi.2.1,hi.2.2] at HF;exact sym_int a0 _ _ _ w h2 h1 HF (by rw [h3e];exact hi.1)
     |false=>
      have h3:(⟨(restB a0.data.toList).toArray⟩:ByteArray).toList.isEmpty=false∨((⟨(restB a0.data.toList).toArray⟩:ByteArray).toList.isEmpty=true∧Lib.containsAny a0.data.toList digitsB=false)∨((⟨(restB a0.data.toList).toArray⟩:ByteArray).toList.isEmpty=true∧Lib.containsAny a0.data.toList digitsB=true∧Lib.hasPrefix a0.data.toList [43,45]=true):=by
       rw [h3e];unfold intB at hi
       cases ha:(restB a0.data.toList).isEmpty<;>cases hb:Lib.containsAny a0.data.toList digitsB<;>cases hc:Lib.hasPrefix a0.data.toList [43,45]<;>simp [ha,hb,hc] at hi ⊢
      cases hok:okB (bytesOf a0) with
      |false=>exact sym_rest_no a0 _ _ _ _ _ w h2 h1 HF h3 hG hok
      |true=>exact sym_rest_yes a0 _ _ _ _ _ w h2 h1 HF h3 hG hok
end Go.Proofs.YtgmiekggdgmhkaaGreatDoor.Q
end
section
namespace Go.Proofs.YtgmiekggdgmhkaaGreatDoor.Q
open Go.RowKit Go.Proofs.YtgmiekggdgmhkaaGreatDoorW.PrintWords Go.Proofs.YtgmiekggdgmhkaaGreatDoorW.PrintLast Go.Proofs.YtgmiekggdgmhkaaGreatDoorW.PrintMore
attribute [local go_sem] max2_int min2_int max_two min_two max_three min_three max_four min_four
attribute [local go_sem high] eqA40
set_option linter.unusedVariables false
set_option linter.unusedSimpArgs false
def aloneF (k ki n:Int) (s:ByteArray):Int×Int:=
 if k=1 then (if ki=0∧s.size=0 then 0 else 6,0)
 else if k=2 then (if ki=0∧s.size=0 then 0 else 6,if n=0∨n=1 then 0 else 7)
 else if k=3 then (if ki=0∧n=0 then 0 else 6,if symB s=true then 0 else 6)
 else if k=4 then (if 0≤ki∧n=0∧s.size=0 then 0 else 6,0)
 else (6,0)
theorem toList_nil (s:ByteArray):(s.toList==([]:List UInt8))=decide (s.size=0):=by
 rw [Lib.toList_data,Bool.eq_iff_iff];simp only [beq_iff_eq,decide_eq_true_eq];obtain ⟨⟨l⟩⟩:=s
 cases l<;>simp [ByteArray.size]
set_option maxHeartbeats 2000000 in
set_option maxRecDepth 100000 in
theorem alone1 (a1 a2:Int) (a3:ByteArray) (w:World) (b1 b3:Bool) (h1:(a1==0)=b1) (h3:(a3.toList==([]:List UInt8))=b3):
 Calls Tryz.prog 36 #[.agg #[.int .i64 1,.int .i64 a1,.int .i64 a2,.string a3]] w fun e w'=>e= .returned (.tuple #[.int .i64 (if b1&&b3 then 0 else 6),.int .i64 0])∧Below w.heap.size w w':=by
 have hu51:=Tryz.underlying40
 cases b1<;>cases b3
 all_goals
  go_enter Tryz.func36,Tryz.ntmps36;go_wp2
 all_goals go_ret2
 all_goals first
  |exact ⟨rfl,by repeat (first|exact Below.refl _ _|apply below_alloc)⟩
  |(exfalso;simp_all;done)
  |(exfalso;simp_all;omega)
  |(exfalso;omega)
set_option maxHeartbeats 2000000 in
set_option maxRecDepth 100000 in
theorem alone4 (a1 a2:Int) (a3:ByteArray) (w:World) (b1 b2 b3:Bool) (h1:decide (0≤a1)=b1) (h2:(a2==0)=b2) (h3:(a3.toList==([]:List UInt8))=b3):
 Calls Tryz.prog 36 #[.agg #[.int .i64 4,.int .i64 a1,.int .i64 a2,.string a3]] w fun e w'=>e= .returned (.tuple #[.int .i64 (if b1&&(b2&&b3) then 0 else 6),.int .i64 0])∧Below w.heap.size w w':=by
 have hu51:=Tryz.underlying40
 have hm:max a1 0=if b1=true then a1 else 0:=by
  subst h1;by_cases h:0≤a1
  · rw [if_pos (decide_eq_true h)];omega
  · rw [if_neg (by simpa using h)];omega
 have he:(a1==0)=false∨b1=true:=by
  subst h1;by_cases h:a1=0
  · exact .inr (decide_eq_true (by omega))
  · exact .inl (beq_eq_false_iff_ne.mpr h)
 cases b1<;>cases b2<;>cases b3
 all_goals simp only [if_true,Bool.false_eq_true,if_false] at hm
 all_goals try (have he':(a1==0)=false:=he.resolve_right (by decide))
 all_goals
  clear he;go_enter Tryz.func36,Tryz.ntmps36;go_wp2
 all_goals go_ret2
 all_goals first
  |exact ⟨rfl,by repeat (first|exact Below.refl _ _|apply below_alloc)⟩
  |(exfalso;simp_all;done)
  |(exfalso;simp_all;omega)
  |(exfalso;omega)
theorem two_cells (w:World) (x0 x1 x2 y0 y1 y2:Int) (x3 y3:ByteArray) (X W1:World)
 (hX:X=(w.alloc (.cells #[.int .i64 x0,.int .i64 x1,.int .i64 x2,.string x3] 40)).alloc (.cells #[.int .i64 y0,.int .i64 y1,.int .i64 y2,.string y3] 40)) (hb:Below X.heap.size X W1):
 Aside0 (Below w.heap.size w W1)∧w.heap.size<W1.heap.size∧W1.cell? ⟨w.heap.size,0,none⟩=some (.int .i64 x0)∧W1.cell? ⟨w.heap.size,1,none⟩=some (.int .i64 x1)∧W1.cell? ⟨w.heap.size,2,none⟩=some (.int .i64 x2)∧W1.cell? ⟨w.heap.size,3,none⟩=some (.string x3)∧
 W1.cell? ⟨w.heap.size+1,0,none⟩=some (.int .i64 y0)∧W1.cell? ⟨w.heap.size+1,1,none⟩=some (.int .i64 y1)∧W1.cell? ⟨w.heap.size+1,2,none⟩=some (.int .i64 y2)∧W1.cell? ⟨w.heap.size+1,3,none⟩=some (.string y3):=by
 have h1:=blk_alloc (World.alloc_heap_new w (.cells #[.int .i64 x0,.int .i64 x1,.int .i64 x2,.string x3] 40)) (.cells #[.int .i64 y0,.int .i64 y1,.int .i64 y2,.string y3] 40);have h2:=World.alloc_heap_new (w.alloc (.cells #[.int .i64 x0,.int .i64 x1,.int .i64 x2,.string x3] 40)) (.cells #[.int .i64 y0,.int .i64 y1,.int .i64 y2,.string y3] 40);rw [World.size_alloc] at h2;rw [←hX] at h1 h2;have k1:=blk_below h1 hb;have k2:=blk_below h2 hb;have hs:=blk_lt k1
 have hB:Below w.heap.size w X:=by rw [hX];exact ((Below.refl _ w).alloc (Nat.le_refl _) _).alloc (by simp) _
 refine ⟨⟨hB.trans (hb.mono hB.size)⟩,hs,?_⟩;simp [blk_cell k1,blk_cell k2]
set_option maxHeartbeats 2000000 in
set_option maxRecDepth 100000 in
theorem alone3 (a1 a2:Int) (a3:ByteArray) (w:World) (b1 b2 b3:Bool) (h1:(a1==0)=b1) (h2:(a2==0)=b2) (h3:symB a3=b3) (hG:G0 w):
 Calls Tryz.prog 36 #[.agg #[.int .i64 3,.int .i64 a1,.int .i64 a2,.string a3]] w fun e w'=>e= .returned (.tuple #[.int .i64 (if b1&&b2 then 0 else 6),.int .i64 (if b3 then 0 else 6)])∧Below w.heap.size w w':=by
 have hu51:=Tryz.underlying40
 have hc: ∀W,Below w.heap.size w W→Calls Tryz.prog 22 #[.string a3] W fun e w'=>e= .returned (.bool b3)∧Below W.heap.size W w':=fun W hb=>by
  rw [←h3];exact data_Symbol.calls a3 _ W (G0_keep hG hb) rfl
 have hself:(a3.toList==a3.toList)=true:=by simp
 have HC:=Aside0.mk hc;clear hc hG h3
 cases b1<;>cases b2<;>cases b3
 all_goals
  go_enter Tryz.func36,Tryz.ntmps36
  go_wp2_with (go_at_call 22;refine (HC.out _ (by repeat (first|exact Below.refl _ _|apply below_alloc))).mono ?_;rintro e w1 ⟨rfl,hb1⟩;obtain ⟨HB,hsz,hx0,hx1,hx2,hx3,hy0,hy1,hy2,hy3⟩:=two_cells w _ _ _ _ _ _ _ _ _ _ rfl hb1;clear hb1)
 all_goals go_ret2
 all_goals first
  |exact ⟨rfl,HB.out⟩
  |(exfalso;simp_all;done)
  |(exfalso;simp_all;omega)
  |trace_state
set_option maxHeartbeats 2000000 in
set_option maxRecDepth 100000 in
theorem alone2 (a1 a2:Int) (a3:ByteArray) (w:World) (b1 b3:Bool) (h1:(a1==0)=b1) (h3:(a3.toList==([]:List UInt8))=b3) (hn:a2=0∨a2=1):
 Calls Tryz.prog 36 #[.agg #[.int .i64 2,.int .i64 a1,.int .i64 a2,.string a3]] w fun e w'=>e= .returned (.tuple #[.int .i64 (if b1&&b3 then 0 else 6),.int .i64 0])∧Below w.heap.size w w':=by
 have hu51:=Tryz.underlying40
 rcases hn with rfl|rfl<;>cases b1<;>cases b3
 all_goals
  go_enter Tryz.func36,Tryz.ntmps36;go_wp2
 all_goals go_ret2
 all_goals first
  |exact ⟨rfl,by repeat (first|exact Below.refl _ _|apply below_alloc)⟩
  |(exfalso;simp_all;done)
  |(exfalso;simp_all;omega)
  |(exfalso;omega)
set_option maxHeartbeats 2000000 in
set_option maxRecDepth 100000 in
theorem alone2b (a1 a2:Int) (a3:ByteArray) (w:World) (b1 b3:Bool) (h1:(a1==0)=b1) (h3:(a3.toList==([]:List UInt8))=b3) (hn: ¬(a2=0∨a2=1)):
 Calls Tryz.prog 36 #[.agg #[.int .i64 2,.int .i64 a1,.int .i64 a2,.string a3]] w fun e w'=>e= .returned (.tuple #[.int .i64 (if b1&&b3 then 0 else 6),.int .i64 7])∧Below w.heap.size w w':=by
 have hu51:=Tryz.underlying40;have hne:(a2 / 2 != 0)=true:=bne_iff_ne.mpr (by omega)
 cases b1<;>cases b3
 all_goals
  go_enter Tryz.func36,Tryz.ntmps36;go_wp2
 all_goals go_ret2
 all_goals first
  |exact ⟨rfl,by repeat (first|exact Below.refl _ _|apply below_alloc)⟩
  |(exfalso;simp_all;done)
  |(exfalso;simp_all;omega)
  |(exfalso;omega)
set_option maxHeartbeats 2000000 in
set_option maxRecDepth 100000 in
theorem alone0 (a0 a1 a2:Int) (a3:ByteArray) (w:World) (h1:(a0==1)=false) (h2:(a0==2)=false) (h3:(a0==3)=false) (h4:(a0==4)=false):
 Calls Tryz.prog 36 #[.agg #[.int .i64 a0,.int .i64 a1,.int .i64 a2,.string a3]] w fun e w'=>e= .returned (.tuple #[.int .i64 6,.int .i64 0])∧Below w.heap.size w w':=by
 have hu51:=Tryz.underlying40;go_enter Tryz.func36,Tryz.ntmps36;go_wp2
 trace_state
 go_ret2;exact ⟨rfl,by repeat (first|exact Below.refl _ _|apply below_alloc)⟩
theorem sel0 (p:Prop) [Decidable p] (b:Bool) (h:b=decide p):(if b=true then (0:Int) else 6)=if p then 0 else 6:=by
 subst h;by_cases hp:p
 · rw [if_pos hp,if_pos (decide_eq_true hp)]
 · rw [if_neg hp,if_neg (by simpa using hp)]
def data_alone.f (a0_0:Int) (a0_1:Int) (a0_2:Int) (a0_3:ByteArray):Option (Int×Int):=some (aloneF a0_0 a0_1 a0_2 a0_3)
theorem data_alone.calls (a0_0:Int) (a0_1:Int) (a0_2:Int) (a0_3:ByteArray) (r1:Int) (r2:Int) (w:World) (hG:G0 w) (h:data_alone.f a0_0 a0_1 a0_2 a0_3=some (r1,r2)):
 Calls Tryz.prog 36 #[.agg #[.int .i64 a0_0,.int .i64 a0_1,.int .i64 a0_2,.string a0_3]] w fun e w'=>e= .returned (.tuple #[.int .i64 r1,.int .i64 r2])∧Below w.heap.size w w':=by
 have h2:aloneF a0_0 a0_1 a0_2 a0_3=(r1,r2):=Option.some.inj h;unfold aloneF at h2;have hs:=toList_nil a0_3;by_cases c1:a0_0=1
 · subst c1;rw [if_pos rfl] at h2;obtain ⟨rfl,rfl⟩:=Prod.mk.inj h2;have:=alone1 a0_1 a0_2 a0_3 w _ _ rfl hs
   rwa [sel0 (a0_1=0∧a0_3.size=0) _ (by rw [Bool.eq_iff_iff];simp)] at this
 rw [if_neg c1] at h2;by_cases c2:a0_0=2
 · subst c2;rw [if_pos rfl] at h2;obtain ⟨rfl,rfl⟩:=Prod.mk.inj h2;by_cases hn:a0_2=0∨a0_2=1
   · have:=alone2 a0_1 a0_2 a0_3 w _ _ rfl hs hn;rw [if_pos hn]
     rwa [sel0 (a0_1=0∧a0_3.size=0) _ (by rw [Bool.eq_iff_iff];simp)] at this
   · have:=alone2b a0_1 a0_2 a0_3 w _ _ rfl hs hn;rw [if_neg hn]
     rwa [sel0 (a0_1=0∧a0_3.size=0) _ (by rw [Bool.eq_iff_iff];simp)] at this
 rw [if_neg c2] at h2;by_cases c3:a0_0=3
 · subst c3;rw [if_pos rfl] at h2;obtain ⟨rfl,rfl⟩:=Prod.mk.inj h2;have:=alone3 a0_1 a0_2 a0_3 w _ _ _ rfl rfl rfl hG
   rwa [sel0 (a0_1=0∧a0_2=0) _ (by rw [Bool.eq_iff_iff];simp)] at this
 rw [if_neg c3] at h2;by_cases c4:a0_0=4
 · subst c4;rw [if_pos rfl] at h2;obtain ⟨rfl,rfl⟩:=Prod.mk.inj h2;have:=alone4 a0_1 a0_2 a0_3 w _ _ _ rfl rfl hs
   rwa [sel0 (0≤a0_1∧a0_2=0∧a0_3.size=0) _ (by rw [Bool.eq_iff_iff];simp)] at this
 rw [if_neg c4] at h2;obtain ⟨rfl,rfl⟩:=Prod.mk.inj h2;exact alone0 a0_0 a0_1 a0_2 a0_3 w (beq_eq_false_iff_ne.mpr c1) (beq_eq_false_iff_ne.mpr c2) (beq_eq_false_iff_ne.mpr c3) (beq_eq_false_iff_ne.mpr c4)
end Go.Proofs.YtgmiekggdgmhkaaGreatDoor.Q
end
section
namespace Go.Proofs.YtgmiekggdgmhkaaGreatDoor.Q
open Go.RowKit Go.Proofs.YtgmiekggdgmhkaaGreatDoorW.PrintWords Go.Proofs.YtgmiekggdgmhkaaGreatDoorW.PrintLast Go.Proofs.YtgmiekggdgmhkaaGreatDoorW.PrintMore
attribute [local go_sem] max2_int min2_int max_two min_two max_three min_three max_four min_four
set_option linter.unusedVariables false
set_option linter.unusedSimpArgs false
mutual
def data_Check.l0:Nat→List (S40)→List Int→List (S40)→Int→Int→Option (Int×Int)
 |0,_,_,_,_,_=>none
 |k+1,x0,x4,x18,x19,x20=>if x20<x19 then (if 0≤x20 then (if x20<(x18.length:Int) then ((data_alone.f ((rd_T40 x18 x20).f0) ((rd_T40 x18 x20).f1) ((rd_T40 x18 x20).f2) ((rd_T40 x18 x20).f3)).bind fun bt110=>(if (x4.length:Int)=0 then (data_Check.j1 k x0 x4 x20 bt110.2 x18 x19 x20 true ((rd_T40 x18 x20).f0) ((rd_T40 x18 x20).f1) ((rd_T40 x18 x20).f2) ((rd_T40 x18 x20).f3)) else (data_Check.j1 k x0 x4 x20 bt110.2 x18 x19 x20 (bt110.1 != 0) ((rd_T40 x18 x20).f0) ((rd_T40 x18 x20).f1) ((rd_T40 x18 x20).f2) ((rd_T40 x18 x20).f3)))) else (none)) else (none)) else (if (x4.length:Int)>0 then (some ((x0.length:Int),6)) else (some (0,0)))
def data_Check.j1:Nat→List (S40)→List Int→Int→Int→List (S40)→Int→Int→Bool→Int→Int→Int→ByteArray→Option (Int×Int)
 |0,_,_,_,_,_,_,_,_,_,_,_,_=>none
 |k+1,x0,x4,x5,x8,x18,x19,x20,x30,x110000,x110001,x110002,x110003=>if x30=true then (some (x5,6)) else (if (x4.length:Int)>33 then (some (x5,3)) else (if x8=0 then (if 0≤(wrap64 ((x4.length:Int)-1)) then (if (wrap64 ((x4.length:Int)-1))<(x4.length:Int) then ((some (x4.set ((wrap64 ((x4.length:Int)-1)):Int).toNat (wrap64 ((rd x4 (wrap64 ((x4.length:Int)-1)))-1)):List Int)).bind fun y113=>(if y113.length<17592186044416 then (data_Check.l1 k x0 (y113++[x110001]) x18 x19 x20) else (none))) else (none)) else (none)) else (some (x5,x8))))
def data_Check.l1:Nat→List (S40)→List Int→List (S40)→Int→Int→Option (Int×Int)
 |0,_,_,_,_,_=>none
 |k+1,x0,x4,x18,x19,x20=>if (x4.length:Int)>0 then (if 0≤(wrap64 ((x4.length:Int)-1)) then (if (wrap64 ((x4.length:Int)-1))<(x4.length:Int) then (if (rd x4 (wrap64 ((x4.length:Int)-1)))=0 then (if (wrap64 ((x4.length:Int)-1))≤(x4.length:Int) then (data_Check.l1 k x0 (x4.take ((wrap64 ((x4.length:Int)-1)):Int).toNat) x18 x19 x20) else (none)) else (data_Check.l0 k x0 x4 x18 x19 (wrap64 (x20+1)))) else (none)) else (none)) else (data_Check.l0 k x0 x4 x18 x19 (wrap64 (x20+1)))
end
def data_Check.f (k:Nat) (l0:List (S40)):Option (Int×Int):=if (l0.length:Int)=0 then (some (0,6)) else (if (l0.length:Int)>400 then (some (0,3)) else (data_Check.l0 k l0 (([1]:List Int)) l0 (l0.length:Int) 0))
theorem data_Check.mono_l: ∀k,(∀y0 y1 y2 y3 y4,LeO (data_Check.l0 k y0 y1 y2 y3 y4) (data_Check.l0 (k+1) y0 y1 y2 y3 y4))∧(∀y0 y1 y2 y3 y4 y5 y6 y7 y8 y9 y10 y11,LeO (data_Check.j1 k y0 y1 y2 y3 y4 y5 y6 y7 y8 y9 y10 y11) (data_Check.j1 (k+1) y0 y1 y2 y3 y4 y5 y6 y7 y8 y9 y10 y11))∧(∀y0 y1 y2 y3 y4,LeO (data_Check.l1 k y0 y1 y2 y3 y4) (data_Check.l1 (k+1) y0 y1 y2 y3 y4))
 |0=>⟨fun _ _ _ _ _ r h=>by simp [data_Check.l0] at h,fun _ _ _ _ _ _ _ _ _ _ _ _ r h=>by simp [data_Check.j1] at h,fun _ _ _ _ _ r h=>by simp [data_Check.l1] at h⟩
 |k+1=>by
  obtain ⟨ih0,ih1,ih2⟩:=data_Check.mono_l k;refine ⟨?_,?_,?_⟩
  · intro y0 y1 y2 y3 y4;unfold data_Check.l0
    repeat' first
    |(with_reducible exact ih0 _ _ _ _ _)
    |(with_reducible exact ih1 _ _ _ _ _ _ _ _ _ _ _ _)
    |(with_reducible exact ih2 _ _ _ _ _)
    |(with_reducible exact LeO.refl _)
    |(with_reducible exact LeO.none _)
    |(with_reducible refine LeO.ite ?_ ?_)
    |(with_reducible refine LeO.bind ?_ (fun _=>?_))
    |exact ih0 _ _ _ _ _
    |exact ih1 _ _ _ _ _ _ _ _ _ _ _ _
    |exact ih2 _ _ _ _ _
    |exact LeO.none _
    |refine LeO.ite ?_ ?_
    |refine LeO.bind ?_ (fun _=>?_)
  · intro y0 y1 y2 y3 y4 y5 y6 y7 y8 y9 y10 y11;unfold data_Check.j1
    repeat' first
    |(with_reducible exact ih0 _ _ _ _ _)
    |(with_reducible exact ih1 _ _ _ _ _ _ _ _ _ _ _ _)
    |(with_reducible exact ih2 _ _ _ _ _)
    |(with_reducible exact LeO.refl _)
    |(with_reducible exact LeO.none _)
    |(with_reducible refine LeO.ite ?_ ?_)
    |(with_reducible refine LeO.bind ?_ (fun _=>?_))
    |exact ih0 _ _ _ _ _
    |exact ih1 _ _ _ _ _ _ _ _ _ _ _ _
    |exact ih2 _ _ _ _ _
    |exact LeO.none _
    |refine LeO.ite ?_ ?_
    |refine LeO.bind ?_ (fun _=>?_)
  · intro y0 y1 y2 y3 y4;unfold data_Check.l1
    repeat' first
    |(with_reducible exact ih0 _ _ _ _ _)
    |(with_reducible exact ih1 _ _ _ _ _ _ _ _ _ _ _ _)
    |(with_reducible exact ih2 _ _ _ _ _)
    |(with_reducible exact LeO.refl _)
    |(with_reducible exact LeO.none _)
    |(with_reducible refine LeO.ite ?_ ?_)
    |(with_reducible refine LeO.bind ?_ (fun _=>?_))
    |exact ih0 _ _ _ _ _
    |exact ih1 _ _ _ _ _ _ _ _ _ _ _ _
    |exact ih2 _ _ _ _ _
    |exact LeO.none _
    |refine LeO.ite ?_ ?_
    |refine LeO.bind ?_ (fun _=>?_)
theorem data_Check.mono: ∀a0 k,LeO (data_Check.f k a0) (data_Check.f (k+1) a0):=by
 intro a0 k;obtain ⟨ih0,ih1,ih2⟩:=data_Check.mono_l k;unfold data_Check.f
 repeat' first
  |(with_reducible exact ih0 _ _ _ _ _)
  |(with_reducible exact ih1 _ _ _ _ _ _ _ _ _ _ _ _)
  |(with_reducible exact ih2 _ _ _ _ _)
  |(with_reducible exact LeO.refl _)
  |(with_reducible exact LeO.none _)
  |(with_reducible refine LeO.ite ?_ ?_)
  |(with_reducible refine LeO.bind ?_ (fun _=>?_))
  |exact ih0 _ _ _ _ _
  |exact ih1 _ _ _ _ _ _ _ _ _ _ _ _
  |exact ih2 _ _ _ _ _
  |exact LeO.none _
  |refine LeO.ite ?_ ?_
  |refine LeO.bind ?_ (fun _=>?_)
set_option maxHeartbeats 8000000 in
set_option maxRecDepth 100000 in
theorem data_Check.calls (k:Nat) (A0:Option Addr) (c0:Nat) (l0:List (S40)) (r1:Int) (r2:Int) (w:World) (hr0:Kd.C k40 w A0 l0.length l0) (hc0:l0.length≤c0) (hG:G0 w) (h:data_Check.f k l0=some (r1,r2)):
 Calls Tryz.prog 15 #[.slice A0 l0.length c0] w fun e w'=>e= .returned (.tuple #[.int .i64 r1,.int .i64 r2])∧Below w.heap.size w w':=by
 have hu40:=Tryz.underlying40;have HGl:=Aside0.mk hG;clear hG;have HR0:=Aside0.mk hr0;have HC0:=Aside0.mk hc0;clear hr0 hc0;have HB:=Aside0.mk (Below.refl w.heap.size w);have H:(if (l0.length:Int)=0 then (some (0,6)) else (if (l0.length:Int)>400 then (some (0,3)) else (data_Check.l0 k l0 (([1]:List Int)) l0 (l0.length:Int) 0)))=some (r1,r2):=h;clear h;by_cases c2:(l0.length:Int)=0
 · rw [if_pos c2] at H;have c2b0:((l0.length:Int)==0)=true:=beq_iff_eq.mpr c2;have c2b1:((l0.length:Int) != 0)=false:=bne_eq_false_iff_eq.mpr c2;clear c2;simp only [Option.some.injEq,Prod.mk.injEq] at H;obtain ⟨rfl,rfl⟩:=H;go_enter Tryz.func15,Tryz.ntmps15;go_wp2;go_ret2;exact ⟨by first|rfl|(simp [errW_none,errW_some]<;>rfl)|(simp [*, errW_none,errW_some]<;>rfl),by repeat (first|(with_reducible first|exact HB.out|apply below_alloc|apply pw_below_drewN|apply below_drew1)|exact HB.out)⟩
 · rw [if_neg c2] at H;have c2b0:((l0.length:Int)==0)=false:=beq_eq_false_iff_ne.mpr c2;have c2b1:((l0.length:Int) != 0)=true:=bne_iff_ne.mpr c2
   have c2b2: ¬(l0=[]):=fun h_=>c2 (by rw [h_];rfl)
   by_cases c3:(l0.length:Int)>400
   · rw [if_pos c3] at H;have c3b0:decide (400<(l0.length:Int))=true:=decide_eq_true c3;have c3b1:decide (400<l0.length)=true:=decide_eq_true (by omega);clear c3;simp only [Option.some.injEq,Prod.mk.injEq] at H;obtain ⟨rfl,rfl⟩:=H;go_enter Tryz.func15,Tryz.ntmps15;go_wp2;go_ret2;exact ⟨by first|rfl|(simp [errW_none,errW_some]<;>rfl)|(simp [*, errW_none,errW_some]<;>rfl),by repeat (first|(with_reducible first|exact HB.out|apply below_alloc|apply pw_below_drewN|apply below_drew1)|exact HB.out)⟩
   · rw [if_neg c3] at H;have c3b0:decide (400<(l0.length:Int))=false:=decide_eq_false c3;have c3b1:decide (400<l0.length)=false:=decide_eq_false (by omega);clear c3
     obtain ⟨y105,hy105⟩: ∃y_:List Int,y_=(([1]:List Int)):=⟨_,rfl⟩
     replace H:(data_Check.l0 k l0 y105 l0 (l0.length:Int) 0)=some (r1,r2):=by first|(rw [hy105];with_reducible exact H)|(have H2_:=(Option.bind_some _ _).symm.trans H;rw [hy105];with_reducible exact H2_)|(have H2_:=(Option.bind_some _ _).symm.trans H;with_reducible exact H2_)|with_reducible exact H|(rw [hy105];exact H)|exact H
     have Ny105:=Aside0.mk hy105;clear hy105;have H':=Aside0.mk H;clear H;go_enter Tryz.func15,Tryz.ntmps15
     go_wp2_with (first|((with_reducible refine gate_dst (N:=17) rfl ?_);(try (refine gate_guard (by rfl) ?_;dsimp only));refine Kd.R_lit (Kd.int .i64) _ 3 ?hg (N:=17) ?hd (xs:=([1]:List Int)) (inner:=[.int .i64 1]) (ok:=fun _=>True) (okp:=fun _=>True) ?hr ?hp (fun _ hk=>hk) trivial (Below.refl _ _) (Nat.le_refl _) (by simp) ?_;(case hd=>rfl);(case hg=>rfl);(case hr=>first|(go_simp;done)|(go_simp;rfl));(case hp=>exact (Reps.one (show Kd.M (Kd.int .i64) _ _ _ 1 [.int .i64 1] from rfl) (Reps.none _ _)));intro v106 w4 ho5 hb hg_ hnew_;clear hg_ hnew_;(first|rw [←Ny105.out] at ho5|(simp only [Int.reduceToNat] at ho5;rw [←Ny105.out] at ho5));have n0_:=Aside0.mk (Kd.R_lower ho5 (below_size (by repeat (first|(with_reducible first|exact HB.out|apply below_alloc|apply pw_below_drewN|apply below_drew1)|exact HB.out))));have n1_:=Aside0.mk (below_step (by repeat (first|(with_reducible first|exact HB.out|apply below_alloc|apply pw_below_drewN|apply below_drew1)|exact HB.out)) hb);clear HB;have HO107:=n0_;have HB:=n1_;clear n0_ n1_;clear hb ho5))
     go_loopg [4,20] k (fun kq v4 v20 w'=> ∃(x4_1:List Int) (x20_1:Int),v20= .int .i64 x20_1∧Aside0 (data_Check.l0 kq l0 x4_1 l0 (l0.length:Int) x20_1=some (r1,r2))∧Aside0 (kq≤k)∧Aside0 (Kd.R (Kd.int .i64) 3 w' w.heap.size (fun _=>True) v4 x4_1)∧Aside0 (Below w.heap.size w w'))
     case atStart=>exact ⟨(y105),(0),(by first|rfl|(simp;done)|(simp [*];done)),H',⟨Nat.le_refl _⟩,⟨by (with_reducible repeat (first|apply Kd.R_alloc|apply Kd.R_drewN|apply Kd.R_drew));exact HO107.out⟩,⟨by repeat (first|(with_reducible first|exact HB.out|apply below_alloc|apply pw_below_drewN|apply below_drew1)|exact HB.out)⟩⟩
     case round=>
       clear H'
       try clear c1
       try clear c2
       try clear c2b0
       try clear c2b1
       try clear c2b2
       try clear p2
       try clear c3
       try clear c3b0
       try clear c3b1
       obtain ⟨x4_1,x20_1,rfl,HA,HK1,HO_4,HB⟩:=hrel
       cases gk with
       |zero=>exact absurd HA.out (by simp [data_Check.l0])
       |succ k1=>
        have H:=HA.out;clear HA;simp only [data_Check.l0] at H;by_cases c6:x20_1<(l0.length:Int)
        · rw [if_pos c6] at H;have c6b0:decide (x20_1<(l0.length:Int))=true:=decide_eq_true c6;clear c6;by_cases c7:0≤x20_1
          · rw [if_pos c7] at H;have c7b0:decide (0≤x20_1)=true:=decide_eq_true c7;clear c7;by_cases c8:x20_1<(l0.length:Int)
            · rw [if_pos c8] at H;have c8b0:decide (x20_1<(l0.length:Int))=true:=decide_eq_true c8;clear c8;replace H:=Option.bind_eq_some_iff.mp H;obtain ⟨⟨t110,t111⟩,A90,H⟩:=H;replace H:(if (x4_1.length:Int)=0 then (data_Check.j1 k1 l0 x4_1 x20_1 t111 l0 (l0.length:Int) x20_1 true ((rd_T40 l0 x20_1).f0) ((rd_T40 l0 x20_1).f1) ((rd_T40 l0 x20_1).f2) ((rd_T40 l0 x20_1).f3)) else (data_Check.j1 k1 l0 x4_1 x20_1 t111 l0 (l0.length:Int) x20_1 (t110 != 0) ((rd_T40 l0 x20_1).f0) ((rd_T40 l0 x20_1).f1) ((rd_T40 l0 x20_1).f2) ((rd_T40 l0 x20_1).f3)))=some (r1,r2):=H;have A9:=Aside0.mk A90;clear A90;have HC10:=Aside0.mk H;clear H;have p108:0≤(x20_1:Int):=of_decide_eq_true (by first|(with_reducible assumption)|assumption);have q108:x20_1<(l0.length:Int):=of_decide_eq_true (by first|(with_reducible assumption)|assumption);obtain ⟨ad108,e108,hx108_0,hx108_1,hx108_2,hx108_3⟩:=at_T40 HR0.out x20_1 p108 q108;cases e108;replace hx108_0:=(HB.out.cell (World.block_lt_of_cell? w _ hx108_0)).trans hx108_0;replace hx108_1:=(HB.out.cell (World.block_lt_of_cell? w _ hx108_1)).trans hx108_1;replace hx108_2:=(HB.out.cell (World.block_lt_of_cell? w _ hx108_2)).trans hx108_2;replace hx108_3:=(HB.out.cell (World.block_lt_of_cell? w _ hx108_3)).trans hx108_3;replace p108:=eq_true p108;replace q108:=eq_true q108
              go_upto_region 10 with (first|((with_reducible refine gate_dst (N:=6) rfl ?_);(try (refine gate_guard (by rfl) ?_;dsimp only));refine box_event ?hg (N:=6) ?hd (cs:= #[.int .i64 0,.int .i64 0,.int .i64 0,.string (⟨#[]⟩:ByteArray)]) (t:=40) ?hr ?_;(case hd=>rfl);(case hg=>rfl);(case hr=>first|(go_simp;done)|(go_simp;rfl));intro gb109 hg w11 hbox hb;have n0_:=Aside0.mk (Kd.R_below (by (with_reducible repeat (first|apply Kd.R_alloc|apply Kd.R_drewN|apply Kd.R_drew));exact HO_4.out) hb);have n1_:=Aside0.mk (below_step (by repeat (first|(with_reducible first|exact HB.out|apply below_alloc|apply pw_below_drewN|apply below_drew1)|exact HB.out)) hb);have n2_:=Aside0.mk (hbox);have n3_:=Aside0.mk ((by rw [hg];exact (below_size (by repeat (first|(with_reducible first|exact HB.out|apply below_alloc|apply pw_below_drewN|apply below_drew1)|exact HB.out))):w.heap.size≤gb109));have n4_:=Aside0.mk ((by rw [hg];exact (below_size (by repeat (first|(with_reducible first|exact HB.out|apply below_alloc|apply pw_below_drewN|apply below_drew1)|exact HB.out))):w.heap.size≤gb109));clear HO_4;clear HB;have HO_4:=n0_;have HB:=n1_;have BK109:=n2_;have GW109:=n3_;have GE109:=n4_;clear n0_ n1_ n2_ n3_ n4_;clear hb hbox hg;have hcz12_0:w11.cell? ⟨gb109,0,none⟩=some (.int .i64 0):=(blk_cell BK109.out 0).trans rfl;have hcz12_1:w11.cell? ⟨gb109,1,none⟩=some (.int .i64 0):=(blk_cell BK109.out 1).trans rfl;have hcz12_2:w11.cell? ⟨gb109,2,none⟩=some (.int .i64 0):=(blk_cell BK109.out 2).trans rfl;have hcz12_3:w11.cell? ⟨gb109,3,none⟩=some (.string (⟨#[]⟩:ByteArray)):=(blk_cell BK109.out 3).trans rfl;have hfz12_0:=blk_frozen BK109.out 0;have hfz12_1:=blk_frozen BK109.out 1;have hfz12_2:=blk_frozen BK109.out 2;have hfz12_3:=blk_frozen BK109.out 3)|((with_reducible refine gate_callee (f:=36) rfl ?_);refine goesL_ (some 27) rfl rfl Tryz.func36 (by kernel_rfl) rfl #[.agg #[.int .i64 ((rd_T40 l0 x20_1).f0),.int .i64 ((rd_T40 l0 x20_1).f1),.int .i64 ((rd_T40 l0 x20_1).f2),.string ((rd_T40 l0 x20_1).f3)]] rfl (by (try simp only [List.map_toArray,List.map_cons,List.map_nil]);first|done|rfl|(simp only [List.length_drop,List.length_take];rfl)) ?_;(with_reducible refine (data_alone.calls ((rd_T40 l0 x20_1).f0) ((rd_T40 l0 x20_1).f1) ((rd_T40 l0 x20_1).f2) ((rd_T40 l0 x20_1).f3) t110 t111 _ ?side1 A9.out).mono ?_);(case side1=>exact G0_keep HGl.out (by repeat (first|(with_reducible first|exact HB.out|apply below_alloc|apply pw_below_drewN|apply below_drew1|refine below_set ?_ GE109.out)|exact HB.out)));rintro e w13 ⟨rfl,hb⟩;refine ⟨_,rfl,?_⟩;have n0_:=Aside0.mk (Kd.R_below (by (with_reducible repeat (first|apply Kd.R_alloc|apply Kd.R_drewN|apply Kd.R_drew));exact (Kd.R_mono (Kd.R_far (p:=⟨gb109,3,none⟩) (Kd.R_far (p:=⟨gb109,2,none⟩) (Kd.R_far (p:=⟨gb109,1,none⟩) (Kd.R_far (p:=⟨gb109,0,none⟩) (Kd.R_types HO_4.out BK109.out (by decide)) (fun _ hk=>hk.2) (.int .i64 ((rd_T40 l0 x20_1).f0))) (fun _ hk=>hk.2) (.int .i64 ((rd_T40 l0 x20_1).f1))) (fun _ hk=>hk.2) (.int .i64 ((rd_T40 l0 x20_1).f2))) (fun _ hk=>hk.2) (.string ((rd_T40 l0 x20_1).f3))) (fun _ h_=>h_.1))) hb);have n1_:=Aside0.mk (blk_below (g:=gb109) (o:= .cells #[.int .i64 ((rd_T40 l0 x20_1).f0),.int .i64 ((rd_T40 l0 x20_1).f1),.int .i64 ((rd_T40 l0 x20_1).f2),.string ((rd_T40 l0 x20_1).f3)] 40 (0,0)) (by (with_reducible repeat (first|refine blk_drewN ?_ _|refine blk_drew ?_|refine blk_alloc ?_ _));refine blk_put (cs:= #[.int .i64 ((rd_T40 l0 x20_1).f0),.int .i64 ((rd_T40 l0 x20_1).f1),.int .i64 ((rd_T40 l0 x20_1).f2),.string (⟨#[]⟩:ByteArray)]) ?_ 3 _ rfl;(with_reducible repeat (first|refine blk_drewN ?_ _|refine blk_drew ?_|refine blk_alloc ?_ _));refine blk_put (cs:= #[.int .i64 ((rd_T40 l0 x20_1).f0),.int .i64 ((rd_T40 l0 x20_1).f1),.int .i64 0,.string (⟨#[]⟩:ByteArray)]) ?_ 2 _ rfl;(with_reducible repeat (first|refine blk_drewN ?_ _|refine blk_drew ?_|refine blk_alloc ?_ _));refine blk_put (cs:= #[.int .i64 ((rd_T40 l0 x20_1).f0),.int .i64 0,.int .i64 0,.string (⟨#[]⟩:ByteArray)]) ?_ 1 _ rfl;(with_reducible repeat (first|refine blk_drewN ?_ _|refine blk_drew ?_|refine blk_alloc ?_ _));refine blk_put (cs:= #[.int .i64 0,.int .i64 0,.int .i64 0,.string (⟨#[]⟩:ByteArray)]) ?_ 0 _ rfl;(with_reducible repeat (first|refine blk_drewN ?_ _|refine blk_drew ?_|refine blk_alloc ?_ _));exact BK109.out) hb);have n2_:=Aside0.mk (below_step (by repeat (first|(with_reducible first|exact HB.out|apply below_alloc|apply pw_below_drewN|apply below_drew1|refine below_set ?_ GE109.out)|exact HB.out)) hb);clear HO_4;clear BK109;clear HB;have HO_4:=n0_;have BK109:=n1_;have HB:=n2_;clear n0_ n1_ n2_;(try clear hb);(try clear hb2);(try clear hk);(try clear hi)))
              (try simp only [Act.put,List.setIfInBounds_toArray,List.set_cons_zero,List.set_cons_succ])
              go_cut [30] (fun v30 wc=> ∃(kq:Nat) (x30_9:Bool),v30= .bool x30_9∧Aside0 (data_Check.j1 kq l0 x4_1 x20_1 t111 l0 (l0.length:Int) x20_1 x30_9 ((rd_T40 l0 x20_1).f0) ((rd_T40 l0 x20_1).f1) ((rd_T40 l0 x20_1).f2) ((rd_T40 l0 x20_1).f3)=some (r1,r2))∧Aside0 (kq≤k1)∧Aside0 (Kd.R (Kd.int .i64) 3 wc w.heap.size (fun _=>True) u4 x4_1)∧Aside0 (wc.heap[gb109]? =some (.cells #[.int .i64 ((rd_T40 l0 x20_1).f0),.int .i64 ((rd_T40 l0 x20_1).f1),.int .i64 ((rd_T40 l0 x20_1).f2),.string ((rd_T40 l0 x20_1).f3)] 40 (0,0)))∧Aside0 (Below w.heap.size w wc))
              case first=>
                have H:=HC10.out;clear HC10;by_cases c14:(x4_1.length:Int)=0
                · rw [if_pos c14] at H;have c14b0:((x4_1.length:Int)==0)=true:=beq_iff_eq.mpr c14;have c14b1:((x4_1.length:Int) != 0)=false:=bne_eq_false_iff_eq.mpr c14;clear c14
                  (first|rw [c14b0]|(simp only [i64_w,i32_w];rw [c14b0])|skip)
                  have H':=Aside0.mk H;clear H;obtain ⟨Ao15,co15,eo15⟩:=Kd.R_slice HO_4.out;subst eo15;go_wp2
                  go_meet
                  case rel=>exact ⟨_,(true),(by first|rfl|(simp;done)|(simp [*];done)),H',⟨by have:=HK1.out;first|omega|exact Nat.le_refl _⟩,⟨by (with_reducible repeat (first|apply Kd.R_alloc|apply Kd.R_drewN|apply Kd.R_drew));exact HO_4.out⟩,⟨by (with_reducible repeat (first|refine blk_drewN ?_ _|refine blk_drew ?_|refine blk_alloc ?_ _));exact BK109.out⟩,⟨by repeat (first|(with_reducible first|exact HB.out|apply below_alloc|apply pw_below_drewN|apply below_drew1|refine below_set ?_ GE109.out)|exact HB.out)⟩⟩
                · rw [if_neg c14] at H;have c14b0:((x4_1.length:Int)==0)=false:=beq_eq_false_iff_ne.mpr c14;have c14b1:((x4_1.length:Int) != 0)=true:=bne_iff_ne.mpr c14
                  have c14b2: ¬(x4_1=[]):=fun h_=>c14 (by rw [h_];rfl)
                  (first|rw [c14b0]|(simp only [i64_w,i32_w];rw [c14b0])|skip)
                  have H':=Aside0.mk H;clear H;obtain ⟨Ao16,co16,eo16⟩:=Kd.R_slice HO_4.out;subst eo16;go_wp2
                  go_meet
                  case rel=>exact ⟨_,((t110 != 0)),(by first|rfl|(simp;done)|(simp [*];done)),H',⟨by have:=HK1.out;first|omega|exact Nat.le_refl _⟩,⟨by (with_reducible repeat (first|apply Kd.R_alloc|apply Kd.R_drewN|apply Kd.R_drew));exact HO_4.out⟩,⟨by (with_reducible repeat (first|refine blk_drewN ?_ _|refine blk_drew ?_|refine blk_alloc ?_ _));exact BK109.out⟩,⟨by repeat (first|(with_reducible first|exact HB.out|apply below_alloc|apply pw_below_drewN|apply below_drew1|refine below_set ?_ GE109.out)|exact HB.out)⟩⟩
              case rest=>
                clear HC10
                try clear c1
                try clear p1
                try clear q1
                try clear hx1
                try clear c2
                try clear c2b0
                try clear c2b1
                try clear c2b2
                try clear p2
                try clear c3
                try clear c3b0
                try clear c3b1
                try clear c6
                try clear c6b0
                try clear c7
                try clear c7b0
                try clear c8
                try clear c8b0
                try clear p10
                try clear q10
                try clear hx10
                try clear c14
                try clear c14b0
                try clear c14b1
                try clear c14b2
                try clear c15
                try clear hcz12_0
                try clear hcz12_1
                try clear hcz12_2
                try clear hcz12_3
                try clear hfz12_0
                try clear hfz12_1
                try clear hfz12_2
                try clear hfz12_3
                try clear hx108_0
                try clear hx108_1
                try clear hx108_2
                try clear hx108_3
                try clear p108
                try clear p2
                try clear q108
                obtain ⟨kq,x30_9,rfl,HA,HJ9,HO_4,BK109,HB⟩:=hcut
                cases kq with
                |zero=>exact absurd HA.out (by simp [data_Check.j1])
                |succ kj9=>
                 have H:=HA.out;clear HA;simp only [data_Check.j1] at H;by_cases c17:x30_9=true
                 · subst c17
                   have H1:(some (x20_1,6))=some (r1,r2):=by rw [if_pos rfl] at H;exact H
                   clear H;have H:=H1;clear H1;simp only [Option.some.injEq,Prod.mk.injEq] at H;obtain ⟨rfl,rfl⟩:=H;go_wp2;go_ret2;exact ⟨by first|rfl|(simp [errW_none,errW_some]<;>rfl)|(simp [*, errW_none,errW_some]<;>rfl),by repeat (first|(with_reducible first|exact HB.out|apply below_alloc|apply pw_below_drewN|apply below_drew1|refine below_set ?_ GE109.out)|exact HB.out)⟩
                 · replace c17:=Bool.eq_false_iff.mpr c17;subst c17
                   have H1:(if (x4_1.length:Int)>33 then (some (x20_1,3)) else (if t111=0 then (if 0≤(wrap64 ((x4_1.length:Int)-1)) then (if (wrap64 ((x4_1.length:Int)-1))<(x4_1.length:Int) then ((some (x4_1.set ((wrap64 ((x4_1.length:Int)-1)):Int).toNat (wrap64 ((rd x4_1 (wrap64 ((x4_1.length:Int)-1)))-1)):List Int)).bind fun y113=>(if y113.length<17592186044416 then (data_Check.l1 kj9 l0 (y113++[((rd_T40 l0 x20_1).f1)]) l0 (l0.length:Int) x20_1) else (none))) else (none)) else (none)) else (some (x20_1,t111))))=some (r1,r2):=by rw [if_neg (show ¬(false=true) by decide)] at H;exact H
                   clear H;have H:=H1;clear H1;by_cases c18:(x4_1.length:Int)>33
                   · rw [if_pos c18] at H;have c18b0:decide (33<(x4_1.length:Int))=true:=decide_eq_true c18;have c18b1:decide (33<x4_1.length)=true:=decide_eq_true (by omega);clear c18;simp only [Option.some.injEq,Prod.mk.injEq] at H;obtain ⟨rfl,rfl⟩:=H;obtain ⟨Ao19,co19,eo19⟩:=Kd.R_slice HO_4.out;subst eo19;go_wp2;go_ret2;exact ⟨by first|rfl|(simp [errW_none,errW_some]<;>rfl)|(simp [*, errW_none,errW_some]<;>rfl),by repeat (first|(with_reducible first|exact HB.out|apply below_alloc|apply pw_below_drewN|apply below_drew1|refine below_set ?_ GE109.out)|exact HB.out)⟩
                   · rw [if_neg c18] at H;have c18b0:decide (33<(x4_1.length:Int))=false:=decide_eq_false c18;have c18b1:decide (33<x4_1.length)=false:=decide_eq_false (by omega);clear c18;by_cases c20:t111=0
                     · rw [if_pos c20] at H;have c20b0:(t111==0)=true:=beq_iff_eq.mpr c20;have c20b1:(t111 != 0)=false:=bne_eq_false_iff_eq.mpr c20;clear c20
                       obtain ⟨ji21,hji21⟩: ∃j_:Int,(wrap64 ((x4_1.length:Int)-1))=j_:=⟨_,rfl⟩
                       replace H:(if 0≤(ji21) then (if (ji21)<(x4_1.length:Int) then ((some (x4_1.set ((ji21):Int).toNat (wrap64 ((rd x4_1 (ji21))-1)):List Int)).bind fun y113=>(if y113.length<17592186044416 then (data_Check.l1 kj9 l0 (y113++[((rd_T40 l0 x20_1).f1)]) l0 (l0.length:Int) x20_1) else (none))) else (none)) else (none))=some (r1,r2):=by first|(rw [hji21] at H;exact H)|(simp only [hji21] at H ⊢; exact H)
                       have hji21w:(IntKind.i64.wrap ((x4_1.length:Int)-1))=ji21:=(i64_w _).trans hji21;by_cases c22:0≤(ji21)
                       · rw [if_pos c22] at H;have c22b0:decide (0≤(ji21))=true:=decide_eq_true c22;clear c22;by_cases c23:(ji21)<(x4_1.length:Int)
                         · rw [if_pos c23] at H;have c23b0:decide ((ji21)<(x4_1.length:Int))=true:=decide_eq_true c23;clear c23
                           obtain ⟨y113,hy113⟩: ∃y_:List Int,y_=(x4_1.set ((ji21):Int).toNat (wrap64 ((rd x4_1 (ji21))-1))):=⟨_,rfl⟩
                           replace H:(if y113.length<17592186044416 then (data_Check.l1 kj9 l0 (y113++[((rd_T40 l0 x20_1).f1)]) l0 (l0.length:Int) x20_1) else (none))=some (r1,r2):=by first|(rw [hy113];with_reducible exact H)|(have H2_:=(Option.bind_some _ _).symm.trans H;rw [hy113];with_reducible exact H2_)|(have H2_:=(Option.bind_some _ _).symm.trans H;with_reducible exact H2_)|with_reducible exact H|(rw [hy113];exact H)|exact H
                           have Ny113:=Aside0.mk hy113;clear hy113;by_cases c25:y113.length<17592186044416
                           · rw [if_pos c25] at H;have LMc25:=Aside0.mk c25;clear c25
                             obtain ⟨y114,hy114⟩: ∃y_:List Int,y_=(y113++[((rd_T40 l0 x20_1).f1)]):=⟨_,rfl⟩
                             replace H:(data_Check.l1 kj9 l0 y114 l0 (l0.length:Int) x20_1)=some (r1,r2):=by first|(rw [hy114];with_reducible exact H)|(have H2_:=(Option.bind_some _ _).symm.trans H;rw [hy114];with_reducible exact H2_)|(have H2_:=(Option.bind_some _ _).symm.trans H;with_reducible exact H2_)|with_reducible exact H|(rw [hy114];exact H)|exact H
                             have Ny114:=Aside0.mk hy114;clear hy114;have H':=Aside0.mk H;clear H;obtain ⟨Ao26,co26,eo26⟩:=Kd.R_slice HO_4.out;subst eo26;have p112:0≤((ji21):Int):=of_decide_eq_true (by first|(with_reducible assumption)|assumption);have q112:(ji21)<(x4_1.length:Int):=of_decide_eq_true (by first|(with_reducible assumption)|assumption);obtain ⟨ad112,e112,hx112_0⟩:=Kd.at_int (Kd.R_reads' HO_4.out).2.2 (ji21) p112 q112;cases e112;replace p112:=eq_true p112;replace q112:=eq_true q112;have p24:0≤((ji21):Int):=of_decide_eq_true (by first|(with_reducible assumption)|assumption);have q24:((ji21):Int)<((x4_1.length:Int):Int):=of_decide_eq_true (by first|(with_reducible assumption)|assumption);obtain ⟨go24,co24,eo24,gb24,gl24,cl24,HG24⟩:=Kd.R_form HO_4.out (by omega)
                             (first|cases eo24|(injection eo24 with ea_ en_ ec_;(first|subst ea_|(injection ea_ with ea_;subst ea_));subst ec_;clear en_))
                             have GB24:=Aside0.mk gb24;have GG24:=Aside0.mk HG24;clear gb24 gl24 HG24
                             (first|simp only [add_plain] at hx112_0|skip)
                             obtain ⟨hx24_0,hf24_0⟩:=Kd.R_celln 0 HO_4.out ((ji21):Int) p24 q24;replace p24:=eq_true p24;replace q24:=eq_true q24;have HP27:=Kd.R_putg HO_4.out ((ji21):Int) (wrap64 ((rd x4_1 (ji21))-1))
                             go_wp2_with (first|((with_reducible refine gate_store (t:=3) (p:=56) rfl ?_);refine store_event (t:=3) (p:=56) (v:=?vo_w28) (w1:=(wc.setCell ⟨go24,((ji21):Int).toNat,none⟩ (.int .i64 (wrap64 ((rd x4_1 (ji21))-1))))) ?hg ?ho ?hn ?hr ?_;(case ho=>rfl);(case hg=>rfl);(case hn=>rfl);(case hr=>first|(go_simp;done)|(go_simp;rfl));intro w28 hw;have hg:wc.grownBy w28 (some go24):=(by rw [hw];exact HP27.2);have hp_:Kd.R (Kd.int .i64) 3 w28 w.heap.size (fun _=>True) (.slice (some ⟨go24,0,none⟩) x4_1.length co26) y113:=(by rw [hw,Ny113.out];exact HP27.1);clear HP27;have n0_:=Aside0.mk (hp_);have n1_:=Aside0.mk (blk_grown (g:=gb109) (o:= .cells #[.int .i64 ((rd_T40 l0 x20_1).f0),.int .i64 ((rd_T40 l0 x20_1).f1),.int .i64 ((rd_T40 l0 x20_1).f2),.string ((rd_T40 l0 x20_1).f3)] 40 (0,0)) (by (with_reducible repeat (first|refine blk_drewN ?_ _|refine blk_drew ?_|refine blk_alloc ?_ _));exact BK109.out) hg (Kd.R_ne HO_4.out BK109.out (by decide)));have n2_:=Aside0.mk ((by rw [hw];exact below_set (HB.out) GB24.out:Below w.heap.size w w28));clear HO_4;clear BK109;clear HB;have HO_4:=n0_;have BK109:=n1_;have HB:=n2_;clear n0_ n1_ n2_;clear hg hw hp_;have hcz29_0:w28.cell? ⟨gb109,0,none⟩=some (.int .i64 ((rd_T40 l0 x20_1).f0)):=(blk_cell BK109.out 0).trans rfl;have hcz29_1:w28.cell? ⟨gb109,1,none⟩=some (.int .i64 ((rd_T40 l0 x20_1).f1)):=(blk_cell BK109.out 1).trans rfl;have hcz29_2:w28.cell? ⟨gb109,2,none⟩=some (.int .i64 ((rd_T40 l0 x20_1).f2)):=(blk_cell BK109.out 2).trans rfl;have hcz29_3:w28.cell? ⟨gb109,3,none⟩=some (.string ((rd_T40 l0 x20_1).f3)):=(blk_cell BK109.out 3).trans rfl;have hfz29_0:=blk_frozen BK109.out 0;have hfz29_1:=blk_frozen BK109.out 1;have hfz29_2:=blk_frozen BK109.out 2;have hfz29_3:=blk_frozen BK109.out 3)|((with_reducible refine gate_builtin (b:= .append) (xs:= #[.tmp 57,.tmp 60]) rfl ?_);(try (refine gate_guard (by rfl) ?_;dsimp only));at_builtin;refine Kd.R_append (Kd.int .i64) (w0:=w) w.heap.size rfl (.tmp 57) (.tmp 60) 44 3 (.int .i64 0) 8 rfl Tryz.underlying44 info3 rfl (by decide) (by omega) (.slice (some ⟨go24,0,none⟩) x4_1.length co26) y113 ((rd_T40 l0 x20_1).f1) [.int .i64 ((rd_T40 l0 x20_1).f1)] (fun _=>True) (fun _=>False) rfl rfl ?aP (fun _ hk=>hk.elim) ?aF ?aO ?aB ?aS ?aL ?_;(case aP=>exact rfl);(case aB=>exact (by repeat (first|(with_reducible first|exact HB.out|apply below_alloc|apply pw_below_drewN|apply below_drew1|refine below_set ?_ GE109.out)|exact HB.out)));(case aF=>exact (fun _ _=>trivial));(case aO=>exact (by (with_reducible repeat (first|apply Kd.R_alloc|apply Kd.R_drewN|apply Kd.R_drew));exact HO_4.out));(case aS=>exact (below_size (by repeat (first|(with_reducible first|exact HB.out|apply below_alloc|apply pw_below_drewN|apply below_drew1|refine below_set ?_ GE109.out)|exact HB.out))));(case aL=>have:=LMc25.out;omega);intro v115 w30 ho hb hg hat;rw [←Ny114.out] at ho;have n0_:=Aside0.mk (blk_grown (g:=gb109) (o:= .cells #[.int .i64 ((rd_T40 l0 x20_1).f0),.int .i64 ((rd_T40 l0 x20_1).f1),.int .i64 ((rd_T40 l0 x20_1).f2),.string ((rd_T40 l0 x20_1).f3)] 40 (0,0)) (by (with_reducible repeat (first|refine blk_drewN ?_ _|refine blk_drew ?_|refine blk_alloc ?_ _));exact BK109.out) hg (Kd.R_ne HO_4.out BK109.out (by decide)));have n1_:=Aside0.mk (hb);have n2_:=Aside0.mk (ho);clear BK109;clear HB;clear HO_4;have BK109:=n0_;have HB:=n1_;have HO116:=n2_;clear n0_ n1_ n2_;clear ho hb hg hat))
                             go_loopg [4] kj9 (fun kq v4 w'=> ∃(x4_3:List Int),Aside0 (data_Check.l1 kq l0 x4_3 l0 (l0.length:Int) x20_1=some (r1,r2))∧Aside0 (kq≤kj9)∧Aside0 (Kd.R (Kd.int .i64) 3 w' w.heap.size (fun _=>True) v4 x4_3)∧Aside0 (w'.heap[gb109]? =some (.cells #[.int .i64 ((rd_T40 l0 x20_1).f0),.int .i64 ((rd_T40 l0 x20_1).f1),.int .i64 ((rd_T40 l0 x20_1).f2),.string ((rd_T40 l0 x20_1).f3)] 40 (0,0)))∧Aside0 (Below w.heap.size w w'))
                             case atStart=>exact ⟨(y114),H',⟨Nat.le_refl _⟩,⟨by (with_reducible repeat (first|apply Kd.R_alloc|apply Kd.R_drewN|apply Kd.R_drew));exact HO116.out⟩,⟨by (with_reducible repeat (first|refine blk_drewN ?_ _|refine blk_drew ?_|refine blk_alloc ?_ _));exact BK109.out⟩,⟨by repeat (first|(with_reducible first|exact HB.out|apply below_alloc|apply pw_below_drewN|apply below_drew1|refine below_set ?_ GE109.out)|exact HB.out)⟩⟩
                             case round=>
                               clear H'
                               try clear c1
                               try clear p1
                               try clear q1
                               try clear hx1
                               try clear c2
                               try clear c2b0
                               try clear c2b1
                               try clear c2b2
                               try clear p2
                               try clear q2
                               try clear hx2
                               try clear hf2
                               try clear c3
                               try clear c3b0
                               try clear c3b1
                               try clear c6
                               try clear c6b0
                               try clear p6
                               try clear c7
                               try clear c7b0
                               try clear c8
                               try clear c8b0
                               try clear p10
                               try clear q10
                               try clear hx10
                               try clear p11
                               try clear q11
                               try clear hx11
                               try clear c14
                               try clear c14b0
                               try clear c14b1
                               try clear c14b2
                               try clear c15
                               try clear c17
                               try clear c18
                               try clear c18b0
                               try clear c18b1
                               try clear c20
                               try clear c20b0
                               try clear c20b1
                               try clear c22
                               try clear c22b0
                               try clear c23
                               try clear c23b0
                               try clear p24
                               try clear q24
                               try clear hx24
                               try clear hf24
                               try clear c25
                               try clear hcz12_0
                               try clear hcz12_1
                               try clear hcz12_2
                               try clear hcz12_3
                               try clear hcz29_0
                               try clear hcz29_1
                               try clear hcz29_2
                               try clear hcz29_3
                               try clear hfz12_0
                               try clear hfz12_1
                               try clear hfz12_2
                               try clear hfz12_3
                               try clear hfz29_0
                               try clear hfz29_1
                               try clear hfz29_2
                               try clear hfz29_3
                               try clear hx108_0
                               try clear hx108_1
                               try clear hx108_2
                               try clear hx108_3
                               try clear hx112_0
                               try clear hx24_0
                               try clear p1
                               try clear p10
                               try clear p108
                               try clear p112
                               try clear p2
                               try clear p24
                               try clear q1
                               try clear q10
                               try clear q108
                               try clear q112
                               try clear q24
                               obtain ⟨x4_3,HA,HK3,HO_4,BK109,HB⟩:=hrel
                               cases gk with
                               |zero=>exact absurd HA.out (by simp [data_Check.l1])
                               |succ k3=>
                                have H:=HA.out;clear HA;simp only [data_Check.l1] at H;by_cases c31:(x4_3.length:Int)>0
                                · rw [if_pos c31] at H;have c31b0:decide (0<(x4_3.length:Int))=true:=decide_eq_true c31;have c31b1:decide (0<x4_3.length)=true:=decide_eq_true (by omega);clear c31
                                  obtain ⟨ji32,hji32⟩: ∃j_:Int,(wrap64 ((x4_3.length:Int)-1))=j_:=⟨_,rfl⟩
                                  replace H:(if 0≤(ji32) then (if (ji32)<(x4_3.length:Int) then (if (rd x4_3 (ji32))=0 then (if (ji32)≤(x4_3.length:Int) then (data_Check.l1 k3 l0 (x4_3.take ((ji32):Int).toNat) l0 (l0.length:Int) x20_1) else (none)) else (data_Check.l0 k3 l0 x4_3 l0 (l0.length:Int) (wrap64 (x20_1+1)))) else (none)) else (none))=some (r1,r2):=by first|(rw [hji32] at H;exact H)|(simp only [hji32] at H ⊢; exact H)
                                  have hji32w:(IntKind.i64.wrap ((x4_3.length:Int)-1))=ji32:=(i64_w _).trans hji32;by_cases c33:0≤(ji32)
                                  · rw [if_pos c33] at H;have c33b0:decide (0≤(ji32))=true:=decide_eq_true c33;clear c33;by_cases c34:(ji32)<(x4_3.length:Int)
                                    · rw [if_pos c34] at H;have c34b0:decide ((ji32)<(x4_3.length:Int))=true:=decide_eq_true c34;clear c34;by_cases c35:(rd x4_3 (ji32))=0
                                      · rw [if_pos c35] at H;have c35b0:((rd x4_3 (ji32))==0)=true:=beq_iff_eq.mpr c35;have c35b1:((rd x4_3 (ji32)) != 0)=false:=bne_eq_false_iff_eq.mpr c35;clear c35;by_cases c36:(ji32)≤(x4_3.length:Int)
                                        · rw [if_pos c36] at H;have c36b0:=eq_true c36;have c36b1:decide ((ji32)≤(x4_3.length:Int))=true:=decide_eq_true c36;clear c36
                                          obtain ⟨y118,hy118⟩: ∃y_:List Int,y_=(x4_3.take ((ji32):Int).toNat):=⟨_,rfl⟩
                                          replace H:(data_Check.l1 k3 l0 y118 l0 (l0.length:Int) x20_1)=some (r1,r2):=by first|(rw [hy118];with_reducible exact H)|(have H2_:=(Option.bind_some _ _).symm.trans H;rw [hy118];with_reducible exact H2_)|(have H2_:=(Option.bind_some _ _).symm.trans H;with_reducible exact H2_)|with_reducible exact H|(rw [hy118];exact H)|exact H
                                          have Ny118:=Aside0.mk hy118;clear hy118;have H':=Aside0.mk H;clear H;obtain ⟨Ao37,co37,eo37⟩:=Kd.R_slice HO_4.out;subst eo37;have p117:0≤((ji32):Int):=of_decide_eq_true (by first|(with_reducible assumption)|assumption);have q117:(ji32)<(x4_3.length:Int):=of_decide_eq_true (by first|(with_reducible assumption)|assumption);obtain ⟨ad117,e117,hx117_0⟩:=Kd.at_int (Kd.R_reads' HO_4.out).2.2 (ji32) p117 q117;cases e117;replace p117:=eq_true p117;replace q117:=eq_true q117;have q38:((ji32):Int)≤((x4_3.length:Int):Int):=of_decide_eq_true (by first|(with_reducible assumption)|assumption);obtain ⟨i038,hi038,_,hsz38,_⟩:=info_parts info3;have hcut38:=cut_to (P:=Tryz.prog) 44 3 .i64 Tryz.underlying44 hi038 (some ad117) x4_3.length co37 (ji32) (of_decide_eq_true (by first|(with_reducible assumption)|assumption)) q38 (Kd.R_reads' HO_4.out).2.1;have hr38:=Kd.R_take (m:=((ji32):Int).toNat) HO_4.out (by omega)
                                          have hy38:y118.length=((ji32):Int).toNat:=(by rw [Ny118.out,List.length_take];omega)
                                          rw [←Ny118.out] at hr38;rw [←hy38] at hr38 hcut38;clear hy38 hi038 hsz38 HO_4;have HO120:=Aside0.mk hr38;clear hr38;replace q38:=eq_true q38;go_wp2;go_roundg k3
                                          case measure=>have:=HK1.out;have:=HJ9.out;have:=HK3.out;omega
                                          case rel=>exact ⟨(y118),H',⟨by have:=HK1.out;have:=HJ9.out;have:=HK3.out;omega⟩,⟨by (with_reducible repeat (first|apply Kd.R_alloc|apply Kd.R_drewN|apply Kd.R_drew));exact HO120.out⟩,⟨by (with_reducible repeat (first|refine blk_drewN ?_ _|refine blk_drew ?_|refine blk_alloc ?_ _));exact BK109.out⟩,⟨by repeat (first|(with_reducible first|exact HB.out|apply below_alloc|apply pw_below_drewN|apply below_drew1|refine below_set ?_ GE109.out)|exact HB.out)⟩⟩
                                        · rw [if_neg c36] at H;exact absurd H (by simp)
                                      · rw [if_neg c35] at H;have c35b0:((rd x4_3 (ji32))==0)=false:=beq_eq_false_iff_ne.mpr c35;have c35b1:((rd x4_3 (ji32)) != 0)=true:=bne_iff_ne.mpr c35;have H':=Aside0.mk H;clear H;obtain ⟨Ao39,co39,eo39⟩:=Kd.R_slice HO_4.out;subst eo39;have p117:0≤((ji32):Int):=of_decide_eq_true (by first|(with_reducible assumption)|assumption);have q117:(ji32)<(x4_3.length:Int):=of_decide_eq_true (by first|(with_reducible assumption)|assumption);obtain ⟨ad117,e117,hx117_0⟩:=Kd.at_int (Kd.R_reads' HO_4.out).2.2 (ji32) p117 q117;cases e117;replace p117:=eq_true p117;replace q117:=eq_true q117;go_wp2;go_roundg k3
                                        case measure=>have:=HK1.out;have:=HJ9.out;have:=HK3.out;omega
                                        case rel=>exact ⟨(x4_3),(wrap64 (x20_1+1)),(by first|rfl|(simp;done)|(simp [*];done)),H',⟨by have:=HK1.out;have:=HJ9.out;have:=HK3.out;omega⟩,⟨by (with_reducible repeat (first|apply Kd.R_alloc|apply Kd.R_drewN|apply Kd.R_drew));exact HO_4.out⟩,⟨by repeat (first|(with_reducible first|exact HB.out|apply below_alloc|apply pw_below_drewN|apply below_drew1|refine below_set ?_ GE109.out)|exact HB.out)⟩⟩
                                    · rw [if_neg c34] at H;exact absurd H (by simp)
                                  · rw [if_neg c33] at H;exact absurd H (by simp)
                                · rw [if_neg c31] at H;have c31b0:decide (0<(x4_3.length:Int))=false:=decide_eq_false c31;have c31b1:decide (0<x4_3.length)=false:=decide_eq_false (by omega);clear c31;have H':=Aside0.mk H;clear H;obtain ⟨Ao40,co40,eo40⟩:=Kd.R_slice HO_4.out;subst eo40;go_wp2;go_roundg k3
                                  case measure=>have:=HK1.out;have:=HJ9.out;have:=HK3.out;omega
                                  case rel=>exact ⟨(x4_3),(wrap64 (x20_1+1)),(by first|rfl|(simp;done)|(simp [*];done)),H',⟨by have:=HK1.out;have:=HJ9.out;have:=HK3.out;omega⟩,⟨by (with_reducible repeat (first|apply Kd.R_alloc|apply Kd.R_drewN|apply Kd.R_drew));exact HO_4.out⟩,⟨by repeat (first|(with_reducible first|exact HB.out|apply below_alloc|apply pw_below_drewN|apply below_drew1|refine below_set ?_ GE109.out)|exact HB.out)⟩⟩
                           · rw [if_neg c25] at H;exact absurd H (by simp)
                         · rw [if_neg c23] at H;exact absurd H (by simp)
                       · rw [if_neg c22] at H;exact absurd H (by simp)
                     · rw [if_neg c20] at H;have c20b0:(t111==0)=false:=beq_eq_false_iff_ne.mpr c20;have c20b1:(t111 != 0)=true:=bne_iff_ne.mpr c20;simp only [Option.some.injEq,Prod.mk.injEq] at H;obtain ⟨rfl,rfl⟩:=H;obtain ⟨Ao41,co41,eo41⟩:=Kd.R_slice HO_4.out;subst eo41;go_wp2;go_ret2;exact ⟨by first|rfl|(simp [errW_none,errW_some]<;>rfl)|(simp [*, errW_none,errW_some]<;>rfl),by repeat (first|(with_reducible first|exact HB.out|apply below_alloc|apply pw_below_drewN|apply below_drew1|refine below_set ?_ GE109.out)|exact HB.out)⟩
            · rw [if_neg c8] at H;exact absurd H (by simp)
          · rw [if_neg c7] at H;exact absurd H (by simp)
        · rw [if_neg c6] at H;have c6b0:decide (x20_1<(l0.length:Int))=false:=decide_eq_false c6;clear c6;by_cases c42:(x4_1.length:Int)>0
          · rw [if_pos c42] at H;have c42b0:decide (0<(x4_1.length:Int))=true:=decide_eq_true c42;have c42b1:decide (0<x4_1.length)=true:=decide_eq_true (by omega);clear c42;simp only [Option.some.injEq,Prod.mk.injEq] at H;obtain ⟨rfl,rfl⟩:=H;obtain ⟨Ao43,co43,eo43⟩:=Kd.R_slice HO_4.out;subst eo43;go_wp2;go_ret2;exact ⟨by first|rfl|(simp [errW_none,errW_some]<;>rfl)|(simp [*, errW_none,errW_some]<;>rfl),by repeat (first|(with_reducible first|exact HB.out|apply below_alloc|apply pw_below_drewN|apply below_drew1)|exact HB.out)⟩
          · rw [if_neg c42] at H;have c42b0:decide (0<(x4_1.length:Int))=false:=decide_eq_false c42;have c42b1:decide (0<x4_1.length)=false:=decide_eq_false (by omega);clear c42;simp only [Option.some.injEq,Prod.mk.injEq] at H;obtain ⟨rfl,rfl⟩:=H;obtain ⟨Ao44,co44,eo44⟩:=Kd.R_slice HO_4.out;subst eo44;go_wp2;go_ret2;exact ⟨by first|rfl|(simp [errW_none,errW_some]<;>rfl)|(simp [*, errW_none,errW_some]<;>rfl),by repeat (first|(with_reducible first|exact HB.out|apply below_alloc|apply pw_below_drewN|apply below_drew1)|exact HB.out)⟩
end Go.Proofs.YtgmiekggdgmhkaaGreatDoor.Q
end
section
namespace Go.Proofs.YtgmiekggdgmhkaaGreatDoor.R
open Go.RowKit Go.Proofs.YtgmiekggdgmhkaaGreatDoorW.PrintWords
open Go.Proofs.YtgmiekggdgmhkaaGreatDoor.Q (Bytes Bytes.at_ bool_of decR dec ofL ofL_size itemsF items endF vend okB vend_eq dec_pos endF_stop runesOf hasB clsOf clsScan clsList intB restB digitsB)
set_option linter.unusedVariables false
set_option linter.unusedSimpArgs false
theorem check_l0 (l:List Int) (hl:l.length≤8000) (hb:Bytes l): ∀(m a:Nat),l.length-a≤m→a≤l.length→
 ∃x:Int×Int,Ev (fun k=>mummerref02_Check.l0 k l a) x∧(endF m (l.drop a) a=l.length→x.2=0)∧(endF m (l.drop a) a≠l.length→x.2≠0):=by
 intro m
 induction m with
 |zero=>
  intro a h1 h2
  have:a=l.length:=by omega
  subst this;refine ⟨(l.length,0),Ev.step (f:=fun _=>some ((l.length:Int),0)) (fun k=>?_) (Ev.now _),fun _=>rfl,fun h=>?_⟩
  · simp only [mummerref02_Check.l0];rw [if_neg (by omega)]
  · exact absurd (by simp [endF]) h
 |succ m ih=>
  intro a h1 h2;by_cases ha:a<l.length
  · obtain ⟨x,hx,hd⟩:=decode_ev l a hl ha hb
    have hs: ∀k,mummerref02_Check.l0 (k+1) l a=(mummerref02_Decode.f k l a).bind fun bt118=>(if bt118.2.2=0 then (mummerref02_Check.l0 k l (wrap64 (a+bt118.2.1))) else (some ((a:Int),bt118.2.2))):=fun k=>by
        simp only [mummerref02_Check.l0];rw [if_pos (by omega)]
    unfold DecAns at hd
    cases hr:decR (l.drop a) with
    |none=>
     rw [hr] at hd;obtain ⟨q,hq,rfl⟩:=hd;refine ⟨(a,q),Ev.step hs (Ev.bind hx (Ev.congr (f:=fun _=>some ((a:Int),q)) (fun k=>if_neg hq) (Ev.now _))),fun h=>?_,fun _=>hq⟩;simp only [endF,hr] at h;omega
    |some y=>
     obtain ⟨r,n⟩:=y;rw [hr] at hd;simp only at hd;subst hd;obtain ⟨p1,p2⟩:=dec_pos hr;rw [List.length_drop] at p2
     have e:((a:Int)+n)=((a+n.toNat:Nat):Int):=by omega
     obtain ⟨x,hx2,h3,h4⟩:=ih (a+n.toNat) (by omega) (by omega);refine ⟨x,Ev.step hs (Ev.bind hx (Ev.congr (f:=fun k=>mummerref02_Check.l0 k l ((a+n.toNat:Nat):Int)) (fun k=>?_) hx2)),?_,?_⟩
     · simp only [if_true];rw [wrap_small _ (by omega) (by omega),e]
     all_goals
      simp only [endF,hr];rw [List.drop_drop,e];assumption
  · have:a=l.length:=by omega
    subst this;refine ⟨(l.length,0),Ev.step (f:=fun _=>some ((l.length:Int),0)) (fun k=>?_) (Ev.now _),fun _=>rfl,fun h=>?_⟩
    · simp only [mummerref02_Check.l0];rw [if_neg (by omega)]
    · exact absurd (by simp [endF,decR]) h
theorem check_long (l:List Int) (hl:8000<l.length):Ev (fun k=>mummerref02_Check.f k l) (0,3):=
 Ev.congr (f:=fun _=>some (0,3)) (fun k=>by unfold mummerref02_Check.f;rw [if_pos (by omega)]) (Ev.now _)
theorem check_ev (l:List Int) (hb:Bytes l): ∃x:Int×Int,Ev (fun k=>mummerref02_Check.f k l) x∧(okB l=true→x.2=0)∧(okB l=false→x.2≠0):=by
 by_cases hl:l.length≤8000
 · obtain ⟨x,hx,h1,h2⟩:=check_l0 l hl hb l.length 0 (by omega) (by omega);rw [List.drop_zero] at h1 h2;refine ⟨x,Ev.congr (fun k=>by unfold mummerref02_Check.f;rw [if_neg (by omega)];rfl) hx,fun h=>h1 ?_,fun h=>h2 ?_⟩
   · unfold okB at h;rw [vend_eq] at h;simp at h;exact h.2
   · unfold okB at h;rw [vend_eq,decide_eq_true hl] at h
     simpa using h
 · refine ⟨_,check_long l (by omega),fun h=>?_,fun _=>by decide⟩;unfold okB at h;rw [decide_eq_false hl] at h;simp at h
theorem runes_l0 (l:List Int) (hl:l.length≤8000) (hb:Bytes l): ∀(m a:Nat) (pre:List Int),l.length-a≤m→a≤l.length→pre.length+(l.length-a)≤8000→endF m (l.drop a) a=l.length→
 Ev (fun k=>mummerref02_Runes.l0 k l pre a) (pre++(itemsF m (l.drop a) a).map (·.2),0):=by
 intro m
 induction m with
 |zero=>
  intro a pre h1 h2 h3 h4
  have:a=l.length:=by omega
  subst this;refine Ev.step (f:=fun _=>some (pre,0)) (fun k=>?_) (by simp [itemsF];exact Ev.now _);simp only [mummerref02_Runes.l0];rw [if_neg (by omega)]
 |succ m ih=>
  intro a pre h1 h2 h3 h4;by_cases ha:a<l.length
  · obtain ⟨x,hx,hd⟩:=decode_ev l a hl ha hb
    have hs: ∀k,mummerref02_Runes.l0 (k+1) l pre a=(mummerref02_Decode.f k l a).bind fun bt123=>(if pre.length<35184372088832 then (mummerref02_Runes.l0 k l (pre++[bt123.1]) (wrap64 (a+bt123.2.1))) else (none)):=fun k=>by
        simp only [mummerref02_Runes.l0];rw [if_pos (by omega)]
    unfold DecAns at hd
    cases hr:decR (l.drop a) with
    |none=>
     simp only [endF,hr] at h4;omega
    |some y=>
     obtain ⟨r,n⟩:=y;rw [hr] at hd;simp only at hd;subst hd;obtain ⟨p1,p2⟩:=dec_pos hr;rw [List.length_drop] at p2
     have e:((a:Int)+n)=((a+n.toNat:Nat):Int):=by omega
     simp only [endF,hr] at h4;rw [List.drop_drop,e] at h4;have:=ih (a+n.toNat) (pre++[r]) (by omega) (by omega) (by simp;omega) h4;simp only [itemsF,hr,List.map_cons];rw [List.drop_drop,e];rw [List.append_assoc] at this;refine Ev.step hs (Ev.bind hx (Ev.congr (fun k=>?_) this));rw [if_pos (by omega)];simp only;rw [wrap_small _ (by omega) (by omega),e]
  · have:a=l.length:=by omega
    subst this;refine Ev.step (f:=fun _=>some (pre,0)) (fun k=>?_) (by simp [itemsF,decR];exact Ev.now _);simp only [mummerref02_Runes.l0];rw [if_neg (by omega)]
theorem runes_ok (l:List Int) (hb:Bytes l) (h:okB l=true):Ev (fun k=>mummerref02_Runes.f k l) (runesOf l,0):=by
 obtain ⟨x,hx,h1,_⟩:=check_ev l hb;have hx0:=h1 h;unfold okB at h;rw [vend_eq] at h;simp at h;have:=runes_l0 l h.1 hb l.length 0 [] (by omega) (by omega) (by simp;omega) (by simpa using h.2);refine Ev.congr (fun k=>rfl) (Ev.bind hx (Ev.congr (fun k=>if_pos hx0) ?_));exact this
theorem runes_bad (l:List Int) (hb:Bytes l) (h:okB l=false): ∃q,q≠0∧Ev (fun k=>mummerref02_Runes.f k l) ([],q):=by
 obtain ⟨x,hx,_,h1⟩:=check_ev l hb;have hx0:=h1 h;exact ⟨x.2,hx0,Ev.congr (fun k=>rfl) (Ev.bind hx (Ev.congr (f:=fun _=>some (([]:List Int),x.2)) (fun k=>if_neg hx0) (Ev.now _)))⟩
theorem bt_get (s:ByteArray) (i:Nat) (h:i<s.size):bt s i=((s.data.toList[i]'(by simpa using h)).toNat:Int):=by
 simp [bt,h];rfl
theorem one_l0 (r:Int) (s:ByteArray) (hs:s.size≤1000): ∀(m i:Nat),s.size-i≤m→i≤s.size→Ev (fun k=>mummerref02_one.l0 k r s i) (hasB (s.data.toList.drop i) r):=by
 intro m
 induction m with
 |zero=>
  intro i h1 h2
  have hi:i=s.size:=by omega
  have e:hasB (s.data.toList.drop i) r=false:=by rw [List.drop_eq_nil_of_le (by simp;omega)];rfl
  rw [e];refine Ev.step (f:=fun _=>some false) (fun k=>?_) (Ev.now _);simp only [mummerref02_one.l0];rw [if_neg (by omega)]
 |succ m ih=>
  intro i h1 h2;by_cases hi:i<s.size
  · have hd:s.data.toList.drop i=s.data.toList[i]'(by simpa using hi)::s.data.toList.drop (i+1):=List.drop_eq_getElem_cons (by simpa using hi)
    have hcons:hasB (s.data.toList.drop i) r=(bt s i==r||hasB (s.data.toList.drop (i+1)) r):=by rw [hd,bt_get s i hi];rfl
    have hbt:=bt_range s i
    have hs1: ∀k,mummerref02_one.l0 (k+1) r s i=if bt s i=r then some true else mummerref02_one.l0 k r s ((i+1:Nat):Int):=fun k=>by
        simp only [mummerref02_one.l0];rw [if_pos (by omega),if_pos (by omega),show wrap32 (bt s i)=bt s i by unfold wrap32;omega,wrap_small _ (by omega) (by omega)];rfl
    rw [hcons];by_cases hb:bt s i=r
    · rw [beq_iff_eq.mpr hb];exact Ev.step (f:=fun _=>some true) (fun k=>by rw [hs1,if_pos hb]) (Ev.now _)
    · rw [beq_eq_false_iff_ne.mpr hb];exact Ev.step (f:=fun k=>mummerref02_one.l0 k r s ((i+1:Nat):Int)) (fun k=>by rw [hs1,if_neg hb]) (ih (i+1) (by omega) (by omega))
  · have e:hasB (s.data.toList.drop i) r=false:=by rw [List.drop_eq_nil_of_le (by simp;omega)];rfl
    rw [e];refine Ev.step (f:=fun _=>some false) (fun k=>?_) (Ev.now _);simp only [mummerref02_one.l0];rw [if_neg (by omega)]
theorem one_ev (r:Int) (s:ByteArray) (hs:s.size≤1000):Ev (fun k=>mummerref02_one.f k r s) (hasB s.data.toList r):=one_l0 r s hs s.size 0 (by omega) (by omega)
theorem hasB_iff (l:List UInt8) (r:Int):hasB l r=true↔ ∃c∈l,(c.toNat:Int)=r:=by simp [hasB]
theorem is_ev (r:Int):mummerref02_Is.f r=some (Lib.validRune r):=by
 unfold mummerref02_Is.f Lib.validRune
 repeat' split
 all_goals (rw [Option.some.injEq,Bool.eq_iff_iff];simp only [decide_eq_true_eq,Bool.false_eq_true,true_iff,false_iff];omega)
theorem h_space (r:Int):hasB [9,10,13,32] r=decide (r=9∨r=10∨r=13∨r=32):=by
 rw [Bool.eq_iff_iff];simp [hasB];omega
theorem h_open (r:Int):hasB [40,91] r=decide (r=40∨r=91):=by
 rw [Bool.eq_iff_iff];simp [hasB];omega
theorem h_close (r:Int):hasB [41,93] r=decide (r=41∨r=93):=by
 rw [Bool.eq_iff_iff];simp [hasB];omega
theorem h_sign (r:Int):hasB [43,45] r=decide (r=43∨r=45):=by
 rw [Bool.eq_iff_iff];simp [hasB];omega
theorem h_one (c:UInt8) (r:Int):hasB [c] r=decide (r=c.toNat):=by
 rw [Bool.eq_iff_iff];simp [hasB];exact eq_comm
def lettersB:List UInt8:=[33,36,37,38,42,47,58,60,61,62,63,94,95,126,46,64]
theorem letters_range (r:Int) (h:hasB lettersB r=true):33≤r∧r≤126∧ ¬(48≤r∧r≤57)∧r≠43∧r≠45∧r≠40∧r≠41∧r≠91∧r≠93∧r≠39∧r≠35∧r≠59:=by
 rw [hasB_iff] at h;obtain ⟨c,hc,rfl⟩:=h;simp only [lettersB,List.mem_cons,List.not_mem_nil,or_false] at hc
 rcases hc with rfl|rfl|rfl|rfl|rfl|rfl|rfl|rfl|rfl|rfl|rfl|rfl|rfl|rfl|rfl|rfl<;>decide
theorem cls_eq (r:Int):clsOf r=if 48≤r∧r≤57 then 7 else if (97≤r∧r≤122)∨(65≤r∧r≤90)∨160<r then 9 else if r=9∨r=10∨r=13∨r=32 then 1 else if r=40∨r=91 then 2 else if r=41∨r=93 then 3 else if r=39 then 4 else if r=35 then 5 else if r=59 then 6 else if r=43∨r=45 then 8 else if hasB lettersB r=true then 9 else 10:=by
 unfold clsOf;simp only [clsScan,clsList];rw [h_space,h_open,h_close,h_sign,h_one,h_one,h_one];have h0:hasB [] r=false:=rfl;rw [h0];simp only [decide_eq_true_eq,Bool.false_eq_true,if_false];rfl
theorem class_j1_sign (k:Nat) (r:Int):mummerref02_Class.j1 (k+1) r true=some (8,0):=by simp only [mummerref02_Class.j1,if_true]
theorem class_j1 (r:Int):Ev (fun k=>mummerref02_Class.j1 k r false) (if (97≤r∧r≤122)∨(65≤r∧r≤90)∨160<r then 9 else if hasB lettersB r=true then 9 else 10,0):=by
 have h1:=one_ev r ⟨#[33,36,37,38,42,47,58,60,61,62,63,94,95,126,46,64]⟩ (by decide);have e0:(⟨#[33,36,37,38,42,47,58,60,61,62,63,94,95,126,46,64]⟩:ByteArray).data.toList=lettersB:=rfl;rw [e0] at h1
 have tail: ∀b:Bool,Ev (fun _=>(if b=true then some ((9:Int),(0:Int)) else some (10,0))) (if b=true then 9 else 10,0):=fun b=>by cases b<;>exact Ev.now _
 have hone:Ev (fun k=>(mummerref02_one.f k r ⟨#[33,36,37,38,42,47,58,60,61,62,63,94,95,126,46,64]⟩).bind fun t=>(if t=true then some ((9:Int),(0:Int)) else some (10,0))) (if hasB lettersB r=true then 9 else 10,0):=Ev.bind h1 (tail _);by_cases hc:(97≤r∧r≤122)∨(65≤r∧r≤90)∨160<r
 · rw [if_pos hc];refine Ev.step (f:=fun _=>some (9,0)) (fun k=>?_) (Ev.now _);simp only [mummerref02_Class.j1];rw [if_neg (by decide)]
   repeat' split
   all_goals first
    |rfl
    |(exfalso;omega)
 · rw [if_neg hc];refine Ev.step (fun k=>?_) hone;simp only [mummerref02_Class.j1];rw [if_neg (by decide)]
   repeat' split
   all_goals first
    |rfl
    |(exfalso;omega)
theorem class_j0 (r:Int) (b:Bool) (hb:b=decide (48≤r∧r≤57)):Ev (fun k=>mummerref02_Class.j0 k r b) (if 48≤r∧r≤57 then 7 else if r=43∨r=45 then 8 else if (97≤r∧r≤122)∨(65≤r∧r≤90)∨160<r then 9 else if hasB lettersB r=true then 9 else 10,0):=by
 subst hb;by_cases h7:48≤r∧r≤57
 · rw [if_pos h7];refine Ev.step (f:=fun _=>some (7,0)) (fun k=>?_) (Ev.now _);simp only [mummerref02_Class.j0];rw [if_pos (decide_eq_true h7)]
 · rw [if_neg h7];by_cases h8:r=43∨r=45
   · rw [if_pos h8];refine Ev.step (f:=fun k=>mummerref02_Class.j1 k r true) (fun k=>?_) (Ev.step (f:=fun _=>some (8,0)) (fun k=>class_j1_sign k r) (Ev.now _));simp only [mummerref02_Class.j0];rw [if_neg (by rw [decide_eq_false h7];decide)]
     rcases h8 with rfl|rfl
     · rfl
     · rfl
   · rw [if_neg h8];refine Ev.step (f:=fun k=>mummerref02_Class.j1 k r false) (fun k=>?_) (class_j1 r);simp only [mummerref02_Class.j0];rw [if_neg (by rw [decide_eq_false h7];decide),if_neg (fun h=>h8 (.inl h)),beq_eq_false_iff_ne.mpr (fun h=>h8 (.inr h))]
set_option maxHeartbeats 1000000 in
theorem class_ev (r:Int) (h:Lib.validRune r=true):Ev (fun k=>mummerref02_Class.f k r) (clsOf r,0):=by
 have h1:=one_ev r ⟨#[9,10,13,32]⟩ (by decide);have h2:=one_ev r ⟨#[40,91]⟩ (by decide);have h3:=one_ev r ⟨#[41,93]⟩ (by decide);rw [show (⟨#[9,10,13,32]⟩:ByteArray).data.toList=[9,10,13,32] from rfl,h_space] at h1;rw [show (⟨#[40,91]⟩:ByteArray).data.toList=[40,91] from rfl,h_open] at h2;rw [show (⟨#[41,93]⟩:ByteArray).data.toList=[41,93] from rfl,h_close] at h3;have hL:=letters_range r;refine Ev.congr (fun k=>by unfold mummerref02_Class.f;simp only [is_ev,h,Option.bind_some,if_true];rfl) ?_;rw [cls_eq];refine Ev.bind h1 ?_;by_cases c1:r=9∨r=10∨r=13∨r=32
 · rw [if_neg (by omega),if_neg (by omega),if_pos c1];exact Ev.congr (fun k=>if_pos (decide_eq_true c1)) (Ev.now _)
 refine Ev.congr (fun k=>if_neg (by rw [decide_eq_false c1];decide)) (Ev.bind h2 ?_);by_cases c2:r=40∨r=91
 · rw [if_neg (by omega),if_neg (by omega),if_neg c1,if_pos c2];exact Ev.congr (fun k=>if_pos (decide_eq_true c2)) (Ev.now _)
 refine Ev.congr (fun k=>if_neg (by rw [decide_eq_false c2];decide)) (Ev.bind h3 ?_);by_cases c3:r=41∨r=93
 · rw [if_neg (by omega),if_neg (by omega),if_neg c1,if_neg c2,if_pos c3];exact Ev.congr (fun k=>if_pos (decide_eq_true c3)) (Ev.now _)
 refine Ev.congr (fun k=>if_neg (by rw [decide_eq_false c3];decide)) ?_;by_cases c4:r=39
 · rw [if_neg (by omega),if_neg (by omega),if_neg c1,if_neg c2,if_neg c3,if_pos c4];exact Ev.congr (fun k=>if_pos c4) (Ev.now _)
 refine Ev.congr (fun k=>if_neg c4) ?_;by_cases c5:r=35
 · rw [if_neg (by omega),if_neg (by omega),if_neg c1,if_neg c2,if_neg c3,if_neg c4,if_pos c5];exact Ev.congr (fun k=>if_pos c5) (Ev.now _)
 refine Ev.congr (fun k=>if_neg c5) ?_;by_cases c6:r=59
 · rw [if_neg (by omega),if_neg (by omega),if_neg c1,if_neg c2,if_neg c3,if_neg c4,if_neg c5,if_pos c6];exact Ev.congr (fun k=>if_pos c6) (Ev.now _)
 refine Ev.congr (fun k=>if_neg c6) ?_
 have e: ∀k,(if r≥48 then (mummerref02_Class.j0 k r (decide (r≤57))) else (mummerref02_Class.j0 k r false))=mummerref02_Class.j0 k r (decide (48≤r∧r≤57)):=fun k=>by
  by_cases c:r≥48
  · rw [if_pos c];congr 1;rw [Bool.eq_iff_iff];simp;omega
  · rw [if_neg c];congr 1;rw [Bool.eq_iff_iff];simp;omega
 refine Ev.congr e ?_;have:=class_j0 r _ rfl;refine Eq.mp (congrArg (fun z=>Ev _ (z,(0:Int))) ?_) this;rw [if_neg c1,if_neg c2,if_neg c3,if_neg c4,if_neg c5,if_neg c6]
 repeat' split
 all_goals first
  |rfl
  |(exfalso;omega)
  |(exfalso;rename_i h;have:=hL h;omega)
def digB (b:UInt8):Bool:=digitsB.contains b
theorem digB_iff (b:UInt8):digB b=(decide (48≤b.toNat)&&decide (b.toNat≤57)):=by
 rw [Bool.eq_iff_iff];simp [digB,digitsB];constructor
 · rintro (rfl|rfl|rfl|rfl|rfl|rfl|rfl|rfl|rfl|rfl)<;>decide
 · intro h
   have:b.toNat=48∨b.toNat=49∨b.toNat=50∨b.toNat=51∨b.toNat=52∨b.toNat=53∨b.toNat=54∨b.toNat=55∨b.toNat=56∨b.toNat=57:=by omega
   have e:b=UInt8.ofNat b.toNat:=by simp
   rcases this with h|h|h|h|h|h|h|h|h|h<;>(rw [e,h];decide)
theorem int_l0 (s:ByteArray) (hs:s.size≤1000): ∀(m i:Nat),s.size-i≤m→i≤s.size→Ev (fun k=>mummerref04_integer.l0 k s i) ((s.data.toList.drop i).all digB&&decide (0<s.size)):=by
 intro m
 induction m with
 |zero=>
  intro i h1 h2;rw [List.drop_eq_nil_of_le (by simp;omega)];refine Ev.step (f:=fun _=>some (decide (0<s.size))) (fun k=>?_) (by simp;exact Ev.now _);simp only [mummerref04_integer.l0];rw [if_neg (by omega)]
  congr 1;rw [Bool.eq_iff_iff];simp
 |succ m ih=>
  intro i h1 h2;by_cases hi:i<s.size
  · have hd:s.data.toList.drop i=s.data.toList[i]'(by simpa using hi)::s.data.toList.drop (i+1):=List.drop_eq_getElem_cons (by simpa using hi);rw [hd,List.all_cons,digB_iff];have hg:=bt_get s i hi;by_cases h48:bt s i<48
    · rw [decide_eq_false (show ¬48≤(s.data.toList[i]'(by simpa using hi)).toNat by omega)];refine Ev.step (f:=fun _=>some false) (fun k=>?_) (by simp;exact Ev.now _);simp only [mummerref04_integer.l0];rw [if_pos (by omega),if_pos (by omega),if_pos h48]
    · by_cases h57:bt s i>57
      · rw [decide_eq_false (show ¬(s.data.toList[i]'(by simpa using hi)).toNat≤57 by omega)];refine Ev.step (f:=fun _=>some false) (fun k=>?_) (by simp;exact Ev.now _);simp only [mummerref04_integer.l0];rw [if_pos (by omega),if_pos (by omega),if_neg h48,if_pos h57]
      · rw [decide_eq_true (show 48≤(s.data.toList[i]'(by simpa using hi)).toNat by omega),decide_eq_true (show (s.data.toList[i]'(by simpa using hi)).toNat≤57 by omega)];refine Ev.step (f:=fun k=>mummerref04_integer.l0 k s ((i+1:Nat):Int)) (fun k=>?_) (by simpa using ih (i+1) (by omega) (by omega));simp only [mummerref04_integer.l0];rw [if_pos (by omega),if_pos (by omega),if_neg h48,if_neg h57,wrap_small _ (by omega) (by omega)];rfl
  · rw [List.drop_eq_nil_of_le (by simp;omega)];refine Ev.step (f:=fun _=>some (decide (0<s.size))) (fun k=>?_) (by simp;exact Ev.now _);simp only [mummerref04_integer.l0];rw [if_neg (by omega)]
    congr 1;rw [Bool.eq_iff_iff];simp
theorem dropWhile_nil (p:UInt8→Bool): ∀l:List UInt8,(l.dropWhile p).isEmpty=l.all p
 |[]=>rfl
 |b::l=>by
  rw [List.dropWhile_cons];cases h:p b
  · simp [h]
  · simp [h,dropWhile_nil p l]
theorem any_all (l:List UInt8) (h:l.all digB=true) (h0:l≠[]) (c:List UInt8):0≤Lib.indexAny (c++l) digitsB:=by
 induction c with
 |nil=>
  cases l with
  |nil=>exact absurd rfl h0
  |cons b l=>
   simp only [List.all_cons,Bool.and_eq_true] at h;have h1:digitsB.contains b=true:=h.1;simp only [List.nil_append,Lib.indexAny];rw [h1];simp
 |cons b c ih=>
  simp only [List.cons_append,Lib.indexAny]
  split
  · omega
  · split
    · rename_i h2;have:=beq_iff_eq.mp h2;omega
    · omega
theorem int_plain (l:List UInt8):intB l=match l with
 |[]=>false
 |c::t=>if c=43∨c=45 then t.all digB&& !t.isEmpty else l.all digB:=by
 have key: ∀t:List UInt8,(Lib.trimLeftS t digitsB).isEmpty=t.all digB:=fun t=>dropWhile_nil _ t
 unfold intB restB
 cases l with
 |nil=>rfl
 |cons c t=>
  simp only;by_cases h1:c=43
  · subst h1;rw [if_pos (.inl rfl)]
    have e1:Lib.trimPrefix (43::t) [43]=t:=by simp [Lib.trimPrefix,Lib.hasPrefix]
    rw [e1,key]
    cases t with
    |nil=>rfl
    |cons d u=>
     by_cases h2:d=45
     · subst h2
       have e2:Lib.trimPrefix (45::u) [45]=u:=by simp [Lib.trimPrefix,Lib.hasPrefix]
       have e3:Lib.hasPrefix (43::45::u) [43,45]=true:=by simp [Lib.hasPrefix]
       rw [e2,e3]
       have e4:digB 45=false:=by decide
       simp [e4]
     · have e2:Lib.trimPrefix (d::u) [45]=d::u:=by simp [Lib.trimPrefix,Lib.hasPrefix,Ne.symm h2]
       have e3:Lib.hasPrefix (43::d::u) [43,45]=false:=by
          show ((43:UInt8)==43&&((45:UInt8)==d&&_))=false;rw [beq_eq_false_iff_ne.mpr (Ne.symm h2)];rfl
       rw [e2,e3];cases ha:(d::u).all digB
       · rfl
       · have:=any_all (d::u) ha (by simp) [43]
         have e5:Lib.containsAny (43::d::u) digitsB=true:=by unfold Lib.containsAny;exact decide_eq_true this
         rw [e5];rfl
  · have e1:Lib.trimPrefix (c::t) [43]=c::t:=by simp [Lib.trimPrefix,Lib.hasPrefix,Ne.symm h1]
    have e3:Lib.hasPrefix (c::t) [43,45]=false:=by
        show ((43:UInt8)==c&&_)=false;rw [beq_eq_false_iff_ne.mpr (Ne.symm h1)];rfl
    rw [e1,key,e3];by_cases h2:c=45
    · subst h2;rw [if_pos (.inr rfl)]
      have e2:Lib.trimPrefix (45::t) [45]=t:=by simp [Lib.trimPrefix,Lib.hasPrefix]
      rw [e2]
      cases t with
      |nil=>rfl
      |cons d u=>
       cases ha:(d::u).all digB
       · rfl
       · have:=any_all (d::u) ha (by simp) [45]
         have e5:Lib.containsAny (45::d::u) digitsB=true:=by unfold Lib.containsAny;exact decide_eq_true this
         rw [e5];rfl
    · have e2:Lib.trimPrefix (c::t) [45]=c::t:=by simp [Lib.trimPrefix,Lib.hasPrefix,Ne.symm h2]
      rw [e2,if_neg (by simp [h1,h2])];cases ha:(c::t).all digB
      · rfl
      · have:=any_all (c::t) ha (by simp) []
        have e5:Lib.containsAny (c::t) digitsB=true:=by unfold Lib.containsAny;exact decide_eq_true this
        rw [e5];rfl
theorem integer_ev (s:ByteArray) (hs:s.size≤1000):Ev (fun k=>mummerref04_integer.f k s) (intB s.data.toList):=by
 have hj1: ∀t:ByteArray,t.size≤1000→Ev (fun k=>mummerref04_integer.j1 k t) (t.data.toList.all digB&&decide (0<t.size)):=fun t ht=>
  Ev.step (fun k=>rfl) (int_l0 t ht t.size 0 (by omega) (by omega))
 rw [int_plain]
 have hsz:s.size=s.data.toList.length:=by simp
 by_cases h0:0<s.size
 · cases hl:s.data.toList with
   |nil=>rw [hl] at hsz;exact absurd hsz (by rw [List.length_nil];omega)
   |cons c t=>
    have hc:bt s 0=(c.toNat:Int):=by have:=bt_get s 0 h0;simp only [hl,List.getElem_cons_zero] at this;exact this
    simp only
    have hex:(s.extract 1 s.size).data.toList=t:=by
        have:(s.extract 1 s.size).data=s.data.extract 1 s.size:=by simp [ByteArray.data_extract]
        rw [this,Array.toList_extract];simp [List.extract,hl,hsz]
    have hexs:(s.extract 1 s.size).size=t.length:=by have:=congrArg List.length hex;simpa using this
    by_cases h43:c=43
    · subst h43;rw [if_pos (.inl rfl)];have h2:=hj1 (s.extract 1 s.size) (by rw [hexs];rw [hl] at hsz;simp at hsz;omega);rw [hex,hexs] at h2
      have e:(t.all digB&& !t.isEmpty)=(t.all digB&&decide (0<t.length)):=by cases t<;>simp
      rw [e];refine Ev.congr (f:=fun k=>mummerref04_integer.j0 k s true) (fun k=>by unfold mummerref04_integer.f;rw [if_pos (by omega),if_pos (by omega),hc,if_pos (by decide)]) (Ev.step (fun k=>?_) h2);simp only [mummerref04_integer.j0];rw [if_pos trivial,if_pos (by omega)]
    · have n43: ¬((c.toNat:Int)=43):=fun h=>h43 (UInt8.toNat_inj.mp (Int.ofNat_inj.mp h))
      by_cases h45:c=45
      · subst h45;rw [if_pos (.inr rfl)];have h2:=hj1 (s.extract 1 s.size) (by rw [hexs];rw [hl] at hsz;simp at hsz;omega);rw [hex,hexs] at h2
        have e:(t.all digB&& !t.isEmpty)=(t.all digB&&decide (0<t.length)):=by cases t<;>simp
        rw [e];refine Ev.congr (f:=fun k=>mummerref04_integer.j0 k s true) (fun k=>by unfold mummerref04_integer.f;rw [if_pos (by omega),if_pos (by omega),hc,if_neg n43];rfl) (Ev.step (fun k=>?_) h2);simp only [mummerref04_integer.j0];rw [if_pos trivial,if_pos (by omega)]
      · have n45: ¬((c.toNat:Int)=45):=fun h=>h45 (UInt8.toNat_inj.mp (Int.ofNat_inj.mp h))
        rw [if_neg (by simp [h43,h45])];have h2:=hj1 s hs;rw [hl,decide_eq_true h0,Bool.and_true] at h2;refine Ev.congr (f:=fun k=>mummerref04_integer.j0 k s false) (fun k=>by unfold mummerref04_integer.f;rw [if_pos (by omega),if_pos (by omega),hc,if_neg n43,beq_eq_false_iff_ne.mpr n45]) (Ev.step (fun k=>?_) h2);simp only [mummerref04_integer.j0];rw [if_neg (by decide)]
 · have e:s.data.toList=[]:=List.length_eq_zero_iff.mp (by omega);rw [e];have h2:=hj1 s hs;rw [e,decide_eq_false h0] at h2;refine Ev.congr (f:=fun k=>mummerref04_integer.j0 k s false) (fun k=>by unfold mummerref04_integer.f;rw [if_neg (by omega)]) (Ev.step (fun k=>?_) h2);simp only [mummerref04_integer.j0];rw [if_neg (by decide)]
end Go.Proofs.YtgmiekggdgmhkaaGreatDoor.R
end
section
namespace Go.Proofs.YtgmiekggdgmhkaaGreatDoor.Q
open Go.RowKit Go.Proofs.YtgmiekggdgmhkaaGreatDoorW.PrintWords Go.Proofs.YtgmiekggdgmhkaaGreatDoorW.PrintLast Go.Proofs.YtgmiekggdgmhkaaGreatDoorW.PrintMore
set_option linter.unusedVariables false
set_option linter.unusedSimpArgs false
theorem s4_int (s:ByteArray) (hs:s.size≤24) (W:World):Calls Tryz.prog 64 #[.string s] W fun e w'=>e= .returned (.bool (intB s.data.toList))∧Below W.heap.size W w':=by
 obtain ⟨k,hk⟩:=(R.integer_ev s (by omega)).rounds
 exact (R.mummerref04_integer.calls k s _ W hk).mono fun e w' h=>⟨h.1,h.2.below⟩
theorem s4_cls (r:Int) (hr:Lib.validRune r=true) (W:World):Calls Tryz.prog 66 #[.int .i32 r] W fun e w'=>e= .returned (.tuple #[.int .i64 (clsOf r),.int .i64 0])∧Below W.heap.size W w':=by
 obtain ⟨k,hk⟩:=(R.class_ev r hr).rounds
 exact (R.mummerref02_Class.calls k r _ _ W hk).mono fun e w' h=>⟨h.1,h.2.below⟩
theorem s4_bad (s:ByteArray) (hs:s.size≤24) (hok:okB (bytesOf s)=false): ∃q:Int,(q != 0)=true∧ ∀W:World,Calls Tryz.prog 65 #[.slice (some ⟨W.heap.size,0,none⟩) s.size (grownCap W s.size 0 5)] (Lib.bytesWorld W 5 s) fun e w'=>(∃v,e= .returned (.tuple #[v,.int .i64 q]))∧Below (Lib.bytesWorld W 5 s).heap.size (Lib.bytesWorld W 5 s) w':=by
 obtain ⟨q,hq,hev⟩:=R.runes_bad (bytesOf s) (bytesOf_bytes s) hok;obtain ⟨k,hk⟩:=hev.rounds;refine ⟨q,bne_iff_ne.mpr hq,fun W=>?_⟩;have hR:=bytes_reads W 5 s (by omega);have:=R.mummerref02_Runes.calls k (some ⟨W.heap.size,0,none⟩) (grownCap W s.size 0 5) (bytesOf s) _ _ (Lib.bytesWorld W 5 s) (by rw [bytesOf_length];exact Kd.C_of_reads (d:=(0:Int)) (h1:=fun _=>rfl) hR) (by rw [bytesOf_length];exact grownCap_ge _ _ _ _) hk;rw [bytesOf_length] at this
 exact this.mono fun e w' ⟨v,he,_,hb⟩=>⟨⟨v,he⟩,hb⟩
theorem s4_good (s:ByteArray) (hs:s.size≤24) (hok:okB (bytesOf s)=true) (W:World):Calls Tryz.prog 65 #[.slice (some ⟨W.heap.size,0,none⟩) s.size (grownCap W s.size 0 5)] (Lib.bytesWorld W 5 s) fun e w'=>(∃A c,e= .returned (.tuple #[.slice A (runesOf (bytesOf s)).length c,.int .i64 0])∧ReadsInt w' .i32 A (runesOf (bytesOf s)).length (runesOf (bytesOf s)))∧Below (Lib.bytesWorld W 5 s).heap.size (Lib.bytesWorld W 5 s) w':=by
 obtain ⟨k,hk⟩:=(R.runes_ok (bytesOf s) (bytesOf_bytes s) hok).rounds;have hR:=bytes_reads W 5 s (by omega);have:=R.mummerref02_Runes.calls k (some ⟨W.heap.size,0,none⟩) (grownCap W s.size 0 5) (bytesOf s) _ _ (Lib.bytesWorld W 5 s) (by rw [bytesOf_length];exact Kd.C_of_reads (d:=(0:Int)) (h1:=fun _=>rfl) hR) (by rw [bytesOf_length];exact grownCap_ge _ _ _ _) hk;rw [bytesOf_length] at this
 exact this.mono fun e w' ⟨v,he,hown,hb⟩=>⟨by
  obtain ⟨A,c,rfl,hr⟩:=own_reads (Kd.own_of_R hown)
  exact ⟨A,c,he,hr⟩,hb⟩
set_option maxRecDepth 100000 in
set_option maxHeartbeats 2000000 in
theorem s4_empty (s:ByteArray) (w:World) (h0:(s.size:Int)<1):Calls Tryz.prog 34 #[.string s] w fun e w'=>e= .returned (.bool false)∧w=w':=by
 have d:decide ((s.size:Int)<1)=true:=decide_eq_true h0;go_enter Tryz.func34,Tryz.ntmps34;go_wp2;go_ret;exact ⟨rfl,rfl⟩
set_option maxRecDepth 100000 in
set_option maxHeartbeats 2000000 in
theorem s4_long (s:ByteArray) (w:World) (h0: ¬(s.size:Int)<1) (h1:(24:Int)<s.size):Calls Tryz.prog 34 #[.string s] w fun e w'=>e= .returned (.bool false)∧w=w':=by
 have d:decide ((s.size:Int)<1)=false:=decide_eq_false h0;have d1:decide ((24:Int)<s.size)=true:=decide_eq_true h1;go_enter Tryz.func34,Tryz.ntmps34;go_wp2;go_ret;exact ⟨rfl,rfl⟩
set_option maxRecDepth 100000 in
set_option maxHeartbeats 2000000 in
theorem s4_isint (s:ByteArray) (w:World) (h0: ¬(s.size:Int)<1) (h1: ¬(24:Int)<s.size) (hi:intB s.data.toList=true):Calls Tryz.prog 34 #[.string s] w fun e w'=>e= .returned (.bool false)∧Below w.heap.size w w':=by
 have d:decide ((s.size:Int)<1)=false:=decide_eq_false h0;have d1:decide ((24:Int)<s.size)=false:=decide_eq_false h1;have hc:=s4_int s (by omega);rw [hi] at hc;have HC:=Aside0.mk hc;clear hc hi;go_enter Tryz.func34,Tryz.ntmps34
 go_wp2_with (go_at_call 64;refine (HC.out _).mono ?_;rintro e w1 ⟨rfl,hb1⟩)
 go_ret;exact ⟨rfl,hb1⟩
set_option maxRecDepth 100000 in
set_option maxHeartbeats 2000000 in
theorem s4_no (s:ByteArray) (w:World) (h0: ¬(s.size:Int)<1) (h1: ¬(24:Int)<s.size) (hi:intB s.data.toList=false) (hok:okB (bytesOf s)=false):Calls Tryz.prog 34 #[.string s] w fun e w'=>e= .returned (.bool false)∧Below w.heap.size w w':=by
 have d:decide ((s.size:Int)<1)=false:=decide_eq_false h0;have d1:decide ((24:Int)<s.size)=false:=decide_eq_false h1;have hc:=s4_int s (by omega);rw [hi] at hc;have HC:=Aside0.mk hc;obtain ⟨q,hq,hr⟩:=s4_bad s (by omega) hok;have HR:=Aside0.mk hr
 have kb:=fun W=>print_bytes (P:=Tryz.prog) 9 80 5 Tryz.underlying9 Tryz.underlying80 Tryz.underlying5 s W
 clear hc hi hr hok;go_enter Tryz.func34,Tryz.ntmps34
 go_wp2_with (first
  |(go_at_call 64;refine (HC.out _).mono ?_;rintro e w1 ⟨rfl,hb1⟩)
  |(go_at_call 65;refine (HR.out _).mono ?_;rintro e w2 ⟨⟨v,rfl⟩,hb2⟩))
 go_ret;exact ⟨rfl,below_then (bytes_below hb1 hb1.size _ _) (bytes_below hb1 hb1.size _ _).size hb2⟩
set_option maxRecDepth 100000 in
set_option maxHeartbeats 4000000 in
theorem s4_yes (s:ByteArray) (w:World) (h0: ¬(s.size:Int)<1) (h1: ¬(24:Int)<s.size) (hi:intB s.data.toList=false) (hok:okB (bytesOf s)=true):Calls Tryz.prog 34 #[.string s] w fun e w'=>e= .returned (.bool ((runesOf (bytesOf s)).all symCls))∧Below w.heap.size w w':=by
 have d:decide ((s.size:Int)<1)=false:=decide_eq_false h0;have d1:decide ((24:Int)<s.size)=false:=decide_eq_false h1;have hc:=s4_int s (by omega);rw [hi] at hc;have HC:=Aside0.mk hc;have hr:=s4_good s (by omega) hok;have HR:=Aside0.mk hr
 have kb:=fun W=>print_bytes (P:=Tryz.prog) 9 80 5 Tryz.underlying9 Tryz.underlying80 Tryz.underlying5 s W
 have hval:=runesOf_valid (bytesOf s);clear hc hi hr hok;go_enter Tryz.func34,Tryz.ntmps34
 go_wp2_with (first
  |(go_at_call 64;refine (HC.out _).mono ?_;rintro e w1 ⟨rfl,hb1⟩)
  |(go_at_call 65;refine (HR.out _).mono ?_;rintro e w6 ⟨⟨A,c,rfl,hread⟩,hb2⟩))
 have hb3:=below_then (bytes_below hb1 hb1.size 5 s) (bytes_below hb1 hb1.size 5 s).size hb2;clear hb1 hb2 HR;generalize hrs:runesOf (bytesOf s)=rs at *; have HRS:=Aside0.mk hrs;have HV:=Aside0.mk hval;have HRD:=Aside0.mk hread;have hmax:=hread.2.1;clear hval hread hrs
 obtain ⟨w7,hw7⟩: ∃w7,w7=w6:=⟨_,rfl⟩
 go_loopw [5] (fun i wr=> ∃k:Nat,i= .int .i64 k∧k≤rs.length∧Aside0 ((rs.take k).all symCls=true)∧Aside0 (Below w6.heap.size w6 wr)) (fun i _=>rs.length-(intOf i).toNat)
 case atStart=>exact ⟨0,rfl,Nat.zero_le _,⟨rfl⟩,⟨Below.refl _ _⟩⟩
 case round=>
  obtain ⟨k,rfl,hk,HS,HB⟩:=hrel;by_cases hlt:k<rs.length
  · have hltI:(k:Int)<rs.length:=by omega
    obtain ⟨ad,rfl,hcell⟩:=(HRD.out.below HB.out).at_ k (by omega) hltI;rw [Int.toNat_natCast] at hcell
    have hv:Lib.validRune (rd rs k)=true:=HV.out _ (by
        have:rd rs k=rs[k]'hlt:=by simp [rd,List.getD_eq_getElem?_getD,List.getElem?_eq_getElem hlt]
        rw [this];exact List.getElem_mem hlt)
    obtain ⟨cl,hcl⟩: ∃cl,clsOf (rd rs k)=cl:=⟨_,rfl⟩
    have hcc: ∀W,Calls Tryz.prog 66 #[.int .i32 (rd rs k)] W fun e w'=>e= .returned (.tuple #[.int .i64 cl,.int .i64 0])∧Below W.heap.size W w':=fun W=>by rw [←hcl];exact s4_cls _ hv W
    have hsucc:=all_take_succ rs k hlt;rw [HS.out] at hsucc;by_cases hs:cl=9∨cl=7∨cl=8
    · have hsy:(rs.take (k+1)).all symCls=true:=by
       rw [hsucc];unfold symCls;rw [hcl];rcases hs with rfl|rfl|rfl<;>rfl
      have HC:=Aside0.mk hcc;have HSY:=Aside0.mk hsy;clear hcc hsucc hsy hv hcl
      rcases hs with rfl|rfl|rfl
      all_goals
       go_wp2_with (go_at_call 66;refine (HC.out _).mono ?_;rintro e w8 ⟨rfl,hb8⟩)
       go_roundw
       case rel=>exact ⟨k+1,by go_num,hlt,HSY,⟨below_then HB.out HB.out.size hb8⟩⟩
       case measure=>simp [intOf];omega
    · have hall:rs.all symCls=false:=all_false_of_take rs (k+1) (by
       rw [hsucc];unfold symCls;rw [hcl,beq_eq_false_iff_ne.mpr (fun e=>hs (.inl e)),beq_eq_false_iff_ne.mpr (fun e=>hs (.inr (.inl e))),beq_eq_false_iff_ne.mpr (fun e=>hs (.inr (.inr e)))];rfl)
      have n9:(cl==9)=false:=beq_eq_false_iff_ne.mpr (fun e=>hs (.inl e));have n7:(cl==7)=false:=beq_eq_false_iff_ne.mpr (fun e=>hs (.inr (.inl e)));have n8:(cl==8)=false:=beq_eq_false_iff_ne.mpr (fun e=>hs (.inr (.inr e)));have m9:(cl != 9)=true:=bne_iff_ne.mpr (fun e=>hs (.inl e));have m7:(cl != 7)=true:=bne_iff_ne.mpr (fun e=>hs (.inr (.inl e)));have m8:(cl != 8)=true:=bne_iff_ne.mpr (fun e=>hs (.inr (.inr e)));have HC:=Aside0.mk hcc;have HA:=Aside0.mk hall;clear hcc hsucc hall hv hcl hs
      go_wp2_with (go_at_call 66;refine (HC.out _).mono ?_;rintro e w8 ⟨rfl,hb8⟩)
      go_ret;exact ⟨by rw [HRS.out,HA.out];rfl,below_then hb3 hb3.size (below_then HB.out HB.out.size hb8)⟩
  · have hk2:k=rs.length:=by omega
    have hall:rs.all symCls=true:=by have:=HS.out;rwa [hk2,List.take_length] at this
    have HA:=Aside0.mk hall;clear hall hk2;go_wp2;go_ret;exact ⟨by rw [HRS.out,HA.out];rfl,below_then hb3 hb3.size HB.out⟩
def mummerref04_Symbol.f (a0:ByteArray):Option (Bool):=some (symB a0)
theorem mummerref04_Symbol.calls (a0:ByteArray) (r:Bool) (w:World) (h:mummerref04_Symbol.f a0=some r):
 Calls Tryz.prog 34 #[.string a0] w fun e w'=>e= .returned (.bool r)∧Below w.heap.size w w':=by
 obtain rfl:=Option.some.inj h;unfold symB;by_cases h0:(a0.size:Int)<1
 · rw [decide_eq_false (show ¬1≤a0.size by omega)]
   exact (s4_empty a0 w h0).mono fun e w' ⟨he,hw⟩=>⟨he,hw▸Below.refl _ _⟩
 rw [decide_eq_true (show 1≤a0.size by omega)];by_cases h1:(24:Int)<a0.size
 · rw [decide_eq_false (show ¬a0.size≤24 by omega)]
   exact (s4_long a0 w h0 h1).mono fun e w' ⟨he,hw⟩=>⟨he,hw▸Below.refl _ _⟩
 rw [decide_eq_true (show a0.size≤24 by omega)]
 cases hi:intB a0.data.toList with
 |true=>exact s4_isint a0 w h0 h1 hi
 |false=>
  cases hok:okB (bytesOf a0) with
  |false=>exact s4_no a0 w h0 h1 hi hok
  |true=>exact s4_yes a0 w h0 h1 hi hok
end Go.Proofs.YtgmiekggdgmhkaaGreatDoor.Q
end
section
namespace Go.Proofs.YtgmiekggdgmhkaaGreatDoor.Q
open Go.RowKit Go.Proofs.YtgmiekggdgmhkaaGreatDoorW.PrintWords Go.Proofs.YtgmiekggdgmhkaaGreatDoorW.PrintLast Go.Proofs.YtgmiekggdgmhkaaGreatDoorW.PrintMore
attribute [local go_sem] max2_int min2_int max_two min_two max_three min_three max_four min_four
set_option linter.unusedVariables false
set_option linter.unusedSimpArgs false
def mummerref04_value.j0:Nat→Bool→Int→Int→Int→ByteArray→Option (Int)
 |0,_,_,_,_,_=>none
 |k+1,x15,x223000,x223001,x223002,x223003=>if x15=true then (some 7) else (if x223000=3 then ((mummerref04_Symbol.f x223003).bind fun t223=>(if t223=true then (some 0) else (some 6))) else (some 0))
def mummerref04_value.f (k:Nat) (a0_0:Int) (a0_1:Int) (a0_2:Int) (a0_3:ByteArray):Option (Int):=if a0_0=2 then (if a0_2=0 then (mummerref04_value.j0 k false a0_0 a0_1 a0_2 a0_3) else (mummerref04_value.j0 k (a0_2 != 1) a0_0 a0_1 a0_2 a0_3)) else (mummerref04_value.j0 k false a0_0 a0_1 a0_2 a0_3)
theorem mummerref04_value.mono_l: ∀k,(∀y0 y1 y2 y3 y4,LeO (mummerref04_value.j0 k y0 y1 y2 y3 y4) (mummerref04_value.j0 (k+1) y0 y1 y2 y3 y4))
 |0=>fun _ _ _ _ _ r h=>by simp [mummerref04_value.j0] at h
 |k+1=>by
  have ih0:=mummerref04_value.mono_l k
  · intro y0 y1 y2 y3 y4;unfold mummerref04_value.j0
    repeat' first
    |(with_reducible exact ih0 _ _ _ _ _)
    |(with_reducible exact LeO.refl _)
    |(with_reducible exact LeO.none _)
    |(with_reducible refine LeO.ite ?_ ?_)
    |(with_reducible refine LeO.bind ?_ (fun _=>?_))
    |exact ih0 _ _ _ _ _
    |exact LeO.none _
    |refine LeO.ite ?_ ?_
    |refine LeO.bind ?_ (fun _=>?_)
theorem mummerref04_value.mono: ∀a0 a1 a2 a3 k,LeO (mummerref04_value.f k a0 a1 a2 a3) (mummerref04_value.f (k+1) a0 a1 a2 a3):=by
 intro a0 a1 a2 a3 k;have ih0:=mummerref04_value.mono_l k;unfold mummerref04_value.f
 repeat' first
  |(with_reducible exact ih0 _ _ _ _ _)
  |(with_reducible exact LeO.refl _)
  |(with_reducible exact LeO.none _)
  |(with_reducible refine LeO.ite ?_ ?_)
  |(with_reducible refine LeO.bind ?_ (fun _=>?_))
  |exact ih0 _ _ _ _ _
  |exact LeO.none _
  |refine LeO.ite ?_ ?_
  |refine LeO.bind ?_ (fun _=>?_)
set_option maxHeartbeats 8000000 in
set_option maxRecDepth 100000 in
theorem mummerref04_value.calls (k:Nat) (a0_0:Int) (a0_1:Int) (a0_2:Int) (a0_3:ByteArray) (r:Int) (w:World) (h:mummerref04_value.f k a0_0 a0_1 a0_2 a0_3=some r):
 Calls Tryz.prog 57 #[.agg #[.int .i64 a0_0,.int .i64 a0_1,.int .i64 a0_2,.string a0_3]] w fun e w'=>e= .returned (.int .i64 r)∧Below w.heap.size w w':=by
 have hu40:=Tryz.underlying40;have HB:=Aside0.mk (Below.refl w.heap.size w);have H:(if a0_0=2 then (if a0_2=0 then (mummerref04_value.j0 k false a0_0 a0_1 a0_2 a0_3) else (mummerref04_value.j0 k (a0_2 != 1) a0_0 a0_1 a0_2 a0_3)) else (mummerref04_value.j0 k false a0_0 a0_1 a0_2 a0_3))=some r:=h;clear h;have HC2:=Aside0.mk H;clear H;go_enter Tryz.func57,Tryz.ntmps57
 go_upto_region 1 with (first|((with_reducible refine gate_dst (N:=1) rfl ?_);refine box_event ?hg (N:=1) ?hd (cs:= #[.int .i64 a0_0,.int .i64 a0_1,.int .i64 a0_2,.string a0_3]) (t:=40) ?hr ?_;(case hd=>rfl);(case hg=>rfl);(case hr=>first|(go_simp;done)|(go_simp;rfl));intro gb222 hg w3 hbox hb;have n0_:=Aside0.mk (below_step (by repeat (first|(with_reducible first|exact HB.out|apply below_alloc|apply pw_below_drewN|apply below_drew1)|exact HB.out)) hb);have n1_:=Aside0.mk (hbox);have n2_:=Aside0.mk ((by rw [hg];exact (below_size (by repeat (first|(with_reducible first|exact HB.out|apply below_alloc|apply pw_below_drewN|apply below_drew1)|exact HB.out))):w.heap.size≤gb222));have n3_:=Aside0.mk ((by rw [hg];exact (below_size (by repeat (first|(with_reducible first|exact HB.out|apply below_alloc|apply pw_below_drewN|apply below_drew1)|exact HB.out))):w.heap.size≤gb222));clear HB;have HB:=n0_;have BK222:=n1_;have GW222:=n2_;have GE222:=n3_;clear n0_ n1_ n2_ n3_;clear hb hbox hg))
 (try simp only [Act.put,List.setIfInBounds_toArray,List.set_cons_zero,List.set_cons_succ])
 go_cut [15] (fun v15 wc=> ∃(kq:Nat) (x15_1:Bool),v15= .bool x15_1∧Aside0 (mummerref04_value.j0 kq x15_1 a0_0 a0_1 a0_2 a0_3=some r)∧Aside0 (kq≤k)∧Aside0 (wc.heap[gb222]? =some (.cells #[.int .i64 a0_0,.int .i64 a0_1,.int .i64 a0_2,.string a0_3] 40 (0,0)))∧Aside0 (Below w.heap.size w wc))
 case first=>
  have H:=HC2.out;clear HC2;by_cases c4:a0_0=2
  · rw [if_pos c4] at H;have c4b0:(a0_0==2)=true:=beq_iff_eq.mpr c4;have c4b1:(a0_0 != 2)=false:=bne_eq_false_iff_eq.mpr c4;clear c4
    (first|rw [c4b0]|(simp only [i64_w,i32_w];rw [c4b0])|skip)
    by_cases c5:a0_2=0
    · rw [if_pos c5] at H;have c5b0:(a0_2==0)=true:=beq_iff_eq.mpr c5;have c5b1:(a0_2 != 0)=false:=bne_eq_false_iff_eq.mpr c5;clear c5;have H':=Aside0.mk H;clear H;have hcz6_0:w3.cell? ⟨gb222,0,none⟩=some (.int .i64 a0_0):=(blk_cell BK222.out 0).trans rfl;have hcz6_1:w3.cell? ⟨gb222,1,none⟩=some (.int .i64 a0_1):=(blk_cell BK222.out 1).trans rfl;have hcz6_2:w3.cell? ⟨gb222,2,none⟩=some (.int .i64 a0_2):=(blk_cell BK222.out 2).trans rfl;have hcz6_3:w3.cell? ⟨gb222,3,none⟩=some (.string a0_3):=(blk_cell BK222.out 3).trans rfl;have hfz6_0:=blk_frozen BK222.out 0;have hfz6_1:=blk_frozen BK222.out 1;have hfz6_2:=blk_frozen BK222.out 2;have hfz6_3:=blk_frozen BK222.out 3;go_wp2
      go_meet
      case rel=>exact ⟨_,(false),(by first|rfl|(simp;done)|(simp [*];done)),H',⟨by first|omega|exact Nat.le_refl _⟩,⟨by (with_reducible repeat (first|refine blk_drewN ?_ _|refine blk_drew ?_|refine blk_alloc ?_ _));exact BK222.out⟩,⟨by repeat (first|(with_reducible first|exact HB.out|apply below_alloc|apply pw_below_drewN|apply below_drew1|refine below_set ?_ GE222.out)|exact HB.out)⟩⟩
    · rw [if_neg c5] at H;have c5b0:(a0_2==0)=false:=beq_eq_false_iff_ne.mpr c5;have c5b1:(a0_2 != 0)=true:=bne_iff_ne.mpr c5;have H':=Aside0.mk H;clear H;have hcz7_0:w3.cell? ⟨gb222,0,none⟩=some (.int .i64 a0_0):=(blk_cell BK222.out 0).trans rfl;have hcz7_1:w3.cell? ⟨gb222,1,none⟩=some (.int .i64 a0_1):=(blk_cell BK222.out 1).trans rfl;have hcz7_2:w3.cell? ⟨gb222,2,none⟩=some (.int .i64 a0_2):=(blk_cell BK222.out 2).trans rfl;have hcz7_3:w3.cell? ⟨gb222,3,none⟩=some (.string a0_3):=(blk_cell BK222.out 3).trans rfl;have hfz7_0:=blk_frozen BK222.out 0;have hfz7_1:=blk_frozen BK222.out 1;have hfz7_2:=blk_frozen BK222.out 2;have hfz7_3:=blk_frozen BK222.out 3;go_wp2
      go_meet
      case rel=>exact ⟨_,((a0_2 != 1)),(by first|rfl|(simp;done)|(simp [*];done)),H',⟨by first|omega|exact Nat.le_refl _⟩,⟨by (with_reducible repeat (first|refine blk_drewN ?_ _|refine blk_drew ?_|refine blk_alloc ?_ _));exact BK222.out⟩,⟨by repeat (first|(with_reducible first|exact HB.out|apply below_alloc|apply pw_below_drewN|apply below_drew1|refine below_set ?_ GE222.out)|exact HB.out)⟩⟩
  · rw [if_neg c4] at H;have c4b0:(a0_0==2)=false:=beq_eq_false_iff_ne.mpr c4;have c4b1:(a0_0 != 2)=true:=bne_iff_ne.mpr c4
    (first|rw [c4b0]|(simp only [i64_w,i32_w];rw [c4b0])|skip)
    have H':=Aside0.mk H;clear H;have hcz8_0:w3.cell? ⟨gb222,0,none⟩=some (.int .i64 a0_0):=(blk_cell BK222.out 0).trans rfl;have hcz8_1:w3.cell? ⟨gb222,1,none⟩=some (.int .i64 a0_1):=(blk_cell BK222.out 1).trans rfl;have hcz8_2:w3.cell? ⟨gb222,2,none⟩=some (.int .i64 a0_2):=(blk_cell BK222.out 2).trans rfl;have hcz8_3:w3.cell? ⟨gb222,3,none⟩=some (.string a0_3):=(blk_cell BK222.out 3).trans rfl;have hfz8_0:=blk_frozen BK222.out 0;have hfz8_1:=blk_frozen BK222.out 1;have hfz8_2:=blk_frozen BK222.out 2;have hfz8_3:=blk_frozen BK222.out 3;go_wp2
    go_meet
    case rel=>exact ⟨_,(false),(by first|rfl|(simp;done)|(simp [*];done)),H',⟨by first|omega|exact Nat.le_refl _⟩,⟨by (with_reducible repeat (first|refine blk_drewN ?_ _|refine blk_drew ?_|refine blk_alloc ?_ _));exact BK222.out⟩,⟨by repeat (first|(with_reducible first|exact HB.out|apply below_alloc|apply pw_below_drewN|apply below_drew1|refine below_set ?_ GE222.out)|exact HB.out)⟩⟩
 case rest=>
  clear HC2
  try clear p2
  try clear c4
  try clear c4b0
  try clear c4b1
  try clear c5
  try clear c5b0
  try clear c5b1
  try clear hcz6_0
  try clear hcz6_1
  try clear hcz6_2
  try clear hcz6_3
  try clear hcz7_0
  try clear hcz7_1
  try clear hcz7_2
  try clear hcz7_3
  try clear hcz8_0
  try clear hcz8_1
  try clear hcz8_2
  try clear hcz8_3
  try clear hfz6_0
  try clear hfz6_1
  try clear hfz6_2
  try clear hfz6_3
  try clear hfz7_0
  try clear hfz7_1
  try clear hfz7_2
  try clear hfz7_3
  try clear hfz8_0
  try clear hfz8_1
  try clear hfz8_2
  try clear hfz8_3
  obtain ⟨kq,x15_1,rfl,HA,HJ1,BK222,HB⟩:=hcut
  cases kq with
  |zero=>exact absurd HA.out (by simp [mummerref04_value.j0])
  |succ kj1=>
   have H:=HA.out;clear HA;simp only [mummerref04_value.j0] at H;by_cases c9:x15_1=true
   · subst c9
     have H1:(some 7)=some r:=by rw [if_pos rfl] at H;exact H
     clear H;have H:=H1;clear H1;obtain rfl:=Option.some.inj H;go_wp2;go_ret;exact ⟨by first|rfl|(simp [errW_none,errW_some]<;>rfl)|(simp [*, errW_none,errW_some]<;>rfl),by repeat (first|(with_reducible first|exact HB.out|apply below_alloc|apply pw_below_drewN|apply below_drew1|refine below_set ?_ GE222.out)|exact HB.out)⟩
   · replace c9:=Bool.eq_false_iff.mpr c9;subst c9
     have H1:(if a0_0=3 then ((mummerref04_Symbol.f a0_3).bind fun t223=>(if t223=true then (some 0) else (some 6))) else (some 0))=some r:=by rw [if_neg (show ¬(false=true) by decide)] at H;exact H
     clear H;have H:=H1;clear H1;by_cases c10:a0_0=3
     · rw [if_pos c10] at H;have c10b0:(a0_0==3)=true:=beq_iff_eq.mpr c10;have c10b1:(a0_0 != 3)=false:=bne_eq_false_iff_eq.mpr c10;clear c10;replace H:=Option.bind_eq_some_iff.mp H;obtain ⟨t223,A110,H⟩:=H;replace H:(if t223=true then (some 0) else (some 6))=some r:=H;have A11:=Aside0.mk A110;clear A110;by_cases c12:t223=true
       · subst c12
         have H1:(some 0)=some r:=by rw [if_pos rfl] at H;exact H
         clear H;have H:=H1;clear H1;obtain rfl:=Option.some.inj H;have hcz13_0:wc.cell? ⟨gb222,0,none⟩=some (.int .i64 a0_0):=(blk_cell BK222.out 0).trans rfl;have hcz13_1:wc.cell? ⟨gb222,1,none⟩=some (.int .i64 a0_1):=(blk_cell BK222.out 1).trans rfl;have hcz13_2:wc.cell? ⟨gb222,2,none⟩=some (.int .i64 a0_2):=(blk_cell BK222.out 2).trans rfl;have hcz13_3:wc.cell? ⟨gb222,3,none⟩=some (.string a0_3):=(blk_cell BK222.out 3).trans rfl;have hfz13_0:=blk_frozen BK222.out 0;have hfz13_1:=blk_frozen BK222.out 1;have hfz13_2:=blk_frozen BK222.out 2;have hfz13_3:=blk_frozen BK222.out 3
         go_wp2_with (first|(go_at_call 34;(with_reducible refine (mummerref04_Symbol.calls a0_3 true _ A11.out).mono ?_);rintro e w14 ⟨rfl,hb⟩;have n0_:=Aside0.mk (blk_below (g:=gb222) (o:= .cells #[.int .i64 a0_0,.int .i64 a0_1,.int .i64 a0_2,.string a0_3] 40 (0,0)) (by (with_reducible repeat (first|refine blk_drewN ?_ _|refine blk_drew ?_|refine blk_alloc ?_ _));exact BK222.out) hb);have n1_:=Aside0.mk (below_step (by repeat (first|(with_reducible first|exact HB.out|apply below_alloc|apply pw_below_drewN|apply below_drew1|refine below_set ?_ GE222.out)|exact HB.out)) hb);clear BK222;clear HB;have BK222:=n0_;have HB:=n1_;clear n0_ n1_;(try clear hb);(try clear hb2);(try clear hk);(try clear hi)))
         go_ret;exact ⟨by first|rfl|(simp [errW_none,errW_some]<;>rfl)|(simp [*, errW_none,errW_some]<;>rfl),by repeat (first|(with_reducible first|exact HB.out|apply below_alloc|apply pw_below_drewN|apply below_drew1|refine below_set ?_ GE222.out)|exact HB.out)⟩
       · replace c12:=Bool.eq_false_iff.mpr c12;subst c12
         have H1:(some 6)=some r:=by rw [if_neg (show ¬(false=true) by decide)] at H;exact H
         clear H;have H:=H1;clear H1;obtain rfl:=Option.some.inj H;have hcz15_0:wc.cell? ⟨gb222,0,none⟩=some (.int .i64 a0_0):=(blk_cell BK222.out 0).trans rfl;have hcz15_1:wc.cell? ⟨gb222,1,none⟩=some (.int .i64 a0_1):=(blk_cell BK222.out 1).trans rfl;have hcz15_2:wc.cell? ⟨gb222,2,none⟩=some (.int .i64 a0_2):=(blk_cell BK222.out 2).trans rfl;have hcz15_3:wc.cell? ⟨gb222,3,none⟩=some (.string a0_3):=(blk_cell BK222.out 3).trans rfl;have hfz15_0:=blk_frozen BK222.out 0;have hfz15_1:=blk_frozen BK222.out 1;have hfz15_2:=blk_frozen BK222.out 2;have hfz15_3:=blk_frozen BK222.out 3
         go_wp2_with (first|(go_at_call 34;(with_reducible refine (mummerref04_Symbol.calls a0_3 false _ A11.out).mono ?_);rintro e w16 ⟨rfl,hb⟩;have n0_:=Aside0.mk (blk_below (g:=gb222) (o:= .cells #[.int .i64 a0_0,.int .i64 a0_1,.int .i64 a0_2,.string a0_3] 40 (0,0)) (by (with_reducible repeat (first|refine blk_drewN ?_ _|refine blk_drew ?_|refine blk_alloc ?_ _));exact BK222.out) hb);have n1_:=Aside0.mk (below_step (by repeat (first|(with_reducible first|exact HB.out|apply below_alloc|apply pw_below_drewN|apply below_drew1|refine below_set ?_ GE222.out)|exact HB.out)) hb);clear BK222;clear HB;have BK222:=n0_;have HB:=n1_;clear n0_ n1_;(try clear hb);(try clear hb2);(try clear hk);(try clear hi)))
         go_ret;exact ⟨by first|rfl|(simp [errW_none,errW_some]<;>rfl)|(simp [*, errW_none,errW_some]<;>rfl),by repeat (first|(with_reducible first|exact HB.out|apply below_alloc|apply pw_below_drewN|apply below_drew1|refine below_set ?_ GE222.out)|exact HB.out)⟩
     · rw [if_neg c10] at H;have c10b0:(a0_0==3)=false:=beq_eq_false_iff_ne.mpr c10;have c10b1:(a0_0 != 3)=true:=bne_iff_ne.mpr c10;obtain rfl:=Option.some.inj H;have hcz17_0:wc.cell? ⟨gb222,0,none⟩=some (.int .i64 a0_0):=(blk_cell BK222.out 0).trans rfl;have hcz17_1:wc.cell? ⟨gb222,1,none⟩=some (.int .i64 a0_1):=(blk_cell BK222.out 1).trans rfl;have hcz17_2:wc.cell? ⟨gb222,2,none⟩=some (.int .i64 a0_2):=(blk_cell BK222.out 2).trans rfl;have hcz17_3:wc.cell? ⟨gb222,3,none⟩=some (.string a0_3):=(blk_cell BK222.out 3).trans rfl;have hfz17_0:=blk_frozen BK222.out 0;have hfz17_1:=blk_frozen BK222.out 1;have hfz17_2:=blk_frozen BK222.out 2;have hfz17_3:=blk_frozen BK222.out 3;go_wp2;go_ret;exact ⟨by first|rfl|(simp [errW_none,errW_some]<;>rfl)|(simp [*, errW_none,errW_some]<;>rfl),by repeat (first|(with_reducible first|exact HB.out|apply below_alloc|apply pw_below_drewN|apply below_drew1|refine below_set ?_ GE222.out)|exact HB.out)⟩
end Go.Proofs.YtgmiekggdgmhkaaGreatDoor.Q
end
section
namespace Go.Proofs.YtgmiekggdgmhkaaGreatDoor.Q
open Go.RowKit Go.Proofs.YtgmiekggdgmhkaaGreatDoorW.PrintWords Go.Proofs.YtgmiekggdgmhkaaGreatDoorW.PrintLast Go.Proofs.YtgmiekggdgmhkaaGreatDoorW.PrintMore
attribute [local go_sem] max2_int min2_int max_two min_two max_three min_three max_four min_four
set_option linter.unusedVariables false
set_option linter.unusedSimpArgs false
mutual
def mummerref04_Check.l0:Nat→List (S40)→List Int→Int→Option (Int×Int)
 |0,_,_,_=>none
 |k+1,x0,x4,x5=>if x5<(x0.length:Int) then (if (x4.length:Int)=0 then (mummerref04_Check.j1 k x0 x4 x5 true) else (if 0≤x5 then ((mummerref04_form.f ((rd_T40 x0 x5).f0) ((rd_T40 x0 x5).f1) ((rd_T40 x0 x5).f2) ((rd_T40 x0 x5).f3)).bind fun t228=>(mummerref04_Check.j1 k x0 x4 x5 (t228 != 0))) else (none))) else (if (x4.length:Int)>0 then (some ((x0.length:Int),6)) else (some (0,0)))
def mummerref04_Check.j1:Nat→List (S40)→List Int→Int→Bool→Option (Int×Int)
 |0,_,_,_,_=>none
 |k+1,x0,x4,x5,x30=>if x30=true then (some (x5,6)) else (if (wrap64 ((x4.length:Int)-1))>32 then (some (x5,3)) else (if 0≤x5 then (if x5<(x0.length:Int) then ((mummerref04_value.f k ((rd_T40 x0 x5).f0) ((rd_T40 x0 x5).f1) ((rd_T40 x0 x5).f2) ((rd_T40 x0 x5).f3)).bind fun t230=>(if t230=0 then (if 0≤(wrap64 ((x4.length:Int)-1)) then (if (wrap64 ((x4.length:Int)-1))<(x4.length:Int) then ((some (x4.set ((wrap64 ((x4.length:Int)-1)):Int).toNat (wrap64 ((rd x4 (wrap64 ((x4.length:Int)-1)))-1)):List Int)).bind fun y232=>(if y232.length<17592186044416 then (mummerref04_Check.l1 k x0 (y232++[(rd_T40 x0 x5).f1]) x5) else (none))) else (none)) else (none)) else (some (x5,t230)))) else (none)) else (none)))
def mummerref04_Check.l1:Nat→List (S40)→List Int→Int→Option (Int×Int)
 |0,_,_,_=>none
 |k+1,x0,x4,x5=>if (x4.length:Int)>0 then (if 0≤(wrap64 ((x4.length:Int)-1)) then (if (wrap64 ((x4.length:Int)-1))<(x4.length:Int) then (if (rd x4 (wrap64 ((x4.length:Int)-1)))=0 then (if (wrap64 ((x4.length:Int)-1))≤(x4.length:Int) then (mummerref04_Check.l1 k x0 (x4.take ((wrap64 ((x4.length:Int)-1)):Int).toNat) x5) else (none)) else (mummerref04_Check.l0 k x0 x4 (wrap64 (x5+1)))) else (none)) else (none)) else (mummerref04_Check.l0 k x0 x4 (wrap64 (x5+1)))
end
def mummerref04_Check.f (k:Nat) (l0:List (S40)):Option (Int×Int):=if (l0.length:Int)=0 then (some (0,6)) else (if (l0.length:Int)>400 then (some (0,3)) else (mummerref04_Check.l0 k l0 (([1]:List Int)) 0))
theorem mummerref04_Check.mono_l: ∀k,(∀y0 y1 y2,LeO (mummerref04_Check.l0 k y0 y1 y2) (mummerref04_Check.l0 (k+1) y0 y1 y2))∧(∀y0 y1 y2 y3,LeO (mummerref04_Check.j1 k y0 y1 y2 y3) (mummerref04_Check.j1 (k+1) y0 y1 y2 y3))∧(∀y0 y1 y2,LeO (mummerref04_Check.l1 k y0 y1 y2) (mummerref04_Check.l1 (k+1) y0 y1 y2))
 |0=>⟨fun _ _ _ r h=>by simp [mummerref04_Check.l0] at h,fun _ _ _ _ r h=>by simp [mummerref04_Check.j1] at h,fun _ _ _ r h=>by simp [mummerref04_Check.l1] at h⟩
 |k+1=>by
  obtain ⟨ih0,ih1,ih2⟩:=mummerref04_Check.mono_l k;refine ⟨?_,?_,?_⟩
  · intro y0 y1 y2;unfold mummerref04_Check.l0
    repeat' first
    |(with_reducible exact ih0 _ _ _)
    |(with_reducible exact ih1 _ _ _ _)
    |(with_reducible exact ih2 _ _ _)
    |(with_reducible exact mummerref04_value.mono _ _ _ _ _)
    |(with_reducible exact LeO.refl _)
    |(with_reducible exact LeO.none _)
    |(with_reducible refine LeO.ite ?_ ?_)
    |(with_reducible refine LeO.bind ?_ (fun _=>?_))
    |exact ih0 _ _ _
    |exact ih1 _ _ _ _
    |exact ih2 _ _ _
    |exact mummerref04_value.mono _ _ _ _ _
    |exact LeO.none _
    |refine LeO.ite ?_ ?_
    |refine LeO.bind ?_ (fun _=>?_)
  · intro y0 y1 y2 y3;unfold mummerref04_Check.j1
    repeat' first
    |(with_reducible exact ih0 _ _ _)
    |(with_reducible exact ih1 _ _ _ _)
    |(with_reducible exact ih2 _ _ _)
    |(with_reducible exact mummerref04_value.mono _ _ _ _ _)
    |(with_reducible exact LeO.refl _)
    |(with_reducible exact LeO.none _)
    |(with_reducible refine LeO.ite ?_ ?_)
    |(with_reducible refine LeO.bind ?_ (fun _=>?_))
    |exact ih0 _ _ _
    |exact ih1 _ _ _ _
    |exact ih2 _ _ _
    |exact mummerref04_value.mono _ _ _ _ _
    |exact LeO.none _
    |refine LeO.ite ?_ ?_
    |refine LeO.bind ?_ (fun _=>?_)
  · intro y0 y1 y2;unfold mummerref04_Check.l1
    repeat' first
    |(with_reducible exact ih0 _ _ _)
    |(with_reducible exact ih1 _ _ _ _)
    |(with_reducible exact ih2 _ _ _)
    |(with_reducible exact mummerref04_value.mono _ _ _ _ _)
    |(with_reducible exact LeO.refl _)
    |(with_reducible exact LeO.none _)
    |(with_reducible refine LeO.ite ?_ ?_)
    |(with_reducible refine LeO.bind ?_ (fun _=>?_))
    |exact ih0 _ _ _
    |exact ih1 _ _ _ _
    |exact ih2 _ _ _
    |exact mummerref04_value.mono _ _ _ _ _
    |exact LeO.none _
    |refine LeO.ite ?_ ?_
    |refine LeO.bind ?_ (fun _=>?_)
set_option maxHeartbeats 8000000 in
set_option maxRecDepth 100000 in
theorem mummerref04_Check.calls (k:Nat) (A0:Option Addr) (c0:Nat) (l0:List (S40)) (r1:Int) (r2:Int) (w:World) (hr0:Kd.C k40 w A0 l0.length l0) (hc0:l0.length≤c0) (h:mummerref04_Check.f k l0=some (r1,r2)):
 Calls Tryz.prog 25 #[.slice A0 l0.length c0] w fun e w'=>e= .returned (.tuple #[.int .i64 r1,.int .i64 r2])∧Below w.heap.size w w':=by
 have hu40:=Tryz.underlying40;have HR0:=Aside0.mk hr0;have HC0:=Aside0.mk hc0;clear hr0 hc0;have HB:=Aside0.mk (Below.refl w.heap.size w);have H:(if (l0.length:Int)=0 then (some (0,6)) else (if (l0.length:Int)>400 then (some (0,3)) else (mummerref04_Check.l0 k l0 (([1]:List Int)) 0)))=some (r1,r2):=h;clear h;by_cases c2:(l0.length:Int)=0
 · rw [if_pos c2] at H;have c2b0:((l0.length:Int)==0)=true:=beq_iff_eq.mpr c2;have c2b1:((l0.length:Int) != 0)=false:=bne_eq_false_iff_eq.mpr c2;clear c2;simp only [Option.some.injEq,Prod.mk.injEq] at H;obtain ⟨rfl,rfl⟩:=H;go_enter Tryz.func25,Tryz.ntmps25;go_wp2;go_ret2;exact ⟨by first|rfl|(simp [errW_none,errW_some]<;>rfl)|(simp [*, errW_none,errW_some]<;>rfl),by repeat (first|(with_reducible first|exact HB.out|apply below_alloc|apply pw_below_drewN|apply below_drew1)|exact HB.out)⟩
 · rw [if_neg c2] at H;have c2b0:((l0.length:Int)==0)=false:=beq_eq_false_iff_ne.mpr c2;have c2b1:((l0.length:Int) != 0)=true:=bne_iff_ne.mpr c2
   have c2b2: ¬(l0=[]):=fun h_=>c2 (by rw [h_];rfl)
   by_cases c3:(l0.length:Int)>400
   · rw [if_pos c3] at H;have c3b0:decide (400<(l0.length:Int))=true:=decide_eq_true c3;have c3b1:decide (400<l0.length)=true:=decide_eq_true (by omega);clear c3;simp only [Option.some.injEq,Prod.mk.injEq] at H;obtain ⟨rfl,rfl⟩:=H;go_enter Tryz.func25,Tryz.ntmps25;go_wp2;go_ret2;exact ⟨by first|rfl|(simp [errW_none,errW_some]<;>rfl)|(simp [*, errW_none,errW_some]<;>rfl),by repeat (first|(with_reducible first|exact HB.out|apply below_alloc|apply pw_below_drewN|apply below_drew1)|exact HB.out)⟩
   · rw [if_neg c3] at H;have c3b0:decide (400<(l0.length:Int))=false:=decide_eq_false c3;have c3b1:decide (400<l0.length)=false:=decide_eq_false (by omega);clear c3
     obtain ⟨y224,hy224⟩: ∃y_:List Int,y_=(([1]:List Int)):=⟨_,rfl⟩
     replace H:(mummerref04_Check.l0 k l0 y224 0)=some (r1,r2):=by first|(rw [hy224];with_reducible exact H)|(have H2_:=(Option.bind_some _ _).symm.trans H;rw [hy224];with_reducible exact H2_)|(have H2_:=(Option.bind_some _ _).symm.trans H;with_reducible exact H2_)|with_reducible exact H|(rw [hy224];exact H)|exact H
     have Ny224:=Aside0.mk hy224;clear hy224;have H':=Aside0.mk H;clear H;go_enter Tryz.func25,Tryz.ntmps25
     go_wp2_with (first|((with_reducible refine gate_dst (N:=13) rfl ?_);(try (refine gate_guard (by rfl) ?_;dsimp only));refine Kd.R_lit (Kd.int .i64) _ 3 ?hg (N:=13) ?hd (xs:=([1]:List Int)) (inner:=[.int .i64 1]) (ok:=fun _=>True) (okp:=fun _=>True) ?hr ?hp (fun _ hk=>hk) trivial (Below.refl _ _) (Nat.le_refl _) (by simp) ?_;(case hd=>rfl);(case hg=>rfl);(case hr=>first|(go_simp;done)|(go_simp;rfl));(case hp=>exact (Reps.one (show Kd.M (Kd.int .i64) _ _ _ 1 [.int .i64 1] from rfl) (Reps.none _ _)));intro v225 w4 ho5 hb hg_ hnew_;clear hg_ hnew_;(first|rw [←Ny224.out] at ho5|(simp only [Int.reduceToNat] at ho5;rw [←Ny224.out] at ho5));have n0_:=Aside0.mk (Kd.R_lower ho5 (below_size (by repeat (first|(with_reducible first|exact HB.out|apply below_alloc|apply pw_below_drewN|apply below_drew1)|exact HB.out))));have n1_:=Aside0.mk (below_step (by repeat (first|(with_reducible first|exact HB.out|apply below_alloc|apply pw_below_drewN|apply below_drew1)|exact HB.out)) hb);clear HB;have HO226:=n0_;have HB:=n1_;clear n0_ n1_;clear hb ho5))
     go_loopg [4,5] k (fun kq v4 v5 w'=> ∃(x4_1:List Int) (x5_1:Int),v5= .int .i64 x5_1∧Aside0 (mummerref04_Check.l0 kq l0 x4_1 x5_1=some (r1,r2))∧Aside0 (kq≤k)∧Aside0 (Kd.R (Kd.int .i64) 3 w' w.heap.size (fun _=>True) v4 x4_1)∧Aside0 (Below w.heap.size w w'))
     case atStart=>exact ⟨(y224),(0),(by first|rfl|(simp;done)|(simp [*];done)),H',⟨Nat.le_refl _⟩,⟨by (with_reducible repeat (first|apply Kd.R_alloc|apply Kd.R_drewN|apply Kd.R_drew));exact HO226.out⟩,⟨by repeat (first|(with_reducible first|exact HB.out|apply below_alloc|apply pw_below_drewN|apply below_drew1)|exact HB.out)⟩⟩
     case round=>
       clear H'
       try clear c2
       try clear c2b0
       try clear c2b1
       try clear c2b2
       try clear p2
       try clear c3
       try clear c3b0
       try clear c3b1
       obtain ⟨x4_1,x5_1,rfl,HA,HK1,HO_4,HB⟩:=hrel
       cases gk with
       |zero=>exact absurd HA.out (by simp [mummerref04_Check.l0])
       |succ k1=>
        have H:=HA.out;clear HA;simp only [mummerref04_Check.l0] at H;by_cases c6:x5_1<(l0.length:Int)
        · rw [if_pos c6] at H;have c6b0:decide (x5_1<(l0.length:Int))=true:=decide_eq_true c6;clear c6;have HC7:=Aside0.mk H;clear H
          go_upto_region 9 with (fail)
          go_cut [30] (fun v30 wc=> ∃(kq:Nat) (x30_6:Bool),v30= .bool x30_6∧Aside0 (mummerref04_Check.j1 kq l0 x4_1 x5_1 x30_6=some (r1,r2))∧Aside0 (kq≤k1)∧Aside0 (Kd.R (Kd.int .i64) 3 wc w.heap.size (fun _=>True) u4 x4_1)∧Aside0 (Below w.heap.size w wc))
          case first=>
           have H:=HC7.out;clear HC7;by_cases c8:(x4_1.length:Int)=0
           · rw [if_pos c8] at H;have c8b0:((x4_1.length:Int)==0)=true:=beq_iff_eq.mpr c8;have c8b1:((x4_1.length:Int) != 0)=false:=bne_eq_false_iff_eq.mpr c8;clear c8
             (first|rw [c8b0]|(simp only [i64_w,i32_w];rw [c8b0])|skip)
             have H':=Aside0.mk H;clear H;obtain ⟨Ao9,co9,eo9⟩:=Kd.R_slice HO_4.out;subst eo9;go_wp2
             go_meet
             case rel=>exact ⟨_,(true),(by first|rfl|(simp;done)|(simp [*];done)),H',⟨by have:=HK1.out;first|omega|exact Nat.le_refl _⟩,⟨by (with_reducible repeat (first|apply Kd.R_alloc|apply Kd.R_drewN|apply Kd.R_drew));exact HO_4.out⟩,⟨by repeat (first|(with_reducible first|exact HB.out|apply below_alloc|apply pw_below_drewN|apply below_drew1)|exact HB.out)⟩⟩
           · rw [if_neg c8] at H;have c8b0:((x4_1.length:Int)==0)=false:=beq_eq_false_iff_ne.mpr c8;have c8b1:((x4_1.length:Int) != 0)=true:=bne_iff_ne.mpr c8
             have c8b2: ¬(x4_1=[]):=fun h_=>c8 (by rw [h_];rfl)
             (first|rw [c8b0]|(simp only [i64_w,i32_w];rw [c8b0])|skip)
             by_cases c10:0≤x5_1
             · rw [if_pos c10] at H;have c10b0:decide (0≤x5_1)=true:=decide_eq_true c10;clear c10;replace H:=Option.bind_eq_some_iff.mp H;obtain ⟨t228,A110,H⟩:=H;replace H:(mummerref04_Check.j1 k1 l0 x4_1 x5_1 (t228 != 0))=some (r1,r2):=H;have A11:=Aside0.mk A110;clear A110;have H':=Aside0.mk H;clear H;obtain ⟨Ao12,co12,eo12⟩:=Kd.R_slice HO_4.out;subst eo12;have p227:0≤(x5_1:Int):=of_decide_eq_true (by first|(with_reducible assumption)|assumption);have q227:x5_1<(l0.length:Int):=of_decide_eq_true (by first|(with_reducible assumption)|assumption);obtain ⟨ad227,e227,hx227_0,hx227_1,hx227_2,hx227_3⟩:=at_T40 HR0.out x5_1 p227 q227;cases e227;replace hx227_0:=(HB.out.cell (World.block_lt_of_cell? w _ hx227_0)).trans hx227_0;replace hx227_1:=(HB.out.cell (World.block_lt_of_cell? w _ hx227_1)).trans hx227_1;replace hx227_2:=(HB.out.cell (World.block_lt_of_cell? w _ hx227_2)).trans hx227_2;replace hx227_3:=(HB.out.cell (World.block_lt_of_cell? w _ hx227_3)).trans hx227_3;replace p227:=eq_true p227;replace q227:=eq_true q227
               go_wp2_with (first|(go_at_call 56;(with_reducible refine (mummerref04_form.calls ((rd_T40 l0 x5_1).f0) ((rd_T40 l0 x5_1).f1) ((rd_T40 l0 x5_1).f2) ((rd_T40 l0 x5_1).f3) t228 _ A11.out).mono ?_);rintro e w13 ⟨rfl,hb⟩;have n0_:=Aside0.mk (Kd.R_below (by (with_reducible repeat (first|apply Kd.R_alloc|apply Kd.R_drewN|apply Kd.R_drew));exact HO_4.out) hb);have n1_:=Aside0.mk (below_step (by repeat (first|(with_reducible first|exact HB.out|apply below_alloc|apply pw_below_drewN|apply below_drew1)|exact HB.out)) hb);clear HO_4;clear HB;have HO_4:=n0_;have HB:=n1_;clear n0_ n1_;(try clear hb);(try clear hb2);(try clear hk);(try clear hi)))
               go_meet
               case rel=>exact ⟨_,((t228 != 0)),(by first|rfl|(simp;done)|(simp [*];done)),H',⟨by have:=HK1.out;first|omega|exact Nat.le_refl _⟩,⟨by (with_reducible repeat (first|apply Kd.R_alloc|apply Kd.R_drewN|apply Kd.R_drew));exact HO_4.out⟩,⟨by repeat (first|(with_reducible first|exact HB.out|apply below_alloc|apply pw_below_drewN|apply below_drew1)|exact HB.out)⟩⟩
             · rw [if_neg c10] at H;exact absurd H (by simp)
          case rest=>
           clear HC7
           try clear c1
           try clear c2
           try clear c2b0
           try clear c2b1
           try clear c2b2
           try clear p2
           try clear q2
           try clear hx2
           try clear c3
           try clear c3b0
           try clear c3b1
           try clear c6
           try clear c6b0
           try clear c8
           try clear c8b0
           try clear c8b1
           try clear c8b2
           try clear c10
           try clear c10b0
           try clear hx227_0
           try clear hx227_1
           try clear hx227_2
           try clear hx227_3
           try clear p2
           try clear p227
           try clear q227
           obtain ⟨kq,x30_6,rfl,HA,HJ6,HO_4,HB⟩:=hcut
           cases kq with
           |zero=>exact absurd HA.out (by simp [mummerref04_Check.j1])
           |succ kj6=>
            have H:=HA.out;clear HA;simp only [mummerref04_Check.j1] at H;by_cases c14:x30_6=true
            · subst c14
              have H1:(some (x5_1,6))=some (r1,r2):=by rw [if_pos rfl] at H;exact H
              clear H;have H:=H1;clear H1;simp only [Option.some.injEq,Prod.mk.injEq] at H;obtain ⟨rfl,rfl⟩:=H;go_wp2;go_ret2;exact ⟨by first|rfl|(simp [errW_none,errW_some]<;>rfl)|(simp [*, errW_none,errW_some]<;>rfl),by repeat (first|(with_reducible first|exact HB.out|apply below_alloc|apply pw_below_drewN|apply below_drew1)|exact HB.out)⟩
            · replace c14:=Bool.eq_false_iff.mpr c14;subst c14
              have H1:(if (wrap64 ((x4_1.length:Int)-1))>32 then (some (x5_1,3)) else (if 0≤x5_1 then (if x5_1<(l0.length:Int) then ((mummerref04_value.f kj6 ((rd_T40 l0 x5_1).f0) ((rd_T40 l0 x5_1).f1) ((rd_T40 l0 x5_1).f2) ((rd_T40 l0 x5_1).f3)).bind fun t230=>(if t230=0 then (if 0≤(wrap64 ((x4_1.length:Int)-1)) then (if (wrap64 ((x4_1.length:Int)-1))<(x4_1.length:Int) then ((some (x4_1.set ((wrap64 ((x4_1.length:Int)-1)):Int).toNat (wrap64 ((rd x4_1 (wrap64 ((x4_1.length:Int)-1)))-1)):List Int)).bind fun y232=>(if y232.length<17592186044416 then (mummerref04_Check.l1 kj6 l0 (y232++[(rd_T40 l0 x5_1).f1]) x5_1) else (none))) else (none)) else (none)) else (some (x5_1,t230)))) else (none)) else (none)))=some (r1,r2):=by rw [if_neg (show ¬(false=true) by decide)] at H;exact H
              clear H;have H:=H1;clear H1;by_cases c15:(wrap64 ((x4_1.length:Int)-1))>32
              · rw [if_pos c15] at H;have c15b0:decide (32<(wrap64 ((x4_1.length:Int)-1)))=true:=decide_eq_true c15;clear c15;simp only [Option.some.injEq,Prod.mk.injEq] at H;obtain ⟨rfl,rfl⟩:=H;obtain ⟨Ao16,co16,eo16⟩:=Kd.R_slice HO_4.out;subst eo16;go_wp2;go_ret2;exact ⟨by first|rfl|(simp [errW_none,errW_some]<;>rfl)|(simp [*, errW_none,errW_some]<;>rfl),by repeat (first|(with_reducible first|exact HB.out|apply below_alloc|apply pw_below_drewN|apply below_drew1)|exact HB.out)⟩
              · rw [if_neg c15] at H;have c15b0:decide (32<(wrap64 ((x4_1.length:Int)-1)))=false:=decide_eq_false c15;clear c15;by_cases c17:0≤x5_1
                · rw [if_pos c17] at H;have c17b0:decide (0≤x5_1)=true:=decide_eq_true c17;clear c17;by_cases c18:x5_1<(l0.length:Int)
                  · rw [if_pos c18] at H;have c18b0:decide (x5_1<(l0.length:Int))=true:=decide_eq_true c18;clear c18;replace H:=Option.bind_eq_some_iff.mp H;obtain ⟨t230,A190,H⟩:=H;replace H:(if t230=0 then (if 0≤(wrap64 ((x4_1.length:Int)-1)) then (if (wrap64 ((x4_1.length:Int)-1))<(x4_1.length:Int) then ((some (x4_1.set ((wrap64 ((x4_1.length:Int)-1)):Int).toNat (wrap64 ((rd x4_1 (wrap64 ((x4_1.length:Int)-1)))-1)):List Int)).bind fun y232=>(if y232.length<17592186044416 then (mummerref04_Check.l1 kj6 l0 (y232++[(rd_T40 l0 x5_1).f1]) x5_1) else (none))) else (none)) else (none)) else (some (x5_1,t230)))=some (r1,r2):=H;have A19:=Aside0.mk A190;clear A190;by_cases c20:t230=0
                    · rw [if_pos c20] at H;have c20b0:(t230==0)=true:=beq_iff_eq.mpr c20;have c20b1:(t230 != 0)=false:=bne_eq_false_iff_eq.mpr c20;clear c20
                      obtain ⟨ji21,hji21⟩: ∃j_:Int,(wrap64 ((x4_1.length:Int)-1))=j_:=⟨_,rfl⟩
                      replace H:(if 0≤(ji21) then (if (ji21)<(x4_1.length:Int) then ((some (x4_1.set ((ji21):Int).toNat (wrap64 ((rd x4_1 (ji21))-1)):List Int)).bind fun y232=>(if y232.length<17592186044416 then (mummerref04_Check.l1 kj6 l0 (y232++[(rd_T40 l0 x5_1).f1]) x5_1) else (none))) else (none)) else (none))=some (r1,r2):=by first|(rw [hji21] at H;exact H)|(simp only [hji21] at H ⊢; exact H)
                      (try rw [hji21] at c15b0)
                      (try rw [hji21] at A19)
                      have hji21w:(IntKind.i64.wrap ((x4_1.length:Int)-1))=ji21:=(i64_w _).trans hji21;by_cases c22:0≤(ji21)
                      · rw [if_pos c22] at H;have c22b0:decide (0≤(ji21))=true:=decide_eq_true c22;clear c22;by_cases c23:(ji21)<(x4_1.length:Int)
                        · rw [if_pos c23] at H;have c23b0:decide ((ji21)<(x4_1.length:Int))=true:=decide_eq_true c23;clear c23
                          obtain ⟨y232,hy232⟩: ∃y_:List Int,y_=(x4_1.set ((ji21):Int).toNat (wrap64 ((rd x4_1 (ji21))-1))):=⟨_,rfl⟩
                          replace H:(if y232.length<17592186044416 then (mummerref04_Check.l1 kj6 l0 (y232++[(rd_T40 l0 x5_1).f1]) x5_1) else (none))=some (r1,r2):=by first|(rw [hy232];with_reducible exact H)|(have H2_:=(Option.bind_some _ _).symm.trans H;rw [hy232];with_reducible exact H2_)|(have H2_:=(Option.bind_some _ _).symm.trans H;with_reducible exact H2_)|with_reducible exact H|(rw [hy232];exact H)|exact H
                          have Ny232:=Aside0.mk hy232;clear hy232;by_cases c25:y232.length<17592186044416
                          · rw [if_pos c25] at H;have LMc25:=Aside0.mk c25;clear c25
                            obtain ⟨y234,hy234⟩: ∃y_:List Int,y_=(y232++[(rd_T40 l0 x5_1).f1]):=⟨_,rfl⟩
                            replace H:(mummerref04_Check.l1 kj6 l0 y234 x5_1)=some (r1,r2):=by first|(rw [hy234];with_reducible exact H)|(have H2_:=(Option.bind_some _ _).symm.trans H;rw [hy234];with_reducible exact H2_)|(have H2_:=(Option.bind_some _ _).symm.trans H;with_reducible exact H2_)|with_reducible exact H|(rw [hy234];exact H)|exact H
                            have Ny234:=Aside0.mk hy234;clear hy234;have H':=Aside0.mk H;clear H;obtain ⟨Ao26,co26,eo26⟩:=Kd.R_slice HO_4.out;subst eo26;have p229:0≤(x5_1:Int):=of_decide_eq_true (by first|(with_reducible assumption)|assumption);have q229:x5_1<(l0.length:Int):=of_decide_eq_true (by first|(with_reducible assumption)|assumption);obtain ⟨ad229,e229,hx229_0,hx229_1,hx229_2,hx229_3⟩:=at_T40 HR0.out x5_1 p229 q229;cases e229;replace hx229_0:=(HB.out.cell (World.block_lt_of_cell? w _ hx229_0)).trans hx229_0;replace hx229_1:=(HB.out.cell (World.block_lt_of_cell? w _ hx229_1)).trans hx229_1;replace hx229_2:=(HB.out.cell (World.block_lt_of_cell? w _ hx229_2)).trans hx229_2;replace hx229_3:=(HB.out.cell (World.block_lt_of_cell? w _ hx229_3)).trans hx229_3;replace p229:=eq_true p229;replace q229:=eq_true q229
                            go_wp2_with (first|((with_reducible refine gate_callee (f:=57) rfl ?_);refine goesL_ (some 41) rfl rfl Tryz.func57 (by kernel_rfl) rfl #[.agg #[.int .i64 ((rd_T40 l0 x5_1).f0),.int .i64 ((rd_T40 l0 x5_1).f1),.int .i64 ((rd_T40 l0 x5_1).f2),.string ((rd_T40 l0 x5_1).f3)]] rfl (by (try simp only [List.map_toArray,List.map_cons,List.map_nil]);first|done|rfl|(simp only [List.length_drop,List.length_take];rfl)) ?_;(with_reducible refine (mummerref04_value.calls kj6 ((rd_T40 l0 x5_1).f0) ((rd_T40 l0 x5_1).f1) ((rd_T40 l0 x5_1).f2) ((rd_T40 l0 x5_1).f3) t230 _ A19.out).mono ?_);rintro e w27 ⟨rfl,hb⟩;refine ⟨_,rfl,?_⟩;have n0_:=Aside0.mk (Kd.R_below (by (with_reducible repeat (first|apply Kd.R_alloc|apply Kd.R_drewN|apply Kd.R_drew));exact HO_4.out) hb);have n1_:=Aside0.mk (below_step (by repeat (first|(with_reducible first|exact HB.out|apply below_alloc|apply pw_below_drewN|apply below_drew1)|exact HB.out)) hb);clear HO_4;clear HB;have HO_4:=n0_;have HB:=n1_;clear n0_ n1_;(try clear hb);(try clear hb2);(try clear hk);(try clear hi);have p231:0≤((ji21):Int):=of_decide_eq_true (by first|(with_reducible assumption)|assumption);have q231:(ji21)<(x4_1.length:Int):=of_decide_eq_true (by first|(with_reducible assumption)|assumption);obtain ⟨ad231,e231,hx231_0⟩:=Kd.at_int (Kd.R_reads' HO_4.out).2.2 (ji21) p231 q231;cases e231;replace p231:=eq_true p231;replace q231:=eq_true q231;have p24:0≤((ji21):Int):=of_decide_eq_true (by first|(with_reducible assumption)|assumption);have q24:((ji21):Int)<((x4_1.length:Int):Int):=of_decide_eq_true (by first|(with_reducible assumption)|assumption);obtain ⟨go24,co24,eo24,gb24,gl24,cl24,HG24⟩:=Kd.R_form HO_4.out (by omega);(first|cases eo24|(injection eo24 with ea_ en_ ec_;(first|subst ea_|(injection ea_ with ea_;subst ea_));subst ec_;clear en_));have GB24:=Aside0.mk gb24;have GG24:=Aside0.mk HG24;clear gb24 gl24 HG24;(first|simp only [add_plain] at hx231_0|skip);obtain ⟨hx24_0,hf24_0⟩:=Kd.R_celln 0 HO_4.out ((ji21):Int) p24 q24;replace p24:=eq_true p24;replace q24:=eq_true q24;obtain ⟨hy28_,hz28_⟩:=Kd.R_celln 0 HO_4.out ((ji21):Int) (of_decide_eq_true (by first|(with_reducible assumption)|assumption)) (of_decide_eq_true (by first|(with_reducible assumption)|assumption));have HP28:=Kd.R_putg HO_4.out ((ji21):Int) (wrap64 ((rd x4_1 (ji21))-1)))|((with_reducible refine gate_store (t:=3) (p:=53) rfl ?_);refine store_event (t:=3) (p:=53) (v:=?vo_w29) (w1:=(w27.setCell ⟨go24,((ji21):Int).toNat,none⟩ (.int .i64 (wrap64 ((rd x4_1 (ji21))-1))))) ?hg ?ho ?hn ?hr ?_;(case ho=>rfl);(case hg=>rfl);(case hn=>rfl);(case hr=>first|(go_simp;done)|(go_simp;rfl));intro w29 hw;have hg:w27.grownBy w29 (some go24):=(by rw [hw];exact HP28.2);have hp_:Kd.R (Kd.int .i64) 3 w29 w.heap.size (fun _=>True) (.slice (some ⟨go24,0,none⟩) x4_1.length co26) y232:=(by rw [hw,Ny232.out];exact HP28.1);clear HP28;have n0_:=Aside0.mk (hp_);have n1_:=Aside0.mk ((by rw [hw];exact below_set (HB.out) GB24.out:Below w.heap.size w w29));clear HO_4;clear HB;have HO_4:=n0_;have HB:=n1_;clear n0_ n1_;clear hg hw hp_;have p233:0≤(x5_1:Int):=of_decide_eq_true (by first|(with_reducible assumption)|assumption);have q233:x5_1<(l0.length:Int):=of_decide_eq_true (by first|(with_reducible assumption)|assumption);obtain ⟨ad233,e233,hx233_0,hx233_1,hx233_2,hx233_3⟩:=at_T40 HR0.out x5_1 p233 q233;obtain rfl:ad229=ad233:=(by injection e233);replace hx233_0:=(HB.out.cell (World.block_lt_of_cell? w _ hx233_0)).trans hx233_0;replace hx233_1:=(HB.out.cell (World.block_lt_of_cell? w _ hx233_1)).trans hx233_1;replace hx233_2:=(HB.out.cell (World.block_lt_of_cell? w _ hx233_2)).trans hx233_2;replace hx233_3:=(HB.out.cell (World.block_lt_of_cell? w _ hx233_3)).trans hx233_3;replace p233:=eq_true p233;replace q233:=eq_true q233)|((with_reducible refine gate_builtin (b:= .append) (xs:= #[.tmp 54,.tmp 60]) rfl ?_);(try (refine gate_guard (by rfl) ?_;dsimp only));at_builtin;refine Kd.R_append (Kd.int .i64) (w0:=w) w.heap.size rfl (.tmp 54) (.tmp 60) 44 3 (.int .i64 0) 8 rfl Tryz.underlying44 info3 rfl (by decide) (by omega) (.slice (some ⟨go24,0,none⟩) x4_1.length co26) y232 ((rd_T40 l0 x5_1).f1) [.int .i64 ((rd_T40 l0 x5_1).f1)] (fun _=>True) (fun _=>False) rfl rfl ?aP (fun _ hk=>hk.elim) ?aF ?aO ?aB ?aS ?aL ?_;(case aP=>exact rfl);(case aB=>exact (by repeat (first|(with_reducible first|exact HB.out|apply below_alloc|apply pw_below_drewN|apply below_drew1)|exact HB.out)));(case aF=>exact (fun _ _=>trivial));(case aO=>exact (by (with_reducible repeat (first|apply Kd.R_alloc|apply Kd.R_drewN|apply Kd.R_drew));exact HO_4.out));(case aS=>exact (below_size (by repeat (first|(with_reducible first|exact HB.out|apply below_alloc|apply pw_below_drewN|apply below_drew1)|exact HB.out))));(case aL=>have:=LMc25.out;omega);intro v235 w30 ho hb hg hat;rw [←Ny234.out] at ho;have n0_:=Aside0.mk (hb);have n1_:=Aside0.mk (ho);clear HB;clear HO_4;have HB:=n0_;have HO236:=n1_;clear n0_ n1_;clear ho hb hg hat))
                            go_loopg [4] kj6 (fun kq v4 w'=> ∃(x4_3:List Int),Aside0 (mummerref04_Check.l1 kq l0 x4_3 x5_1=some (r1,r2))∧Aside0 (kq≤kj6)∧Aside0 (Kd.R (Kd.int .i64) 3 w' w.heap.size (fun _=>True) v4 x4_3)∧Aside0 (Below w.heap.size w w'))
                            case atStart=>exact ⟨(y234),H',⟨Nat.le_refl _⟩,⟨by (with_reducible repeat (first|apply Kd.R_alloc|apply Kd.R_drewN|apply Kd.R_drew));exact HO236.out⟩,⟨by repeat (first|(with_reducible first|exact HB.out|apply below_alloc|apply pw_below_drewN|apply below_drew1)|exact HB.out)⟩⟩
                            case round=>
                              clear H'
                              try clear c1
                              try clear c2
                              try clear c2b0
                              try clear c2b1
                              try clear c2b2
                              try clear p2
                              try clear q2
                              try clear hx2
                              try clear hf2
                              try clear c3
                              try clear c3b0
                              try clear c3b1
                              try clear c5
                              try clear c6
                              try clear c6b0
                              try clear p6
                              try clear c8
                              try clear c8b0
                              try clear c8b1
                              try clear c8b2
                              try clear c10
                              try clear c10b0
                              try clear c14
                              try clear c15
                              try clear c15b0
                              try clear c17
                              try clear c17b0
                              try clear c18
                              try clear c18b0
                              try clear c20
                              try clear c20b0
                              try clear c20b1
                              try clear c22
                              try clear c22b0
                              try clear p22
                              try clear q22
                              try clear hx22
                              try clear c23
                              try clear c23b0
                              try clear p23
                              try clear q23
                              try clear hx23
                              try clear p24
                              try clear q24
                              try clear hx24
                              try clear hf24
                              try clear c25
                              try clear hx227_0
                              try clear hx227_1
                              try clear hx227_2
                              try clear hx227_3
                              try clear hx229_0
                              try clear hx229_1
                              try clear hx229_2
                              try clear hx229_3
                              try clear hx231_0
                              try clear hx233_0
                              try clear hx233_1
                              try clear hx233_2
                              try clear hx233_3
                              try clear hx24_0
                              try clear p2
                              try clear p227
                              try clear p229
                              try clear p231
                              try clear p233
                              try clear p24
                              try clear q2
                              try clear q227
                              try clear q229
                              try clear q231
                              try clear q233
                              try clear q24
                              obtain ⟨x4_3,HA,HK3,HO_4,HB⟩:=hrel
                              cases gk with
                              |zero=>exact absurd HA.out (by simp [mummerref04_Check.l1])
                              |succ k3=>
                               have H:=HA.out;clear HA;simp only [mummerref04_Check.l1] at H;by_cases c31:(x4_3.length:Int)>0
                               · rw [if_pos c31] at H;have c31b0:decide (0<(x4_3.length:Int))=true:=decide_eq_true c31;have c31b1:decide (0<x4_3.length)=true:=decide_eq_true (by omega);clear c31
                                 obtain ⟨ji32,hji32⟩: ∃j_:Int,(wrap64 ((x4_3.length:Int)-1))=j_:=⟨_,rfl⟩
                                 replace H:(if 0≤(ji32) then (if (ji32)<(x4_3.length:Int) then (if (rd x4_3 (ji32))=0 then (if (ji32)≤(x4_3.length:Int) then (mummerref04_Check.l1 k3 l0 (x4_3.take ((ji32):Int).toNat) x5_1) else (none)) else (mummerref04_Check.l0 k3 l0 x4_3 (wrap64 (x5_1+1)))) else (none)) else (none))=some (r1,r2):=by first|(rw [hji32] at H;exact H)|(simp only [hji32] at H ⊢; exact H)
                                 have hji32w:(IntKind.i64.wrap ((x4_3.length:Int)-1))=ji32:=(i64_w _).trans hji32;by_cases c33:0≤(ji32)
                                 · rw [if_pos c33] at H;have c33b0:decide (0≤(ji32))=true:=decide_eq_true c33;clear c33;by_cases c34:(ji32)<(x4_3.length:Int)
                                   · rw [if_pos c34] at H;have c34b0:decide ((ji32)<(x4_3.length:Int))=true:=decide_eq_true c34;clear c34;by_cases c35:(rd x4_3 (ji32))=0
                                     · rw [if_pos c35] at H;have c35b0:((rd x4_3 (ji32))==0)=true:=beq_iff_eq.mpr c35;have c35b1:((rd x4_3 (ji32)) != 0)=false:=bne_eq_false_iff_eq.mpr c35;clear c35;by_cases c36:(ji32)≤(x4_3.length:Int)
                                       · rw [if_pos c36] at H;have c36b0:=eq_true c36;have c36b1:decide ((ji32)≤(x4_3.length:Int))=true:=decide_eq_true c36;clear c36
                                         obtain ⟨y238,hy238⟩: ∃y_:List Int,y_=(x4_3.take ((ji32):Int).toNat):=⟨_,rfl⟩
                                         replace H:(mummerref04_Check.l1 k3 l0 y238 x5_1)=some (r1,r2):=by first|(rw [hy238];with_reducible exact H)|(have H2_:=(Option.bind_some _ _).symm.trans H;rw [hy238];with_reducible exact H2_)|(have H2_:=(Option.bind_some _ _).symm.trans H;with_reducible exact H2_)|with_reducible exact H|(rw [hy238];exact H)|exact H
                                         have Ny238:=Aside0.mk hy238;clear hy238;have H':=Aside0.mk H;clear H;obtain ⟨Ao37,co37,eo37⟩:=Kd.R_slice HO_4.out;subst eo37;have p237:0≤((ji32):Int):=of_decide_eq_true (by first|(with_reducible assumption)|assumption);have q237:(ji32)<(x4_3.length:Int):=of_decide_eq_true (by first|(with_reducible assumption)|assumption);obtain ⟨ad237,e237,hx237_0⟩:=Kd.at_int (Kd.R_reads' HO_4.out).2.2 (ji32) p237 q237;cases e237;replace p237:=eq_true p237;replace q237:=eq_true q237;have q38:((ji32):Int)≤((x4_3.length:Int):Int):=of_decide_eq_true (by first|(with_reducible assumption)|assumption);obtain ⟨i038,hi038,_,hsz38,_⟩:=info_parts info3;have hcut38:=cut_to (P:=Tryz.prog) 44 3 .i64 Tryz.underlying44 hi038 (some ad237) x4_3.length co37 (ji32) (of_decide_eq_true (by first|(with_reducible assumption)|assumption)) q38 (Kd.R_reads' HO_4.out).2.1;have hr38:=Kd.R_take (m:=((ji32):Int).toNat) HO_4.out (by omega)
                                         have hy38:y238.length=((ji32):Int).toNat:=(by rw [Ny238.out,List.length_take];omega)
                                         rw [←Ny238.out] at hr38;rw [←hy38] at hr38 hcut38;clear hy38 hi038 hsz38 HO_4;have HO240:=Aside0.mk hr38;clear hr38;replace q38:=eq_true q38;go_wp2;go_roundg k3
                                         case measure=>have:=HK1.out;have:=HJ6.out;have:=HK3.out;omega
                                         case rel=>exact ⟨(y238),H',⟨by have:=HK1.out;have:=HJ6.out;have:=HK3.out;omega⟩,⟨by (with_reducible repeat (first|apply Kd.R_alloc|apply Kd.R_drewN|apply Kd.R_drew));exact HO240.out⟩,⟨by repeat (first|(with_reducible first|exact HB.out|apply below_alloc|apply pw_below_drewN|apply below_drew1)|exact HB.out)⟩⟩
                                       · rw [if_neg c36] at H;exact absurd H (by simp)
                                     · rw [if_neg c35] at H;have c35b0:((rd x4_3 (ji32))==0)=false:=beq_eq_false_iff_ne.mpr c35;have c35b1:((rd x4_3 (ji32)) != 0)=true:=bne_iff_ne.mpr c35;have H':=Aside0.mk H;clear H;obtain ⟨Ao39,co39,eo39⟩:=Kd.R_slice HO_4.out;subst eo39;have p237:0≤((ji32):Int):=of_decide_eq_true (by first|(with_reducible assumption)|assumption);have q237:(ji32)<(x4_3.length:Int):=of_decide_eq_true (by first|(with_reducible assumption)|assumption);obtain ⟨ad237,e237,hx237_0⟩:=Kd.at_int (Kd.R_reads' HO_4.out).2.2 (ji32) p237 q237;cases e237;replace p237:=eq_true p237;replace q237:=eq_true q237;go_wp2;go_roundg k3
                                       case measure=>have:=HK1.out;have:=HJ6.out;have:=HK3.out;omega
                                       case rel=>exact ⟨(x4_3),(wrap64 (x5_1+1)),(by first|rfl|(simp;done)|(simp [*];done)),H',⟨by have:=HK1.out;have:=HJ6.out;have:=HK3.out;omega⟩,⟨by (with_reducible repeat (first|apply Kd.R_alloc|apply Kd.R_drewN|apply Kd.R_drew));exact HO_4.out⟩,⟨by repeat (first|(with_reducible first|exact HB.out|apply below_alloc|apply pw_below_drewN|apply below_drew1)|exact HB.out)⟩⟩
                                   · rw [if_neg c34] at H;exact absurd H (by simp)
                                 · rw [if_neg c33] at H;exact absurd H (by simp)
                               · rw [if_neg c31] at H;have c31b0:decide (0<(x4_3.length:Int))=false:=decide_eq_false c31;have c31b1:decide (0<x4_3.length)=false:=decide_eq_false (by omega);clear c31;have H':=Aside0.mk H;clear H;obtain ⟨Ao40,co40,eo40⟩:=Kd.R_slice HO_4.out;subst eo40;go_wp2;go_roundg k3
                                 case measure=>have:=HK1.out;have:=HJ6.out;have:=HK3.out;omega
                                 case rel=>exact ⟨(x4_3),(wrap64 (x5_1+1)),(by first|rfl|(simp;done)|(simp [*];done)),H',⟨by have:=HK1.out;have:=HJ6.out;have:=HK3.out;omega⟩,⟨by (with_reducible repeat (first|apply Kd.R_alloc|apply Kd.R_drewN|apply Kd.R_drew));exact HO_4.out⟩,⟨by repeat (first|(with_reducible first|exact HB.out|apply below_alloc|apply pw_below_drewN|apply below_drew1)|exact HB.out)⟩⟩
                          · rw [if_neg c25] at H;exact absurd H (by simp)
                        · rw [if_neg c23] at H;exact absurd H (by simp)
                      · rw [if_neg c22] at H;exact absurd H (by simp)
                    · rw [if_neg c20] at H;have c20b0:(t230==0)=false:=beq_eq_false_iff_ne.mpr c20;have c20b1:(t230 != 0)=true:=bne_iff_ne.mpr c20;simp only [Option.some.injEq,Prod.mk.injEq] at H;obtain ⟨rfl,rfl⟩:=H;obtain ⟨Ao41,co41,eo41⟩:=Kd.R_slice HO_4.out;subst eo41;have p229:0≤(x5_1:Int):=of_decide_eq_true (by first|(with_reducible assumption)|assumption);have q229:x5_1<(l0.length:Int):=of_decide_eq_true (by first|(with_reducible assumption)|assumption);obtain ⟨ad229,e229,hx229_0,hx229_1,hx229_2,hx229_3⟩:=at_T40 HR0.out x5_1 p229 q229;cases e229;replace hx229_0:=(HB.out.cell (World.block_lt_of_cell? w _ hx229_0)).trans hx229_0;replace hx229_1:=(HB.out.cell (World.block_lt_of_cell? w _ hx229_1)).trans hx229_1;replace hx229_2:=(HB.out.cell (World.block_lt_of_cell? w _ hx229_2)).trans hx229_2;replace hx229_3:=(HB.out.cell (World.block_lt_of_cell? w _ hx229_3)).trans hx229_3;replace p229:=eq_true p229;replace q229:=eq_true q229
                      go_wp2_with (first|((with_reducible refine gate_callee (f:=57) rfl ?_);refine goesL_ (some 41) rfl rfl Tryz.func57 (by kernel_rfl) rfl #[.agg #[.int .i64 ((rd_T40 l0 x5_1).f0),.int .i64 ((rd_T40 l0 x5_1).f1),.int .i64 ((rd_T40 l0 x5_1).f2),.string ((rd_T40 l0 x5_1).f3)]] rfl (by (try simp only [List.map_toArray,List.map_cons,List.map_nil]);first|done|rfl|(simp only [List.length_drop,List.length_take];rfl)) ?_;(with_reducible refine (mummerref04_value.calls kj6 ((rd_T40 l0 x5_1).f0) ((rd_T40 l0 x5_1).f1) ((rd_T40 l0 x5_1).f2) ((rd_T40 l0 x5_1).f3) t230 _ A19.out).mono ?_);rintro e w42 ⟨rfl,hb⟩;refine ⟨_,rfl,?_⟩;have n0_:=Aside0.mk (Kd.R_below (by (with_reducible repeat (first|apply Kd.R_alloc|apply Kd.R_drewN|apply Kd.R_drew));exact HO_4.out) hb);have n1_:=Aside0.mk (below_step (by repeat (first|(with_reducible first|exact HB.out|apply below_alloc|apply pw_below_drewN|apply below_drew1)|exact HB.out)) hb);clear HO_4;clear HB;have HO_4:=n0_;have HB:=n1_;clear n0_ n1_;(try clear hb);(try clear hb2);(try clear hk);(try clear hi)))
                      go_ret2;exact ⟨by first|rfl|(simp [errW_none,errW_some]<;>rfl)|(simp [*, errW_none,errW_some]<;>rfl),by repeat (first|(with_reducible first|exact HB.out|apply below_alloc|apply pw_below_drewN|apply below_drew1)|exact HB.out)⟩
                  · rw [if_neg c18] at H;exact absurd H (by simp)
                · rw [if_neg c17] at H;exact absurd H (by simp)
        · rw [if_neg c6] at H;have c6b0:decide (x5_1<(l0.length:Int))=false:=decide_eq_false c6;clear c6;by_cases c43:(x4_1.length:Int)>0
          · rw [if_pos c43] at H;have c43b0:decide (0<(x4_1.length:Int))=true:=decide_eq_true c43;have c43b1:decide (0<x4_1.length)=true:=decide_eq_true (by omega);clear c43;simp only [Option.some.injEq,Prod.mk.injEq] at H;obtain ⟨rfl,rfl⟩:=H;obtain ⟨Ao44,co44,eo44⟩:=Kd.R_slice HO_4.out;subst eo44;go_wp2;go_ret2;exact ⟨by first|rfl|(simp [errW_none,errW_some]<;>rfl)|(simp [*, errW_none,errW_some]<;>rfl),by repeat (first|(with_reducible first|exact HB.out|apply below_alloc|apply pw_below_drewN|apply below_drew1)|exact HB.out)⟩
          · rw [if_neg c43] at H;have c43b0:decide (0<(x4_1.length:Int))=false:=decide_eq_false c43;have c43b1:decide (0<x4_1.length)=false:=decide_eq_false (by omega);clear c43;simp only [Option.some.injEq,Prod.mk.injEq] at H;obtain ⟨rfl,rfl⟩:=H;obtain ⟨Ao45,co45,eo45⟩:=Kd.R_slice HO_4.out;subst eo45;go_wp2;go_ret2;exact ⟨by first|rfl|(simp [errW_none,errW_some]<;>rfl)|(simp [*, errW_none,errW_some]<;>rfl),by repeat (first|(with_reducible first|exact HB.out|apply below_alloc|apply pw_below_drewN|apply below_drew1)|exact HB.out)⟩
end Go.Proofs.YtgmiekggdgmhkaaGreatDoor.Q
end
