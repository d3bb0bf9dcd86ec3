import Derived.Lib.Small
import Derived.Outline
import Derived.Test.YtgmiekggdgmhkaaGreatDoorMN1
import Derived.Test.YtgmiekggdgmhkaaGreatDoorMN5
import Derived.Test.YtgmiekggdgmhkaaGreatDoorMN8
section
namespace Go.Proofs.YtgmiekggdgmhkaaGreatDoor.R
open Go.RowKit Go.Proofs.YtgmiekggdgmhkaaGreatDoorW.PrintWords Go.Proofs.YtgmiekggdgmhkaaGreatDoorW.PrintLast Go.Proofs.YtgmiekggdgmhkaaGreatDoorW.PrintMore
open Go.Proofs.YtgmiekggdgmhkaaGreatDoor.Q (BC Bytes Bytes.at_ BC.of bool_of)
set_option linter.unusedVariables false
set_option linter.unusedSimpArgs false
def encB (r:Int):List Int:=
 if r<128 then [r] else if r<2048 then [192+r / 64,128+r % 64] else if r<65536 then [224+r / 4096,128+r / 64 % 64,128+r % 64]
 else [240+r / 262144,128+r / 4096 % 64,128+r / 64 % 64,128+r % 64]
theorem isF (r:Int):E.mummerref02_Is.f r=some (Lib.validRune r):=by
 unfold E.mummerref02_Is.f Lib.validRune
 repeat' split
 all_goals simp only [Option.some.injEq]
 all_goals (first|(symm;apply decide_eq_true;omega)|(symm;apply decide_eq_false;omega)|(apply decide_eq_decide.mpr;omega))
theorem encF (r:Int) (h:Lib.validRune r=true):E.mummerref02_Encode.f r=some (encB r,0):=by
 have hv:(0≤r∧r<55296)∨(57343<r∧r≤1114111):=by unfold Lib.validRune at h;exact of_decide_eq_true h
 have h0:0≤r:=by omega
 unfold E.mummerref02_Encode.f encB;rw [isF,h];simp only [Option.bind_some,if_true]
 have t1: ∀a b:Int,0≤a→Int.tdiv a b=a / b:=fun a b ha=>Int.tdiv_eq_ediv_of_nonneg ha
 have t2: ∀a b:Int,0≤a→Int.tmod a b=a % b:=fun a b ha=>Int.tmod_eq_emod_of_nonneg ha
 have w1:wrap32 (r / 64)=r / 64:=by unfold wrap32;omega
 have w2:wrap32 (r / 4096)=r / 4096:=by unfold wrap32;omega
 have w3:wrap32 (r / 262144)=r / 262144:=by unfold wrap32;omega
 rw [t1 r 64 h0,t1 r 4096 h0,t1 r 262144 h0,t2 r 64 h0,w1,w2,w3,t2 _ 64 (show 0≤r / 64 by omega),t2 _ 64 (show 0≤r / 4096 by omega)];unfold wrap32
 repeat' split
 all_goals simp only [Option.some.injEq,Prod.mk.injEq,List.cons.injEq,and_true]
 all_goals (repeat' constructor)
 all_goals omega
def standsB (l:List Int):Int×Bool:=if Lib.validRune (numB l)=true then (numB l,decide (l=encB (numB l))) else (0,false)
def mummerref02_stands.f (l0:List Int):Option (Int×Bool):=if (1≤l0.length∧l0.length≤4)∧Bytes l0 then some (standsB l0) else none
theorem strOfNums_inj {a b:List Int} (ha:Bytes a) (hb:Bytes b):((strOfNums a).toList==(strOfNums b).toList)=decide (a=b):=by
 have key: ∀{a b:List Int},Bytes a→Bytes b→a.map (fun n=>UInt8.ofNat n.toNat)=b.map (fun n=>UInt8.ofNat n.toNat)→a=b:=by
  intro a
  induction a with
  |nil=>intro b _ _ h;cases b with
   |nil=>rfl
   |cons=>simp at h
  |cons x a ih=>
   intro b ha hb h
   cases b with
   |nil=>simp at h
   |cons y b=>
    simp only [List.map_cons,List.cons.injEq] at h;have h1:=ha x (by simp);have h2:=hb y (by simp);have h3:=congrArg UInt8.toNat h.1
    have e1:(UInt8.ofNat x.toNat).toNat=x.toNat:=by simp;omega
    have e2:(UInt8.ofNat y.toNat).toNat=y.toNat:=by simp;omega
    rw [e1,e2] at h3;rw [ih (fun z hz=>ha z (by simp [hz])) (fun z hz=>hb z (by simp [hz])) h.2,show x=y by omega]
 have e: ∀l,(strOfNums l).toList=l.map (fun n=>UInt8.ofNat n.toNat):=fun l=>by rw [ByteArray.toList_eq];rfl
 rw [e,e];by_cases h:a=b
 · subst h;simp
 · rw [decide_eq_false h,beq_eq_false_iff_ne]
   exact fun h2=>h (key ha hb h2)
theorem encB_bytes (r:Int) (h:Lib.validRune r=true):Bytes (encB r):=by
 have hv:(0≤r∧r<55296)∨(57343<r∧r≤1114111):=by unfold Lib.validRune at h;exact of_decide_eq_true h
 unfold encB Bytes;intro x hx
 repeat' split at hx
 all_goals simp at hx
 all_goals omega
set_option maxHeartbeats 4000000 in
set_option maxRecDepth 100000 in
theorem stands_no (A0:Option Addr) (c0:Nat) (l0:List Int) (w:World) (hr0:Kd.C (Kd.int .u8) w A0 l0.length l0) (hc0:l0.length≤c0) (hl:(1≤l0.length∧l0.length≤4)∧Bytes l0) (hv:Lib.validRune (numB l0)=false):
 Calls Tryz.prog 114 #[.slice A0 l0.length c0] w fun e w'=>e= .returned (.tuple #[.int .i32 0,.bool false])∧Below w.heap.size w w':=by
 have hn:=mummerref02_number.calls A0 c0 l0 (numB l0) w hr0 hc0 (if_pos hl)
 have hi: ∀W,Calls Tryz.prog 98 #[.int .i32 (numB l0)] W fun e w'=>e= .returned (.bool false)∧Drawn0 W w':=fun W=>by rw [←hv];exact E.mummerref02_Is.calls _ _ W (isF _)
 generalize numB l0=m at *; have HI:=Aside0.mk hi;clear hi hl hr0 hv;go_enter Tryz.func114,Tryz.ntmps114
 go_wp2_with (first|(go_at_call 123;refine hn.mono ?_;rintro e w1 ⟨rfl,hb1⟩)|(go_at_call 98;refine (HI.out _).mono ?_;rintro e w2 ⟨rfl,⟨nd,rfl⟩⟩))
 go_ret2;exact ⟨rfl,pw_below_drewN hb1 _⟩
set_option maxHeartbeats 4000000 in
set_option maxRecDepth 100000 in
theorem stands_yes (A0:Option Addr) (c0:Nat) (l0:List Int) (w:World) (hr0:Kd.C (Kd.int .u8) w A0 l0.length l0) (hc0:l0.length≤c0) (hl:(1≤l0.length∧l0.length≤4)∧Bytes l0) (hv:Lib.validRune (numB l0)=true):
 Calls Tryz.prog 114 #[.slice A0 l0.length c0] w fun e w'=>e= .returned (.tuple #[.int .i32 (numB l0),.bool (decide (l0=encB (numB l0)))])∧Below w.heap.size w w':=by
 have hn:=mummerref02_number.calls A0 c0 l0 (numB l0) w hr0 hc0 (if_pos hl)
 have hi: ∀W,Calls Tryz.prog 98 #[.int .i32 (numB l0)] W fun e w'=>e= .returned (.bool true)∧Drawn0 W w':=fun W=>by rw [←hv];exact E.mummerref02_Is.calls _ _ W (isF _)
 have he:=fun W=>E.mummerref02_Encode.calls (numB l0) (encB (numB l0)) 0 W (encF _ hv)
 have hinj:=strOfNums_inj hl.2 (encB_bytes _ hv);generalize hm:numB l0=m at *; have HI:=Aside0.mk hi;have HE:=Aside0.mk he;have HR:=Aside0.mk hr0;have HJ:=Aside0.mk hinj;clear hi hl hv hm he hr0 hinj;go_enter Tryz.func114,Tryz.ntmps114
 go_wp2_with (first|(go_at_call 123;refine hn.mono ?_;rintro e w1 ⟨rfl,hb1⟩)|(go_at_call 98;refine (HI.out _).mono ?_;rintro e w2 ⟨rfl,⟨nd,rfl⟩⟩;replace hb1:=pw_below_drewN hb1 nd)|(go_at_call 124;refine (HE.out _).mono ?_;rintro e w3 ⟨v,rfl,hv,hb2⟩;replace hb1:=below_then hb1 hb1.size hb2;obtain ⟨A1,c1,rfl⟩:=Kd.R_slice hv))
 obtain ⟨hle,hcv⟩:=(Kd.R_reads' hv).2
 have k1: ∀n,(convert 80 9 (.slice A0 l0.length c0)).run Tryz.prog (w3.drewN n)= .ok (.string (strOfNums l0)) (w3.drewN n):=fun n=>Kd.C_string Tryz.underlying80 Tryz.underlying5 Tryz.underlying9 (Kd.C_drewN (Kd.C_below HR.out hb1) n)
 have k2: ∀n,(convert 80 9 (.slice A1 (encB m).length c1)).run Tryz.prog (w3.drewN n)= .ok (.string (strOfNums (encB m))) (w3.drewN n):=fun n=>Kd.C_string Tryz.underlying80 Tryz.underlying5 Tryz.underlying9 (Kd.C_drewN hcv n)
 go_quiet (fail)
 go_wp2;go_ret2;exact ⟨by rw [←HJ.out];rfl,pw_below_drewN hb1 _⟩
theorem mummerref02_stands.calls (A0:Option Addr) (c0:Nat) (l0:List Int) (r1:Int) (r2:Bool) (w:World) (hr0:Kd.C (Kd.int .u8) w A0 l0.length l0) (hc0:l0.length≤c0) (h:mummerref02_stands.f l0=some (r1,r2)):
 Calls Tryz.prog 114 #[.slice A0 l0.length c0] w fun e w'=>e= .returned (.tuple #[.int .i32 r1,.bool r2])∧Below w.heap.size w w':=by
 unfold mummerref02_stands.f at h;by_cases hl:(1≤l0.length∧l0.length≤4)∧Bytes l0
 · rw [if_pos hl] at h;have h:=Option.some.inj h;unfold standsB at h;by_cases hv:Lib.validRune (numB l0)=true
   · rw [if_pos hv] at h;obtain ⟨rfl,rfl⟩:=Prod.mk.inj h;exact stands_yes A0 c0 l0 w hr0 hc0 hl hv
   · rw [if_neg hv] at h;obtain ⟨rfl,rfl⟩:=Prod.mk.inj h;exact stands_no A0 c0 l0 w hr0 hc0 hl (by simpa using hv)
 · rw [if_neg hl] at h;cases h
end Go.Proofs.YtgmiekggdgmhkaaGreatDoor.R
end
section
namespace Go.Proofs.YtgmiekggdgmhkaaGreatDoor.R
open Go.RowKit Go.Proofs.YtgmiekggdgmhkaaGreatDoorW.PrintWords
open Go.Proofs.YtgmiekggdgmhkaaGreatDoor.Q (Bytes Bytes.at_ bool_of decR dec ofL ofL_size)
set_option linter.unusedVariables false
set_option linter.unusedSimpArgs false
theorem get_rd (l:List Int) (hb:Bytes l) (j:Nat):((ofL l).get! j).toNat=(rd l j).toNat:=by
 by_cases hj:j<l.length
 · have h:=Q.ofL_get l hb j hj;have:=hb.at_ j;omega
 · have h1:rd l j=0:=by simp [rd,List.getD_eq_getElem?_getD,List.getElem?_eq_none (show l.length≤j by omega)]
   rw [h1];simp only [ofL,ByteArray.get!];rw [getElem!_neg _ _ (by simp;omega)];rfl
theorem dec_eq (l:List Int) (hb:Bytes l) (h0:l≠[]):dec l=((((Lib.decodeN l.length (rd l 0).toNat (rd l 1).toNat (rd l 2).toNat (rd l 3).toNat).1:Nat):Int),(((Lib.decodeN l.length (rd l 0).toNat (rd l 1).toNat (rd l 2).toNat (rd l 3).toNat).2:Nat):Int)):=by
 have hl:0<l.length:=List.length_pos_iff.mpr h0;have hs:(ofL l).size=l.length:=ofL_size l
 have hd:Lib.decodeGo (ofL l)=Lib.decodeN l.length (rd l 0).toNat (rd l 1).toNat (rd l 2).toNat (rd l 3).toNat:=by
  simp only [Lib.decodeGo];rw [if_neg (by omega),Lib.decode_at,hs];have e:=get_rd l hb;rw [e 0,e (0+1),e (0+2),e (0+3)];rfl
 unfold dec;rw [hd]
def val2 (a b:Int):Int:=64*(a-192)+b-128
def val3 (a b c:Int):Int:=64*(64*(a-224)+b-128)+c-128
def val4 (a b c d:Int):Int:=64*(64*(64*(a-240)+b-128)+c-128)+d-128
def ok2 (a b:Int):Prop:=(192≤a∧a<224)∧contB b∧128≤val2 a b
def ok3 (a b c:Int):Prop:=(224≤a∧a<240)∧contB b∧contB c∧2048≤val3 a b c∧(val3 a b c<55296∨57343<val3 a b c)
def ok4 (a b c d:Int):Prop:=(240≤a∧a<248)∧contB b∧contB c∧contB d∧65536≤val4 a b c d∧val4 a b c d≤1114111
instance (a b:Int):Decidable (ok2 a b):=by unfold ok2;infer_instance
instance (a b c:Int):Decidable (ok3 a b c):=by unfold ok3;infer_instance
instance (a b c d:Int):Decidable (ok4 a b c d):=by unfold ok4;infer_instance
def decX (n:Nat) (a b c d:Int):Option (Int×Int):=
 if a<128 then some (a,1) else if ok2 a b∧1<n then some (val2 a b,2) else if ok3 a b c∧2<n then some (val3 a b c,3) else if ok4 a b c d∧3<n then some (val4 a b c d,4) else none
set_option maxHeartbeats 4000000 in
theorem decN_X (n:Nat) (a b c d:Nat) (hn:0<n) (ha:a<256) (hb:b<256) (hc:c<256) (hd:d<256):
 (if ((Lib.decodeN n a b c d).1:Int)=65533∧((Lib.decodeN n a b c d).2:Int)≤1 then none else some (((Lib.decodeN n a b c d).1:Int),((Lib.decodeN n a b c d).2:Int)))=decX n a b c d:=by
 unfold Lib.decodeN decX ok2 ok3 ok4 contB val2 val3 val4
 repeat' split
 all_goals first
  |(exfalso;omega)
  |(simp only [Option.some.injEq,Prod.mk.injEq];omega)
  |rfl
  |trace_state
theorem decR_X (l:List Int) (hb:Bytes l) (h0:l≠[]):decR l=decX l.length (rd l 0) (rd l 1) (rd l 2) (rd l 3):=by
 have hl:0<l.length:=List.length_pos_iff.mpr h0;have h:=hb.at_;have:=decN_X l.length (rd l 0).toNat (rd l 1).toNat (rd l 2).toNat (rd l 3).toNat hl (by have:=h 0;omega) (by have:=h 1;omega) (by have:=h 2;omega) (by have:=h 3;omega);unfold decR;rw [if_neg h0,dec_eq l hb h0];simp only;rw [this,Int.toNat_of_nonneg (h 0).1,Int.toNat_of_nonneg (h 1).1,Int.toNat_of_nonneg (h 2).1,Int.toNat_of_nonneg (h 3).1]
theorem st1 (a:Int) (h0:0≤a) (h1:a<256):standsB [a]=if a<128 then (a,true) else (0,false):=by
 unfold standsB;by_cases h:a<128
 · have e:numB [a]=a:=if_pos h
   have hv:Lib.validRune a=true:=by unfold Lib.validRune;exact decide_eq_true (by omega)
   rw [e,hv,if_pos rfl,if_pos h];unfold encB;rw [if_pos h];simp
 · have e:numB [a]= -1:=if_neg h;rw [e,if_neg h];rfl
theorem st2 (a b:Int) (hb:0≤b∧b<256):standsB [a,b]=if ok2 a b then (val2 a b,true) else ((standsB [a,b]).1,false):=by
 unfold standsB;by_cases hr:(192≤a∧a<224)∧contB b
 · have e:numB [a,b]=val2 a b:=if_pos hr;have hr2:=hr;unfold contB at hr2
   have hv:Lib.validRune (val2 a b)=true:=by unfold Lib.validRune val2;exact decide_eq_true (by omega)
   rw [e,hv,if_pos rfl];by_cases h:ok2 a b
   · rw [if_pos h];have h2:=h;unfold ok2 val2 at h2
     have:encB (val2 a b)=[a,b]:=by
        unfold encB val2;rw [if_neg (by omega),if_pos (by omega)]
        congr 1
        · omega
        · congr 1;omega
     rw [this];simp
   · rw [if_neg h];have h2:val2 a b<128:=Int.not_le.mp (fun hh=>h ⟨hr.1,hr.2,hh⟩)
     have:encB (val2 a b)=[val2 a b]:=by unfold encB;rw [if_pos h2]
     rw [this];simp
 · have e:numB [a,b]= -1:=if_neg hr
   have h: ¬ok2 a b:=fun h=>hr ⟨h.1,h.2.1⟩
   rw [e,if_neg h];rfl
set_option maxHeartbeats 1000000 in
theorem st3 (a b c:Int):standsB [a,b,c]=if ok3 a b c then (val3 a b c,true) else ((standsB [a,b,c]).1,false):=by
 unfold standsB;by_cases hr:(224≤a∧a<240)∧contB b∧contB c
 · have e:numB [a,b,c]=val3 a b c:=if_pos hr;have hr2:=hr;unfold contB at hr2;rw [e];by_cases h:ok3 a b c
   · have h2:=h;unfold ok3 at h2
     have hv:Lib.validRune (val3 a b c)=true:=by unfold Lib.validRune val3 at *; exact decide_eq_true (by omega)
     rw [hv,if_pos rfl,if_pos h];unfold val3 at h2
     have:encB (val3 a b c)=[a,b,c]:=by
        unfold encB val3;rw [if_neg (by omega),if_neg (by omega),if_pos (by omega)]
        congr 1
        · omega
        · congr 1
          · omega
          · congr 1;omega
     rw [this];simp
   · rw [if_neg h]
     cases hv:Lib.validRune (val3 a b c) with
     |false=>rfl
     |true=>
      have hv2:(0≤val3 a b c∧val3 a b c<55296)∨(57343<val3 a b c∧val3 a b c≤1114111):=by unfold Lib.validRune at hv;exact of_decide_eq_true hv
      have h2:val3 a b c<2048:=Int.not_le.mp (fun hh=>h ⟨hr.1,hr.2.1,hr.2.2,hh,by omega⟩)
      have:encB (val3 a b c)≠[a,b,c]:=by
         unfold encB;intro h3;by_cases h4:val3 a b c<128
         · rw [if_pos h4] at h3;simp at h3
         · rw [if_neg h4,if_pos h2] at h3;simp at h3
      have h5:decide ([a,b,c]=encB (val3 a b c))=false:=decide_eq_false (fun h=>this h.symm);simp [h5]
 · have e:numB [a,b,c]= -1:=if_neg hr
   have h: ¬ok3 a b c:=fun h=>hr ⟨h.1,h.2.1,h.2.2.1⟩
   rw [e,if_neg h];rfl
set_option maxHeartbeats 1000000 in
theorem st4 (a b c d:Int):standsB [a,b,c,d]=if ok4 a b c d then (val4 a b c d,true) else ((standsB [a,b,c,d]).1,false):=by
 unfold standsB;by_cases hr:(240≤a∧a<248)∧contB b∧contB c∧contB d
 · have e:numB [a,b,c,d]=val4 a b c d:=if_pos hr;have hr2:=hr;unfold contB at hr2;rw [e];by_cases h:ok4 a b c d
   · have h2:=h;unfold ok4 at h2
     have hv:Lib.validRune (val4 a b c d)=true:=by unfold Lib.validRune val4 at *; exact decide_eq_true (by omega)
     rw [hv,if_pos rfl,if_pos h];unfold val4 at h2
     have:encB (val4 a b c d)=[a,b,c,d]:=by
        unfold encB val4;rw [if_neg (by omega),if_neg (by omega),if_neg (by omega)]
        congr 1
        · omega
        · congr 1
          · omega
          · congr 1
            · omega
            · congr 1;omega
     rw [this];simp
   · rw [if_neg h]
     cases hv:Lib.validRune (val4 a b c d) with
     |false=>rfl
     |true=>
      have hv2:(0≤val4 a b c d∧val4 a b c d<55296)∨(57343<val4 a b c d∧val4 a b c d≤1114111):=by unfold Lib.validRune at hv;exact of_decide_eq_true hv
      have h2:val4 a b c d<65536:=Int.not_le.mp (fun hh=>h ⟨hr.1,hr.2.1,hr.2.2.1,hr.2.2.2,hh,by omega⟩)
      have:encB (val4 a b c d)≠[a,b,c,d]:=by
         unfold encB;intro h3;by_cases h4:val4 a b c d<128
         · rw [if_pos h4] at h3;simp at h3
         · by_cases h5:val4 a b c d<2048
           · rw [if_neg h4,if_pos h5] at h3;simp at h3
           · rw [if_neg h4,if_neg h5,if_pos h2] at h3;simp at h3
      have h5:decide ([a,b,c,d]=encB (val4 a b c d))=false:=decide_eq_false (fun h=>this h.symm);simp [h5]
 · have e:numB [a,b,c,d]= -1:=if_neg hr
   have h: ¬ok4 a b c d:=fun h=>hr ⟨h.1,h.2.1,h.2.2.1,h.2.2.2.1⟩
   rw [e,if_neg h];rfl
end Go.Proofs.YtgmiekggdgmhkaaGreatDoor.R
end
section
namespace Go.Proofs.YtgmiekggdgmhkaaGreatDoor.R
open Go.RowKit Go.Proofs.YtgmiekggdgmhkaaGreatDoorW.PrintWords Go.Proofs.YtgmiekggdgmhkaaGreatDoorW.PrintLast Go.Proofs.YtgmiekggdgmhkaaGreatDoorW.PrintMore
attribute [local go_sem] max2_int min2_int max_two min_two max_three min_three max_four min_four
set_option linter.unusedVariables false
set_option linter.unusedSimpArgs false
mutual
def mummerref02_begins.j2:Nat→List Int→Int→Option (Bool)
 |0,_,_=>none
 |k+1,x0,x3=>if (x0.length:Int)≥x3 then (some false) else (mummerref02_begins.l0 k x0 x3 128)
def mummerref02_begins.l0:Nat→List Int→Int→Int→Option (Bool)
 |0,_,_,_=>none
 |k+1,x0,x3,x5=>if x5≤191 then ((some (([]:List Int):List Int)).bind fun y102=>(if y102.length+x0.length<140737488355328 then (mummerref02_begins.l1 k x0 x3 x5 (y102++x0)) else (none))) else (some false)
def mummerref02_begins.l1:Nat→List Int→Int→Int→List Int→Option (Bool)
 |0,_,_,_,_=>none
 |k+1,x0,x3,x5,x6=>if (x6.length:Int)<x3 then (if x6.length<140737488355328 then (mummerref02_begins.l1 k x0 x3 x5 (x6++[(x5) % 256])) else (none)) else ((mummerref02_stands.f x6).bind fun bt111=>(if bt111.2=true then (some true) else (mummerref02_begins.l0 k x0 x3 (wrap64 (x5+63)))))
def mummerref02_begins.j0:Nat→List Int→Int→Int→Bool→Option (Bool)
 |0,_,_,_,_=>none
 |k+1,x0,x3,x4,x13=>if x13=true then (mummerref02_begins.j2 k x0 2) else (if x4≥224 then (mummerref02_begins.j1 k x0 x3 x4 (decide (x4<240))) else (mummerref02_begins.j1 k x0 x3 x4 false))
def mummerref02_begins.j1:Nat→List Int→Int→Int→Bool→Option (Bool)
 |0,_,_,_,_=>none
 |k+1,x0,x3,x4,x20=>if x20=true then (mummerref02_begins.j2 k x0 3) else (if x4≥240 then (if x4<248 then (mummerref02_begins.j2 k x0 4) else (mummerref02_begins.j2 k x0 x3)) else (mummerref02_begins.j2 k x0 x3))
end
def mummerref02_begins.f (k:Nat) (l0:List Int):Option (Bool):=if 0<(l0.length:Int) then (if (wrap32 (rd l0 0))≥192 then (mummerref02_begins.j0 k l0 0 (wrap32 (rd l0 0)) (decide ((wrap32 (rd l0 0))<224))) else (mummerref02_begins.j0 k l0 0 (wrap32 (rd l0 0)) false)) else (none)
theorem mummerref02_begins.mono_l: ∀k,(∀y0 y1,LeO (mummerref02_begins.j2 k y0 y1) (mummerref02_begins.j2 (k+1) y0 y1))∧(∀y0 y1 y2,LeO (mummerref02_begins.l0 k y0 y1 y2) (mummerref02_begins.l0 (k+1) y0 y1 y2))∧(∀y0 y1 y2 y3,LeO (mummerref02_begins.l1 k y0 y1 y2 y3) (mummerref02_begins.l1 (k+1) y0 y1 y2 y3))∧(∀y0 y1 y2 y3,LeO (mummerref02_begins.j0 k y0 y1 y2 y3) (mummerref02_begins.j0 (k+1) y0 y1 y2 y3))∧(∀y0 y1 y2 y3,LeO (mummerref02_begins.j1 k y0 y1 y2 y3) (mummerref02_begins.j1 (k+1) y0 y1 y2 y3))
 |0=>⟨fun _ _ r h=>by simp [mummerref02_begins.j2] at h,fun _ _ _ r h=>by simp [mummerref02_begins.l0] at h,fun _ _ _ _ r h=>by simp [mummerref02_begins.l1] at h,fun _ _ _ _ r h=>by simp [mummerref02_begins.j0] at h,fun _ _ _ _ r h=>by simp [mummerref02_begins.j1] at h⟩
 |k+1=>by
  obtain ⟨ih0,ih1,ih2,ih3,ih4⟩:=mummerref02_begins.mono_l k;refine ⟨?_,?_,?_,?_,?_⟩
  · intro y0 y1;unfold mummerref02_begins.j2
    repeat' first
    |(with_reducible exact ih0 _ _)
    |(with_reducible exact ih1 _ _ _)
    |(with_reducible exact ih2 _ _ _ _)
    |(with_reducible exact ih3 _ _ _ _)
    |(with_reducible exact ih4 _ _ _ _)
    |(with_reducible exact LeO.refl _)
    |(with_reducible exact LeO.none _)
    |(with_reducible refine LeO.ite ?_ ?_)
    |(with_reducible refine LeO.bind ?_ (fun _=>?_))
    |exact ih0 _ _
    |exact ih1 _ _ _
    |exact ih2 _ _ _ _
    |exact ih3 _ _ _ _
    |exact ih4 _ _ _ _
    |exact LeO.none _
    |refine LeO.ite ?_ ?_
    |refine LeO.bind ?_ (fun _=>?_)
  · intro y0 y1 y2;unfold mummerref02_begins.l0
    repeat' first
    |(with_reducible exact ih0 _ _)
    |(with_reducible exact ih1 _ _ _)
    |(with_reducible exact ih2 _ _ _ _)
    |(with_reducible exact ih3 _ _ _ _)
    |(with_reducible exact ih4 _ _ _ _)
    |(with_reducible exact LeO.refl _)
    |(with_reducible exact LeO.none _)
    |(with_reducible refine LeO.ite ?_ ?_)
    |(with_reducible refine LeO.bind ?_ (fun _=>?_))
    |exact ih0 _ _
    |exact ih1 _ _ _
    |exact ih2 _ _ _ _
    |exact ih3 _ _ _ _
    |exact ih4 _ _ _ _
    |exact LeO.none _
    |refine LeO.ite ?_ ?_
    |refine LeO.bind ?_ (fun _=>?_)
  · intro y0 y1 y2 y3;unfold mummerref02_begins.l1
    repeat' first
    |(with_reducible exact ih0 _ _)
    |(with_reducible exact ih1 _ _ _)
    |(with_reducible exact ih2 _ _ _ _)
    |(with_reducible exact ih3 _ _ _ _)
    |(with_reducible exact ih4 _ _ _ _)
    |(with_reducible exact LeO.refl _)
    |(with_reducible exact LeO.none _)
    |(with_reducible refine LeO.ite ?_ ?_)
    |(with_reducible refine LeO.bind ?_ (fun _=>?_))
    |exact ih0 _ _
    |exact ih1 _ _ _
    |exact ih2 _ _ _ _
    |exact ih3 _ _ _ _
    |exact ih4 _ _ _ _
    |exact LeO.none _
    |refine LeO.ite ?_ ?_
    |refine LeO.bind ?_ (fun _=>?_)
  · intro y0 y1 y2 y3;unfold mummerref02_begins.j0
    repeat' first
    |(with_reducible exact ih0 _ _)
    |(with_reducible exact ih1 _ _ _)
    |(with_reducible exact ih2 _ _ _ _)
    |(with_reducible exact ih3 _ _ _ _)
    |(with_reducible exact ih4 _ _ _ _)
    |(with_reducible exact LeO.refl _)
    |(with_reducible exact LeO.none _)
    |(with_reducible refine LeO.ite ?_ ?_)
    |(with_reducible refine LeO.bind ?_ (fun _=>?_))
    |exact ih0 _ _
    |exact ih1 _ _ _
    |exact ih2 _ _ _ _
    |exact ih3 _ _ _ _
    |exact ih4 _ _ _ _
    |exact LeO.none _
    |refine LeO.ite ?_ ?_
    |refine LeO.bind ?_ (fun _=>?_)
  · intro y0 y1 y2 y3;unfold mummerref02_begins.j1
    repeat' first
    |(with_reducible exact ih0 _ _)
    |(with_reducible exact ih1 _ _ _)
    |(with_reducible exact ih2 _ _ _ _)
    |(with_reducible exact ih3 _ _ _ _)
    |(with_reducible exact ih4 _ _ _ _)
    |(with_reducible exact LeO.refl _)
    |(with_reducible exact LeO.none _)
    |(with_reducible refine LeO.ite ?_ ?_)
    |(with_reducible refine LeO.bind ?_ (fun _=>?_))
    |exact ih0 _ _
    |exact ih1 _ _ _
    |exact ih2 _ _ _ _
    |exact ih3 _ _ _ _
    |exact ih4 _ _ _ _
    |exact LeO.none _
    |refine LeO.ite ?_ ?_
    |refine LeO.bind ?_ (fun _=>?_)
theorem mummerref02_begins.mono: ∀a0 k,LeO (mummerref02_begins.f k a0) (mummerref02_begins.f (k+1) a0):=by
 intro a0 k;obtain ⟨ih0,ih1,ih2,ih3,ih4⟩:=mummerref02_begins.mono_l k;unfold mummerref02_begins.f
 repeat' first
  |(with_reducible exact ih0 _ _)
  |(with_reducible exact ih1 _ _ _)
  |(with_reducible exact ih2 _ _ _ _)
  |(with_reducible exact ih3 _ _ _ _)
  |(with_reducible exact ih4 _ _ _ _)
  |(with_reducible exact LeO.refl _)
  |(with_reducible exact LeO.none _)
  |(with_reducible refine LeO.ite ?_ ?_)
  |(with_reducible refine LeO.bind ?_ (fun _=>?_))
  |exact ih0 _ _
  |exact ih1 _ _ _
  |exact ih2 _ _ _ _
  |exact ih3 _ _ _ _
  |exact ih4 _ _ _ _
  |exact LeO.none _
  |refine LeO.ite ?_ ?_
  |refine LeO.bind ?_ (fun _=>?_)
set_option maxHeartbeats 8000000 in
set_option maxRecDepth 100000 in
theorem mummerref02_begins.calls (k:Nat) (A0:Option Addr) (c0:Nat) (l0:List Int) (r:Bool) (w:World) (hr0:Kd.C (Kd.int .u8) w A0 l0.length l0) (hc0:l0.length≤c0) (h:mummerref02_begins.f k l0=some r):
 Calls Tryz.prog 115 #[.slice A0 l0.length c0] w fun e w'=>e= .returned (.bool r)∧Below w.heap.size w w':=by
 have HR0:=Aside0.mk hr0;have HC0:=Aside0.mk hc0;clear hr0 hc0;have HB:=Aside0.mk (Below.refl w.heap.size w);have H:(if 0<(l0.length:Int) then (if (wrap32 (rd l0 0))≥192 then (mummerref02_begins.j0 k l0 0 (wrap32 (rd l0 0)) (decide ((wrap32 (rd l0 0))<224))) else (mummerref02_begins.j0 k l0 0 (wrap32 (rd l0 0)) false)) else (none))=some r:=h;clear h;by_cases c2:0<(l0.length:Int)
 · rw [if_pos c2] at H;have c2b0:decide (0<(l0.length:Int))=true:=decide_eq_true c2;have c2b1:decide (0<l0.length)=true:=decide_eq_true (by omega);clear c2;have HC3:=Aside0.mk H;clear H
   have p101:0≤(0:Int):=(by omega)
   have q101:0<(l0.length:Int):=of_decide_eq_true (by first|(with_reducible assumption)|assumption);obtain ⟨ad101,e101,hx101_0⟩:=Kd.at_int HR0.out 0 p101 q101;cases e101;have qi101:(0<l0.length)=True:=eq_true (by omega)
   (try rw [show ((0:Int)).toNat=0 from rfl] at hx101_0)
   (try rw [Addr.add_zero'] at hx101_0)
   replace p101:=eq_true p101;replace q101:=eq_true q101;go_enter Tryz.func115,Tryz.ntmps115
   go_upto_block 0 with (fail)
   go_cut [3] (fun v3 wc=> ∃(kq:Nat) (x3_2:Int),v3= .int .i64 x3_2∧Aside0 (mummerref02_begins.j2 kq l0 x3_2=some r)∧Aside0 (kq≤k)∧Aside0 (Below w.heap.size w wc))
   case first=>
    have H:=HC3.out;clear HC3;have HC4:=Aside0.mk H;clear H
    go_upto_region 3 with (fail)
    go_cut [13] (fun v13 wc=> ∃(kq:Nat) (x13_3:Bool),v13= .bool x13_3∧Aside0 (mummerref02_begins.j0 kq l0 0 (wrap32 (rd l0 0)) x13_3=some r)∧Aside0 (kq≤k)∧Aside0 (Below w.heap.size w wc))
    case first=>
       have H:=HC4.out;clear HC4;by_cases c5:(wrap32 (rd l0 0))≥192
       · rw [if_pos c5] at H;have c5b0:decide (192≤(wrap32 (rd l0 0)))=true:=decide_eq_true c5;clear c5
         (first|rw [c5b0]|(simp only [i64_w,i32_w];rw [c5b0])|skip)
         have H':=Aside0.mk H;clear H;go_wp2
         go_meet
         case rel=>exact ⟨_,(decide ((wrap32 (rd l0 0))<224)),(by first|rfl|(simp;done)|(simp [*];done)),H',⟨by first|omega|exact Nat.le_refl _⟩,⟨by repeat (first|(with_reducible first|exact HB.out|apply below_alloc|apply pw_below_drewN|apply below_drew1)|exact HB.out)⟩⟩
       · rw [if_neg c5] at H;have c5b0:decide (192≤(wrap32 (rd l0 0)))=false:=decide_eq_false c5;clear c5
         (first|rw [c5b0]|(simp only [i64_w,i32_w];rw [c5b0])|skip)
         have H':=Aside0.mk H;clear H;go_wp2
         go_meet
         case rel=>exact ⟨_,(false),(by first|rfl|(simp;done)|(simp [*];done)),H',⟨by first|omega|exact Nat.le_refl _⟩,⟨by repeat (first|(with_reducible first|exact HB.out|apply below_alloc|apply pw_below_drewN|apply below_drew1)|exact HB.out)⟩⟩
    case rest=>
       clear HC4
       try clear c1
       try clear p1
       try clear q1
       try clear hx1
       try clear qi1
       try clear c2
       try clear c2b0
       try clear c2b1
       try clear p2
       try clear p3
       try clear c5
       try clear c5b0
       try clear hx101_0
       try clear p101
       try clear q101
       obtain ⟨kq,x13_3,rfl,HA,HJ3,HB⟩:=hcut
       cases kq with
       |zero=>exact absurd HA.out (by simp [mummerref02_begins.j0])
       |succ kj3=>
        have H:=HA.out;clear HA;simp only [mummerref02_begins.j0] at H;by_cases c6:x13_3=true
        · subst c6
          have H1:(mummerref02_begins.j2 kj3 l0 2)=some r:=by rw [if_pos rfl] at H;exact H
          clear H;have H:=H1;clear H1;have H':=Aside0.mk H;clear H;go_wp2
          go_meet
          case rel=>exact ⟨_,(2),(by first|rfl|(simp;done)|(simp [*];done)),H',⟨by have:=HJ3.out;first|omega|exact Nat.le_refl _⟩,⟨by repeat (first|(with_reducible first|exact HB.out|apply below_alloc|apply pw_below_drewN|apply below_drew1)|exact HB.out)⟩⟩
        · replace c6:=Bool.eq_false_iff.mpr c6;subst c6
          have H1:(if (wrap32 (rd l0 0))≥224 then (mummerref02_begins.j1 kj3 l0 0 (wrap32 (rd l0 0)) (decide ((wrap32 (rd l0 0))<240))) else (mummerref02_begins.j1 kj3 l0 0 (wrap32 (rd l0 0)) false))=some r:=by rw [if_neg (show ¬(false=true) by decide)] at H;exact H
          clear H;have H:=H1;clear H1;have HC7:=Aside0.mk H;clear H
          go_upto_region 5 with (fail)
          go_cut [20] (fun v20 wc=> ∃(kq:Nat) (x20_6:Bool),v20= .bool x20_6∧Aside0 (mummerref02_begins.j1 kq l0 0 (wrap32 (rd l0 0)) x20_6=some r)∧Aside0 (kq≤kj3)∧Aside0 (Below w.heap.size w wc))
          case first=>
           have H:=HC7.out;clear HC7;by_cases c8:(wrap32 (rd l0 0))≥224
           · rw [if_pos c8] at H;have c8b0:decide (224≤(wrap32 (rd l0 0)))=true:=decide_eq_true c8;clear c8
             (first|rw [c8b0]|(simp only [i64_w,i32_w];rw [c8b0])|skip)
             have H':=Aside0.mk H;clear H;go_wp2
             go_meet
             case rel=>exact ⟨_,(decide ((wrap32 (rd l0 0))<240)),(by first|rfl|(simp;done)|(simp [*];done)),H',⟨by have:=HJ3.out;first|omega|exact Nat.le_refl _⟩,⟨by repeat (first|(with_reducible first|exact HB.out|apply below_alloc|apply pw_below_drewN|apply below_drew1)|exact HB.out)⟩⟩
           · rw [if_neg c8] at H;have c8b0:decide (224≤(wrap32 (rd l0 0)))=false:=decide_eq_false c8;clear c8
             (first|rw [c8b0]|(simp only [i64_w,i32_w];rw [c8b0])|skip)
             have H':=Aside0.mk H;clear H;go_wp2
             go_meet
             case rel=>exact ⟨_,(false),(by first|rfl|(simp;done)|(simp [*];done)),H',⟨by have:=HJ3.out;first|omega|exact Nat.le_refl _⟩,⟨by repeat (first|(with_reducible first|exact HB.out|apply below_alloc|apply pw_below_drewN|apply below_drew1)|exact HB.out)⟩⟩
          case rest=>
           clear HC7
           try clear c1
           try clear p1
           try clear q1
           try clear hx1
           try clear qi1
           try clear c2
           try clear c2b0
           try clear c2b1
           try clear p2
           try clear p3
           try clear c5
           try clear c5b0
           try clear c6
           try clear c8
           try clear c8b0
           try clear hx101_0
           try clear p1
           try clear p101
           try clear p2
           try clear p3
           try clear q1
           try clear q101
           obtain ⟨kq,x20_6,rfl,HA,HJ6,HB⟩:=hcut
           cases kq with
           |zero=>exact absurd HA.out (by simp [mummerref02_begins.j1])
           |succ kj6=>
            have H:=HA.out;clear HA;simp only [mummerref02_begins.j1] at H;by_cases c9:x20_6=true
            · subst c9
              have H1:(mummerref02_begins.j2 kj6 l0 3)=some r:=by rw [if_pos rfl] at H;exact H
              clear H;have H:=H1;clear H1;have H':=Aside0.mk H;clear H;go_wp2
              go_meet
              case rel=>exact ⟨_,(3),(by first|rfl|(simp;done)|(simp [*];done)),H',⟨by have:=HJ3.out;have:=HJ6.out;first|omega|exact Nat.le_refl _⟩,⟨by repeat (first|(with_reducible first|exact HB.out|apply below_alloc|apply pw_below_drewN|apply below_drew1)|exact HB.out)⟩⟩
            · replace c9:=Bool.eq_false_iff.mpr c9;subst c9
              have H1:(if (wrap32 (rd l0 0))≥240 then (if (wrap32 (rd l0 0))<248 then (mummerref02_begins.j2 kj6 l0 4) else (mummerref02_begins.j2 kj6 l0 0)) else (mummerref02_begins.j2 kj6 l0 0))=some r:=by rw [if_neg (show ¬(false=true) by decide)] at H;exact H
              clear H;have H:=H1;clear H1;by_cases c10:(wrap32 (rd l0 0))≥240
              · rw [if_pos c10] at H;have c10b0:decide (240≤(wrap32 (rd l0 0)))=true:=decide_eq_true c10;clear c10;by_cases c11:(wrap32 (rd l0 0))<248
                · rw [if_pos c11] at H;have c11b0:decide ((wrap32 (rd l0 0))<248)=true:=decide_eq_true c11;clear c11;have H':=Aside0.mk H;clear H;go_wp2
                  go_meet
                  case rel=>exact ⟨_,(4),(by first|rfl|(simp;done)|(simp [*];done)),H',⟨by have:=HJ3.out;have:=HJ6.out;first|omega|exact Nat.le_refl _⟩,⟨by repeat (first|(with_reducible first|exact HB.out|apply below_alloc|apply pw_below_drewN|apply below_drew1)|exact HB.out)⟩⟩
                · rw [if_neg c11] at H;have c11b0:decide ((wrap32 (rd l0 0))<248)=false:=decide_eq_false c11;clear c11;have H':=Aside0.mk H;clear H;go_wp2
                  go_meet
                  case rel=>exact ⟨_,(0),(by first|rfl|(simp;done)|(simp [*];done)),H',⟨by have:=HJ3.out;have:=HJ6.out;first|omega|exact Nat.le_refl _⟩,⟨by repeat (first|(with_reducible first|exact HB.out|apply below_alloc|apply pw_below_drewN|apply below_drew1)|exact HB.out)⟩⟩
              · rw [if_neg c10] at H;have c10b0:decide (240≤(wrap32 (rd l0 0)))=false:=decide_eq_false c10;clear c10;have H':=Aside0.mk H;clear H;go_wp2
                go_meet
                case rel=>exact ⟨_,(0),(by first|rfl|(simp;done)|(simp [*];done)),H',⟨by have:=HJ3.out;have:=HJ6.out;first|omega|exact Nat.le_refl _⟩,⟨by repeat (first|(with_reducible first|exact HB.out|apply below_alloc|apply pw_below_drewN|apply below_drew1)|exact HB.out)⟩⟩
   case rest=>
    clear HC3
    try clear c1
    try clear p1
    try clear q1
    try clear hx1
    try clear qi1
    try clear c2
    try clear c2b0
    try clear c2b1
    try clear p2
    try clear p3
    try clear c5
    try clear c5b0
    try clear c6
    try clear c8
    try clear c8b0
    try clear c9
    try clear c10
    try clear c10b0
    try clear p10
    try clear q10
    try clear hx10
    try clear qi10
    try clear c11
    try clear c11b0
    try clear hx101_0
    try clear p1
    try clear p101
    try clear p2
    try clear p3
    try clear q1
    try clear q101
    obtain ⟨kq,x3_2,rfl,HA,HJ2,HB⟩:=hcut
    cases kq with
    |zero=>exact absurd HA.out (by simp [mummerref02_begins.j2])
    |succ kj2=>
     have H:=HA.out;clear HA;simp only [mummerref02_begins.j2] at H;by_cases c12:(l0.length:Int)≥x3_2
     · rw [if_pos c12] at H;have c12b0:decide (x3_2≤(l0.length:Int))=true:=decide_eq_true c12;clear c12;obtain rfl:=Option.some.inj H;go_wp2;go_ret;exact ⟨by first|rfl|(simp [errW_none,errW_some]<;>rfl)|(simp [*, errW_none,errW_some]<;>rfl),by repeat (first|(with_reducible first|exact HB.out|apply below_alloc|apply pw_below_drewN|apply below_drew1)|exact HB.out)⟩
     · rw [if_neg c12] at H;have c12b0:decide (x3_2≤(l0.length:Int))=false:=decide_eq_false c12;clear c12;have H':=Aside0.mk H;clear H;go_wp2
       go_loopg [5] kj2 (fun kq v5 w'=> ∃(x5_2:Int),v5= .int .i64 x5_2∧Aside0 (mummerref02_begins.l0 kq l0 x3_2 x5_2=some r)∧Aside0 (kq≤kj2)∧Aside0 (Below w.heap.size w w'))
       case atStart=>exact ⟨(128),(by first|rfl|(simp;done)|(simp [*];done)),H',⟨Nat.le_refl _⟩,⟨by repeat (first|(with_reducible first|exact HB.out|apply below_alloc|apply pw_below_drewN|apply below_drew1)|exact HB.out)⟩⟩
       case round=>
        clear H'
        try clear c1
        try clear p1
        try clear q1
        try clear hx1
        try clear qi1
        try clear c2
        try clear c2b0
        try clear c2b1
        try clear p2
        try clear p3
        try clear c5
        try clear c5b0
        try clear c6
        try clear c8
        try clear c8b0
        try clear c9
        try clear c10
        try clear c10b0
        try clear p10
        try clear q10
        try clear hx10
        try clear qi10
        try clear c11
        try clear c11b0
        try clear c12
        try clear c12b0
        try clear hx101_0
        try clear p1
        try clear p10
        try clear p101
        try clear p2
        try clear p3
        try clear q1
        try clear q10
        try clear q101
        obtain ⟨x5_2,rfl,HA,HK2,HB⟩:=hrel
        cases gk with
        |zero=>exact absurd HA.out (by simp [mummerref02_begins.l0])
        |succ k2=>
         have H:=HA.out;clear HA;simp only [mummerref02_begins.l0] at H;by_cases c13:x5_2≤191
         · rw [if_pos c13] at H;have c13b0:decide (x5_2≤191)=true:=decide_eq_true c13;clear c13
           obtain ⟨y102,hy102⟩: ∃y_:List Int,y_=(([]:List Int)):=⟨_,rfl⟩
           replace H:(if y102.length+l0.length<140737488355328 then (mummerref02_begins.l1 k2 l0 x3_2 x5_2 (y102++l0)) else (none))=some r:=by first|(rw [hy102];with_reducible exact H)|(have H2_:=(Option.bind_some _ _).symm.trans H;rw [hy102];with_reducible exact H2_)|(have H2_:=(Option.bind_some _ _).symm.trans H;with_reducible exact H2_)|with_reducible exact H|(rw [hy102];exact H)|exact H
           have Ny102:=Aside0.mk hy102;clear hy102;by_cases c14:y102.length+l0.length<140737488355328
           · rw [if_pos c14] at H;have LMc14:=Aside0.mk c14;clear c14
             obtain ⟨y105,hy105⟩: ∃y_:List Int,y_=(y102++l0):=⟨_,rfl⟩
             replace H:(mummerref02_begins.l1 k2 l0 x3_2 x5_2 y105)=some r:=by first|(rw [hy105];with_reducible exact H)|(have H2_:=(Option.bind_some _ _).symm.trans H;rw [hy105];with_reducible exact H2_)|(have H2_:=(Option.bind_some _ _).symm.trans H;with_reducible exact H2_)|with_reducible exact H|(rw [hy105];exact H)|exact H
             have Ny105:=Aside0.mk hy105;clear hy105;have H':=Aside0.mk H;clear H
             go_wp2_with (first|((with_reducible refine gate_dst (N:=42) rfl ?_);refine Kd.R_lit (Kd.int .u8) _ 5 ?hg (N:=42) ?hd (xs:=([]:List Int)) (inner:=[]) (ok:=fun _=>True) (okp:=fun _=>True) ?hr ?hp (fun _ hk=>hk) trivial (Below.refl _ _) (Nat.le_refl _) (by simp) ?_;(case hd=>rfl);(case hg=>rfl);(case hr=>first|(go_simp;done)|(go_simp;rfl));(case hp=>exact (Reps.none _ _));intro v103 w15 ho16 hb hg_ hnew_;clear hg_ hnew_;(first|rw [←Ny102.out] at ho16|(simp only [Int.reduceToNat] at ho16;rw [←Ny102.out] at ho16));have n0_:=Aside0.mk (Kd.R_lower ho16 (below_size (by repeat (first|(with_reducible first|exact HB.out|apply below_alloc|apply pw_below_drewN|apply below_drew1)|exact HB.out))));have n1_:=Aside0.mk (below_step (by repeat (first|(with_reducible first|exact HB.out|apply below_alloc|apply pw_below_drewN|apply below_drew1)|exact HB.out)) hb);clear HB;have HO104:=n0_;have HB:=n1_;clear n0_ n1_;clear hb ho16)|((with_reducible refine gate_builtin (b:= .append) (xs:= #[.tmp 42,.tmp 43]) rfl ?_);at_builtin;refine Kd.R_append_rows (Kd.int .u8) (w0:=w) w.heap.size rfl (.tmp 42) (.tmp 43) 80 5 (.int .u8 0) 1 rfl Tryz.underlying80 info5 rfl (by decide) (by omega) v103 y102 l0 _ _ _ (fun _=>True) (fun _=>False) rfl rfl ?aO ?aR (fun _ _ h=>h) (fun _ h=>h.elim) ?aF ?aB ?aS ?aL ?_;(case aR=>repeat (first|exact (Kd.C_below HR0.out HB.out)|(with_reducible refine Kd.C_alloc ?_ _)|(with_reducible refine Kd.C_drewN ?_ _)|(with_reducible refine Kd.C_drew ?_)));(case aB=>exact (by repeat (first|(with_reducible first|exact HB.out|apply below_alloc|apply pw_below_drewN|apply below_drew1)|exact HB.out)));(case aF=>exact (fun _ _=>trivial));(case aO=>exact (by (with_reducible repeat (first|apply Kd.R_alloc|apply Kd.R_drewN|apply Kd.R_drew));exact HO104.out));(case aS=>exact (below_size (by repeat (first|(with_reducible first|exact HB.out|apply below_alloc|apply pw_below_drewN|apply below_drew1)|exact HB.out))));(case aL=>have:=LMc14.out;omega);intro v106 w17 ho hb hg hat;rw [←Ny105.out] at ho;have n0_:=Aside0.mk (hb);have n1_:=Aside0.mk (ho);clear HB;clear HO104;have HB:=n0_;have HO107:=n1_;clear n0_ n1_;clear ho hb hg hat))
             go_loopg [6] k2 (fun kq v6 w'=> ∃(x6_3:List Int),Aside0 (mummerref02_begins.l1 kq l0 x3_2 x5_2 x6_3=some r)∧Aside0 (kq≤k2)∧Aside0 (Kd.R (Kd.int .u8) 5 w' w.heap.size (fun _=>True) v6 x6_3)∧Aside0 (Below w.heap.size w w'))
             case atStart=>exact ⟨(y105),H',⟨Nat.le_refl _⟩,⟨by (with_reducible repeat (first|apply Kd.R_alloc|apply Kd.R_drewN|apply Kd.R_drew));exact HO107.out⟩,⟨by repeat (first|(with_reducible first|exact HB.out|apply below_alloc|apply pw_below_drewN|apply below_drew1)|exact HB.out)⟩⟩
             case round=>
               clear H'
               try clear c1
               try clear p1
               try clear q1
               try clear hx1
               try clear qi1
               try clear c2
               try clear c2b0
               try clear c2b1
               try clear p2
               try clear p3
               try clear c5
               try clear c5b0
               try clear c6
               try clear c8
               try clear c8b0
               try clear c9
               try clear c10
               try clear c10b0
               try clear p10
               try clear q10
               try clear hx10
               try clear qi10
               try clear c11
               try clear c11b0
               try clear c12
               try clear c12b0
               try clear c13
               try clear c13b0
               try clear c14
               try clear hx101_0
               try clear p1
               try clear p10
               try clear p101
               try clear p2
               try clear p3
               try clear q1
               try clear q10
               try clear q101
               obtain ⟨x6_3,HA,HK3,HO_6,HB⟩:=hrel
               cases gk with
               |zero=>exact absurd HA.out (by simp [mummerref02_begins.l1])
               |succ k3=>
                have H:=HA.out;clear HA;simp only [mummerref02_begins.l1] at H;by_cases c18:(x6_3.length:Int)<x3_2
                · rw [if_pos c18] at H;have c18b0:decide ((x6_3.length:Int)<x3_2)=true:=decide_eq_true c18;clear c18;by_cases c19:x6_3.length<140737488355328
                  · rw [if_pos c19] at H;have LMc19:=Aside0.mk c19;clear c19
                    obtain ⟨y108,hy108⟩: ∃y_:List Int,y_=(x6_3++[(x5_2) % 256]):=⟨_,rfl⟩
                    replace H:(mummerref02_begins.l1 k3 l0 x3_2 x5_2 y108)=some r:=by first|(rw [hy108];with_reducible exact H)|(have H2_:=(Option.bind_some _ _).symm.trans H;rw [hy108];with_reducible exact H2_)|(have H2_:=(Option.bind_some _ _).symm.trans H;with_reducible exact H2_)|with_reducible exact H|(rw [hy108];exact H)|exact H
                    have Ny108:=Aside0.mk hy108;clear hy108;have H':=Aside0.mk H;clear H;obtain ⟨Ao20,co20,eo20⟩:=Kd.R_slice HO_6.out;subst eo20
                    go_wp2_with (first|((with_reducible refine gate_builtin (b:= .append) (xs:= #[.tmp 49,.tmp 52]) rfl ?_);at_builtin;refine Kd.R_append (Kd.int .u8) (w0:=w) w.heap.size rfl (.tmp 49) (.tmp 52) 80 5 (.int .u8 0) 1 rfl Tryz.underlying80 info5 rfl (by decide) (by omega) (.slice Ao20 x6_3.length co20) x6_3 ((x5_2) % 256) [.int .u8 ((x5_2) % 256)] (fun _=>True) (fun _=>False) rfl rfl ?aP (fun _ hk=>hk.elim) ?aF ?aO ?aB ?aS ?aL ?_;(case aP=>exact rfl);(case aB=>exact (by repeat (first|(with_reducible first|exact HB.out|apply below_alloc|apply pw_below_drewN|apply below_drew1)|exact HB.out)));(case aF=>exact (fun _ _=>trivial));(case aO=>exact (by (with_reducible repeat (first|apply Kd.R_alloc|apply Kd.R_drewN|apply Kd.R_drew));exact HO_6.out));(case aS=>exact (below_size (by repeat (first|(with_reducible first|exact HB.out|apply below_alloc|apply pw_below_drewN|apply below_drew1)|exact HB.out))));(case aL=>have:=LMc19.out;omega);intro v109 w21 ho hb hg hat;rw [←Ny108.out] at ho;have n0_:=Aside0.mk (hb);have n1_:=Aside0.mk (ho);clear HB;clear HO_6;have HB:=n0_;have HO110:=n1_;clear n0_ n1_;clear ho hb hg hat))
                    go_roundg k3
                    case measure=>have:=HJ2.out;have:=HK2.out;have:=HK3.out;omega
                    case rel=>exact ⟨(y108),H',⟨by have:=HJ2.out;have:=HK2.out;have:=HK3.out;omega⟩,⟨by (with_reducible repeat (first|apply Kd.R_alloc|apply Kd.R_drewN|apply Kd.R_drew));exact HO110.out⟩,⟨by repeat (first|(with_reducible first|exact HB.out|apply below_alloc|apply pw_below_drewN|apply below_drew1)|exact HB.out)⟩⟩
                  · rw [if_neg c19] at H;exact absurd H (by simp)
                · rw [if_neg c18] at H;have c18b0:decide ((x6_3.length:Int)<x3_2)=false:=decide_eq_false c18;clear c18;replace H:=Option.bind_eq_some_iff.mp H;obtain ⟨⟨t111,t112⟩,A220,H⟩:=H;replace H:(if t112=true then (some true) else (mummerref02_begins.l0 k3 l0 x3_2 (wrap64 (x5_2+63))))=some r:=H;have A22:=Aside0.mk A220;clear A220;by_cases c23:t112=true
                  · subst c23
                    have H1:(some true)=some r:=by rw [if_pos rfl] at H;exact H
                    clear H;have H:=H1;clear H1;obtain rfl:=Option.some.inj H;obtain ⟨Ao24,co24,eo24⟩:=Kd.R_slice HO_6.out;subst eo24
                    go_wp2_with (first|((with_reducible refine gate_callee (f:=114) rfl ?_);refine goesL_ (some 56) rfl rfl Tryz.func114 (by kernel_rfl) rfl #[.slice Ao24 x6_3.length co24] rfl (by (try simp only [List.map_toArray,List.map_cons,List.map_nil]);first|done|rfl|(simp only [List.length_drop,List.length_take];rfl)) ?_;(with_reducible refine (mummerref02_stands.calls _ _ x6_3 t111 true _ ?side1 ?side2 A22.out).mono ?_);(case side1=>repeat (first|exact (Kd.R_reads' HO_6.out).2.2|(with_reducible refine Kd.C_alloc ?_ _)|(with_reducible refine Kd.C_drewN ?_ _)|(with_reducible refine Kd.C_drew ?_)));(case side2=>exact (Kd.R_reads' HO_6.out).2.1);rintro e w25 ⟨rfl,hb⟩;refine ⟨_,rfl,?_⟩;have n0_:=Aside0.mk (Kd.R_below (by (with_reducible repeat (first|apply Kd.R_alloc|apply Kd.R_drewN|apply Kd.R_drew));exact HO_6.out) hb);have n1_:=Aside0.mk (below_step (by repeat (first|(with_reducible first|exact HB.out|apply below_alloc|apply pw_below_drewN|apply below_drew1)|exact HB.out)) hb);clear HO_6;clear HB;have HO_6:=n0_;have HB:=n1_;clear n0_ n1_;(try clear hb);(try clear hb2);(try clear hk);(try clear hi)))
                    go_ret;exact ⟨by first|rfl|(simp [errW_none,errW_some]<;>rfl)|(simp [*, errW_none,errW_some]<;>rfl),by repeat (first|(with_reducible first|exact HB.out|apply below_alloc|apply pw_below_drewN|apply below_drew1)|exact HB.out)⟩
                  · replace c23:=Bool.eq_false_iff.mpr c23;subst c23
                    have H1:(mummerref02_begins.l0 k3 l0 x3_2 (wrap64 (x5_2+63)))=some r:=by rw [if_neg (show ¬(false=true) by decide)] at H;exact H
                    clear H;have H:=H1;clear H1;have H':=Aside0.mk H;clear H;obtain ⟨Ao26,co26,eo26⟩:=Kd.R_slice HO_6.out;subst eo26
                    go_wp2_with (first|((with_reducible refine gate_callee (f:=114) rfl ?_);refine goesL_ (some 56) rfl rfl Tryz.func114 (by kernel_rfl) rfl #[.slice Ao26 x6_3.length co26] rfl (by (try simp only [List.map_toArray,List.map_cons,List.map_nil]);first|done|rfl|(simp only [List.length_drop,List.length_take];rfl)) ?_;(with_reducible refine (mummerref02_stands.calls _ _ x6_3 t111 false _ ?side1 ?side2 A22.out).mono ?_);(case side1=>repeat (first|exact (Kd.R_reads' HO_6.out).2.2|(with_reducible refine Kd.C_alloc ?_ _)|(with_reducible refine Kd.C_drewN ?_ _)|(with_reducible refine Kd.C_drew ?_)));(case side2=>exact (Kd.R_reads' HO_6.out).2.1);rintro e w27 ⟨rfl,hb⟩;refine ⟨_,rfl,?_⟩;have n0_:=Aside0.mk (Kd.R_below (by (with_reducible repeat (first|apply Kd.R_alloc|apply Kd.R_drewN|apply Kd.R_drew));exact HO_6.out) hb);have n1_:=Aside0.mk (below_step (by repeat (first|(with_reducible first|exact HB.out|apply below_alloc|apply pw_below_drewN|apply below_drew1)|exact HB.out)) hb);clear HO_6;clear HB;have HO_6:=n0_;have HB:=n1_;clear n0_ n1_;(try clear hb);(try clear hb2);(try clear hk);(try clear hi)))
                    go_roundg k3
                    case measure=>have:=HJ2.out;have:=HK2.out;have:=HK3.out;omega
                    case rel=>exact ⟨(wrap64 (x5_2+63)),(by first|rfl|(simp;done)|(simp [*];done)),H',⟨by have:=HJ2.out;have:=HK2.out;have:=HK3.out;omega⟩,⟨by repeat (first|(with_reducible first|exact HB.out|apply below_alloc|apply pw_below_drewN|apply below_drew1)|exact HB.out)⟩⟩
           · rw [if_neg c14] at H;exact absurd H (by simp)
         · rw [if_neg c13] at H;have c13b0:decide (x5_2≤191)=false:=decide_eq_false c13;clear c13;obtain rfl:=Option.some.inj H;go_wp2;go_ret;exact ⟨by first|rfl|(simp [errW_none,errW_some]<;>rfl)|(simp [*, errW_none,errW_some]<;>rfl),by repeat (first|(with_reducible first|exact HB.out|apply below_alloc|apply pw_below_drewN|apply below_drew1)|exact HB.out)⟩
 · rw [if_neg c2] at H;exact absurd H (by simp)
end Go.Proofs.YtgmiekggdgmhkaaGreatDoor.R
end
section
namespace Go.Proofs.YtgmiekggdgmhkaaGreatDoor.R
open Go.RowKit Go.Proofs.YtgmiekggdgmhkaaGreatDoorW.PrintWords Go.Proofs.YtgmiekggdgmhkaaGreatDoorW.PrintLast Go.Proofs.YtgmiekggdgmhkaaGreatDoorW.PrintMore
attribute [local go_sem] max2_int min2_int max_two min_two max_three min_three max_four min_four
set_option linter.unusedVariables false
set_option linter.unusedSimpArgs false
mutual
def mummerref02_Decode.j0:Nat→List Int→Int→Bool→Option (Int×Int×Int)
 |0,_,_,_=>none
 |k+1,x0,x1,x17=>if x17=true then (some (0,0,7)) else (mummerref02_Decode.l0 k x0 x1 1)
def mummerref02_Decode.l0:Nat→List Int→Int→Int→Option (Int×Int×Int)
 |0,_,_,_=>none
 |k+1,x0,x1,x7=>if x7≤4 then (mummerref02_Decode.j2 k x0 x1 x7 (decide ((wrap64 (x1+x7))≤(x0.length:Int)))) else (mummerref02_Decode.j2 k x0 x1 x7 false)
def mummerref02_Decode.j2:Nat→List Int→Int→Int→Bool→Option (Int×Int×Int)
 |0,_,_,_,_=>none
 |k+1,x0,x1,x7,x27=>if x27=true then (if 0≤x1 then (if x1≤(wrap64 (x1+x7)) then (if (wrap64 (x1+x7))≤(x0.length:Int) then ((mummerref02_stands.f ((x0.take ((wrap64 (x1+x7)):Int).toNat).drop (x1:Int).toNat)).bind fun bt114=>(if bt114.2=true then (some (bt114.1,x7,0)) else (mummerref02_Decode.l0 k x0 x1 (wrap64 (x7+1))))) else (none)) else (none)) else (none)) else (if (wrap64 ((x0.length:Int)-x1))<4 then (if 0≤x1 then (if x1≤(x0.length:Int) then ((mummerref02_begins.f k (x0.drop (x1:Int).toNat)).bind fun t117=>(if t117=true then (some (0,0,320)) else (some (0,0,6)))) else (none)) else (none)) else (some (0,0,6)))
end
def mummerref02_Decode.f (k:Nat) (l0:List Int) (a1:Int):Option (Int×Int×Int):=if a1<0 then (mummerref02_Decode.j0 k l0 a1 true) else (mummerref02_Decode.j0 k l0 a1 (decide (a1≥(l0.length:Int))))
theorem mummerref02_Decode.mono_l: ∀k,(∀y0 y1 y2,LeO (mummerref02_Decode.j0 k y0 y1 y2) (mummerref02_Decode.j0 (k+1) y0 y1 y2))∧(∀y0 y1 y2,LeO (mummerref02_Decode.l0 k y0 y1 y2) (mummerref02_Decode.l0 (k+1) y0 y1 y2))∧(∀y0 y1 y2 y3,LeO (mummerref02_Decode.j2 k y0 y1 y2 y3) (mummerref02_Decode.j2 (k+1) y0 y1 y2 y3))
 |0=>⟨fun _ _ _ r h=>by simp [mummerref02_Decode.j0] at h,fun _ _ _ r h=>by simp [mummerref02_Decode.l0] at h,fun _ _ _ _ r h=>by simp [mummerref02_Decode.j2] at h⟩
 |k+1=>by
  obtain ⟨ih0,ih1,ih2⟩:=mummerref02_Decode.mono_l k;refine ⟨?_,?_,?_⟩
  · intro y0 y1 y2;unfold mummerref02_Decode.j0
    repeat' first
    |(with_reducible exact ih0 _ _ _)
    |(with_reducible exact ih1 _ _ _)
    |(with_reducible exact ih2 _ _ _ _)
    |(with_reducible exact mummerref02_begins.mono _ _)
    |(with_reducible exact LeO.refl _)
    |(with_reducible exact LeO.none _)
    |(with_reducible refine LeO.ite ?_ ?_)
    |(with_reducible refine LeO.bind ?_ (fun _=>?_))
    |exact ih0 _ _ _
    |exact ih1 _ _ _
    |exact ih2 _ _ _ _
    |exact mummerref02_begins.mono _ _
    |exact LeO.none _
    |refine LeO.ite ?_ ?_
    |refine LeO.bind ?_ (fun _=>?_)
  · intro y0 y1 y2;unfold mummerref02_Decode.l0
    repeat' first
    |(with_reducible exact ih0 _ _ _)
    |(with_reducible exact ih1 _ _ _)
    |(with_reducible exact ih2 _ _ _ _)
    |(with_reducible exact mummerref02_begins.mono _ _)
    |(with_reducible exact LeO.refl _)
    |(with_reducible exact LeO.none _)
    |(with_reducible refine LeO.ite ?_ ?_)
    |(with_reducible refine LeO.bind ?_ (fun _=>?_))
    |exact ih0 _ _ _
    |exact ih1 _ _ _
    |exact ih2 _ _ _ _
    |exact mummerref02_begins.mono _ _
    |exact LeO.none _
    |refine LeO.ite ?_ ?_
    |refine LeO.bind ?_ (fun _=>?_)
  · intro y0 y1 y2 y3;unfold mummerref02_Decode.j2
    repeat' first
    |(with_reducible exact ih0 _ _ _)
    |(with_reducible exact ih1 _ _ _)
    |(with_reducible exact ih2 _ _ _ _)
    |(with_reducible exact mummerref02_begins.mono _ _)
    |(with_reducible exact LeO.refl _)
    |(with_reducible exact LeO.none _)
    |(with_reducible refine LeO.ite ?_ ?_)
    |(with_reducible refine LeO.bind ?_ (fun _=>?_))
    |exact ih0 _ _ _
    |exact ih1 _ _ _
    |exact ih2 _ _ _ _
    |exact mummerref02_begins.mono _ _
    |exact LeO.none _
    |refine LeO.ite ?_ ?_
    |refine LeO.bind ?_ (fun _=>?_)
theorem mummerref02_Decode.mono: ∀a0 a1 k,LeO (mummerref02_Decode.f k a0 a1) (mummerref02_Decode.f (k+1) a0 a1):=by
 intro a0 a1 k;obtain ⟨ih0,ih1,ih2⟩:=mummerref02_Decode.mono_l k;unfold mummerref02_Decode.f
 repeat' first
  |(with_reducible exact ih0 _ _ _)
  |(with_reducible exact ih1 _ _ _)
  |(with_reducible exact ih2 _ _ _ _)
  |(with_reducible exact mummerref02_begins.mono _ _)
  |(with_reducible exact LeO.refl _)
  |(with_reducible exact LeO.none _)
  |(with_reducible refine LeO.ite ?_ ?_)
  |(with_reducible refine LeO.bind ?_ (fun _=>?_))
  |exact ih0 _ _ _
  |exact ih1 _ _ _
  |exact ih2 _ _ _ _
  |exact mummerref02_begins.mono _ _
  |exact LeO.none _
  |refine LeO.ite ?_ ?_
  |refine LeO.bind ?_ (fun _=>?_)
set_option maxHeartbeats 8000000 in
set_option maxRecDepth 100000 in
theorem mummerref02_Decode.calls (k:Nat) (A0:Option Addr) (c0:Nat) (l0:List Int) (a1:Int) (r1:Int) (r2:Int) (r3:Int) (w:World) (hr0:Kd.C (Kd.int .u8) w A0 l0.length l0) (hc0:l0.length≤c0) (h:mummerref02_Decode.f k l0 a1=some (r1,r2,r3)):
 Calls Tryz.prog 97 #[.slice A0 l0.length c0,.int .i64 a1] w fun e w'=>e= .returned (.tuple #[.int .i32 r1,.int .i64 r2,.int .i64 r3])∧Below w.heap.size w w':=by
 have HR0:=Aside0.mk hr0;have HC0:=Aside0.mk hc0;clear hr0 hc0;have HB:=Aside0.mk (Below.refl w.heap.size w);have H:(if a1<0 then (mummerref02_Decode.j0 k l0 a1 true) else (mummerref02_Decode.j0 k l0 a1 (decide (a1≥(l0.length:Int)))))=some (r1,r2,r3):=h;clear h;have HC3:=Aside0.mk H;clear H;go_enter Tryz.func97,Tryz.ntmps97
 go_upto_region 1 with (fail)
 go_cut [17] (fun v17 wc=> ∃(kq:Nat) (x17_2:Bool),v17= .bool x17_2∧Aside0 (mummerref02_Decode.j0 kq l0 a1 x17_2=some (r1,r2,r3))∧Aside0 (kq≤k)∧Aside0 (Below w.heap.size w wc))
 case first=>
  have H:=HC3.out;clear HC3;by_cases c4:a1<0
  · rw [if_pos c4] at H;have c4b0:decide (a1<0)=true:=decide_eq_true c4;clear c4
    (first|rw [c4b0]|(simp only [i64_w,i32_w];rw [c4b0])|skip)
    have H':=Aside0.mk H;clear H;go_wp2
    go_meet
    case rel=>exact ⟨_,(true),(by first|rfl|(simp;done)|(simp [*];done)),H',⟨by first|omega|exact Nat.le_refl _⟩,⟨by repeat (first|(with_reducible first|exact HB.out|apply below_alloc|apply pw_below_drewN|apply below_drew1)|exact HB.out)⟩⟩
  · rw [if_neg c4] at H;have c4b0:decide (a1<0)=false:=decide_eq_false c4;clear c4
    (first|rw [c4b0]|(simp only [i64_w,i32_w];rw [c4b0])|skip)
    have H':=Aside0.mk H;clear H;go_wp2
    go_meet
    case rel=>exact ⟨_,(decide (a1≥(l0.length:Int))),(by first|rfl|(simp;done)|(simp [*];done)),H',⟨by first|omega|exact Nat.le_refl _⟩,⟨by repeat (first|(with_reducible first|exact HB.out|apply below_alloc|apply pw_below_drewN|apply below_drew1)|exact HB.out)⟩⟩
 case rest=>
  clear HC3
  try clear p2
  try clear c4
  try clear c4b0
  obtain ⟨kq,x17_2,rfl,HA,HJ2,HB⟩:=hcut
  cases kq with
  |zero=>exact absurd HA.out (by simp [mummerref02_Decode.j0])
  |succ kj2=>
   have H:=HA.out;clear HA;simp only [mummerref02_Decode.j0] at H;by_cases c5:x17_2=true
   · subst c5
     have H1:(some (0,0,7))=some (r1,r2,r3):=by rw [if_pos rfl] at H;exact H
     clear H;have H:=H1;clear H1;simp only [Option.some.injEq,Prod.mk.injEq] at H;obtain ⟨rfl,rfl,rfl⟩:=H;go_wp2
     go_ret3
     exact ⟨by first|rfl|(simp [errW_none,errW_some]<;>rfl)|(simp [*, errW_none,errW_some]<;>rfl),by repeat (first|(with_reducible first|exact HB.out|apply below_alloc|apply pw_below_drewN|apply below_drew1)|exact HB.out)⟩
   · replace c5:=Bool.eq_false_iff.mpr c5;subst c5
     have H1:(mummerref02_Decode.l0 kj2 l0 a1 1)=some (r1,r2,r3):=by rw [if_neg (show ¬(false=true) by decide)] at H;exact H
     clear H;have H:=H1;clear H1;have H':=Aside0.mk H;clear H;go_wp2
     go_loopg [7] kj2 (fun kq v7 w'=> ∃(x7_2:Int),v7= .int .i64 x7_2∧Aside0 (mummerref02_Decode.l0 kq l0 a1 x7_2=some (r1,r2,r3))∧Aside0 (kq≤kj2)∧Aside0 (Below w.heap.size w w'))
     case atStart=>exact ⟨(1),(by first|rfl|(simp;done)|(simp [*];done)),H',⟨Nat.le_refl _⟩,⟨by repeat (first|(with_reducible first|exact HB.out|apply below_alloc|apply pw_below_drewN|apply below_drew1)|exact HB.out)⟩⟩
     case round=>
      clear H'
      try clear p2
      try clear c4
      try clear c4b0
      try clear c5
      try clear p2
      obtain ⟨x7_2,rfl,HA,HK2,HB⟩:=hrel
      cases gk with
      |zero=>exact absurd HA.out (by simp [mummerref02_Decode.l0])
      |succ k2=>
       have H:=HA.out;clear HA;simp only [mummerref02_Decode.l0] at H;have HC6:=Aside0.mk H;clear H
       go_upto_region 4 with (fail)
       go_cut [27] (fun v27 wc=> ∃(kq:Nat) (x27_5:Bool),v27= .bool x27_5∧Aside0 (mummerref02_Decode.j2 kq l0 a1 x7_2 x27_5=some (r1,r2,r3))∧Aside0 (kq≤k2)∧Aside0 (Below w.heap.size w wc))
       case first=>
        have H:=HC6.out;clear HC6;by_cases c7:x7_2≤4
        · rw [if_pos c7] at H;have c7b0:decide (x7_2≤4)=true:=decide_eq_true c7;clear c7
          (first|rw [c7b0]|(simp only [i64_w,i32_w];rw [c7b0])|skip)
          have H':=Aside0.mk H;clear H;go_wp2
          go_meet
          case rel=>exact ⟨_,(decide ((wrap64 (a1+x7_2))≤(l0.length:Int))),(by first|rfl|(simp;done)|(simp [*];done)),H',⟨by have:=HJ2.out;have:=HK2.out;first|omega|exact Nat.le_refl _⟩,⟨by repeat (first|(with_reducible first|exact HB.out|apply below_alloc|apply pw_below_drewN|apply below_drew1)|exact HB.out)⟩⟩
        · rw [if_neg c7] at H;have c7b0:decide (x7_2≤4)=false:=decide_eq_false c7;clear c7
          (first|rw [c7b0]|(simp only [i64_w,i32_w];rw [c7b0])|skip)
          have H':=Aside0.mk H;clear H;go_wp2
          go_meet
          case rel=>exact ⟨_,(false),(by first|rfl|(simp;done)|(simp [*];done)),H',⟨by have:=HJ2.out;have:=HK2.out;first|omega|exact Nat.le_refl _⟩,⟨by repeat (first|(with_reducible first|exact HB.out|apply below_alloc|apply pw_below_drewN|apply below_drew1)|exact HB.out)⟩⟩
       case rest=>
        clear HC6
        try clear p2
        try clear c4
        try clear c4b0
        try clear c5
        try clear p6
        try clear c7
        try clear c7b0
        try clear p2
        obtain ⟨kq,x27_5,rfl,HA,HJ5,HB⟩:=hcut
        cases kq with
        |zero=>exact absurd HA.out (by simp [mummerref02_Decode.j2])
        |succ kj5=>
         have H:=HA.out;clear HA;simp only [mummerref02_Decode.j2] at H;by_cases c8:x27_5=true
         · subst c8
           have H1:(if 0≤a1 then (if a1≤(wrap64 (a1+x7_2)) then (if (wrap64 (a1+x7_2))≤(l0.length:Int) then ((mummerref02_stands.f ((l0.take ((wrap64 (a1+x7_2)):Int).toNat).drop (a1:Int).toNat)).bind fun bt114=>(if bt114.2=true then (some (bt114.1,x7_2,0)) else (mummerref02_Decode.l0 kj5 l0 a1 (wrap64 (x7_2+1))))) else (none)) else (none)) else (none))=some (r1,r2,r3):=by rw [if_pos rfl] at H;exact H
           clear H;have H:=H1;clear H1;by_cases c9:0≤a1
           · rw [if_pos c9] at H;have c9b0:=eq_true c9;have c9b1:decide (0≤a1)=true:=decide_eq_true c9;clear c9;by_cases c10:a1≤(wrap64 (a1+x7_2))
             · rw [if_pos c10] at H;have c10b0:=eq_true c10;have c10b1:decide (a1≤(wrap64 (a1+x7_2)))=true:=decide_eq_true c10;by_cases c11:(wrap64 (a1+x7_2))≤(l0.length:Int)
               · rw [if_pos c11] at H;have c11b0:=eq_true c11;have c11b1:decide ((wrap64 (a1+x7_2))≤(l0.length:Int))=true:=decide_eq_true c11;replace H:=Option.bind_eq_some_iff.mp H;obtain ⟨⟨t114,t115⟩,A120,H⟩:=H;replace H:(if t115=true then (some (t114,x7_2,0)) else (mummerref02_Decode.l0 kj5 l0 a1 (wrap64 (x7_2+1))))=some (r1,r2,r3):=H;have A12:=Aside0.mk A120;clear A120;by_cases c13:t115=true
                 · subst c13
                   have H1:(some (t114,x7_2,0))=some (r1,r2,r3):=by rw [if_pos rfl] at H;exact H
                   clear H;have H:=H1;clear H1;simp only [Option.some.injEq,Prod.mk.injEq] at H;obtain ⟨rfl,rfl,rfl⟩:=H;obtain ⟨i014,hi014,_,hsz14,_⟩:=info_parts info5;obtain ⟨A14,hcut14,hA14,hC14⟩:=print_mid_of (P:=Tryz.prog) (Value.int .u8) 0 80 5 .i64 .i64 Tryz.underlying80 hi014 hsz14 A0 c0 l0 a1 (wrap64 (a1+x7_2)) (of_decide_eq_true (by first|(with_reducible assumption)|assumption)) (by first|omega|exact of_decide_eq_true (by first|(with_reducible assumption)|assumption)) (of_decide_eq_true (by first|(with_reducible assumption)|assumption)) HC0.out;have HR113:=Aside0.mk (Kd.C_of_reads (h1:=fun _=>rfl) (hA14 _ (Kd.reads_of_C HR0.out)));have HC113:=Aside0.mk hC14;clear hA14 hC14 hi014 hsz14
                   go_wp2_with (first|((with_reducible refine gate_callee (f:=114) rfl ?_);refine goesL_ (some 37) rfl rfl Tryz.func114 (by kernel_rfl) rfl #[.slice A14 ((l0.take ((wrap64 (a1+x7_2)):Int).toNat).drop (a1:Int).toNat).length (c0-a1.toNat)] rfl (by (try simp only [List.map_toArray,List.map_cons,List.map_nil]);first|done|(rw [show ((l0.take ((wrap64 (a1+x7_2)):Int).toNat).drop (a1:Int).toNat).length=((wrap64 (a1+x7_2)).toNat-a1.toNat) from (by rw [List.length_drop,List.length_take];have h_:((wrap64 (a1+x7_2)):Int)≤(l0.length:Int):=of_decide_eq_true (by first|(with_reducible assumption)|assumption);omega)]<;>rfl)|rfl|(simp only [List.length_drop,List.length_take];rfl)) ?_;(with_reducible refine (mummerref02_stands.calls _ _ ((l0.take ((wrap64 (a1+x7_2)):Int).toNat).drop (a1:Int).toNat) t114 true _ ?side1 ?side2 A12.out).mono ?_);(case side1=>repeat (first|exact (Kd.C_below HR113.out HB.out)|(with_reducible refine Kd.C_alloc ?_ _)|(with_reducible refine Kd.C_drewN ?_ _)|(with_reducible refine Kd.C_drew ?_)));(case side2=>exact HC113.out);rintro e w15 ⟨rfl,hb⟩;refine ⟨_,rfl,?_⟩;have n0_:=Aside0.mk (below_step (by repeat (first|(with_reducible first|exact HB.out|apply below_alloc|apply pw_below_drewN|apply below_drew1)|exact HB.out)) hb);clear HB;have HB:=n0_;clear n0_;(try clear hb);(try clear hb2);(try clear hk);(try clear hi)))
                   go_ret3
                   exact ⟨by first|rfl|(simp [errW_none,errW_some]<;>rfl)|(simp [*, errW_none,errW_some]<;>rfl),by repeat (first|(with_reducible first|exact HB.out|apply below_alloc|apply pw_below_drewN|apply below_drew1)|exact HB.out)⟩
                 · replace c13:=Bool.eq_false_iff.mpr c13;subst c13
                   have H1:(mummerref02_Decode.l0 kj5 l0 a1 (wrap64 (x7_2+1)))=some (r1,r2,r3):=by rw [if_neg (show ¬(false=true) by decide)] at H;exact H
                   clear H;have H:=H1;clear H1;have H':=Aside0.mk H;clear H;obtain ⟨i016,hi016,_,hsz16,_⟩:=info_parts info5;obtain ⟨A16,hcut16,hA16,hC16⟩:=print_mid_of (P:=Tryz.prog) (Value.int .u8) 0 80 5 .i64 .i64 Tryz.underlying80 hi016 hsz16 A0 c0 l0 a1 (wrap64 (a1+x7_2)) (of_decide_eq_true (by first|(with_reducible assumption)|assumption)) (by first|omega|exact of_decide_eq_true (by first|(with_reducible assumption)|assumption)) (of_decide_eq_true (by first|(with_reducible assumption)|assumption)) HC0.out;have HR113:=Aside0.mk (Kd.C_of_reads (h1:=fun _=>rfl) (hA16 _ (Kd.reads_of_C HR0.out)));have HC113:=Aside0.mk hC16;clear hA16 hC16 hi016 hsz16
                   go_wp2_with (first|((with_reducible refine gate_callee (f:=114) rfl ?_);refine goesL_ (some 37) rfl rfl Tryz.func114 (by kernel_rfl) rfl #[.slice A16 ((l0.take ((wrap64 (a1+x7_2)):Int).toNat).drop (a1:Int).toNat).length (c0-a1.toNat)] rfl (by (try simp only [List.map_toArray,List.map_cons,List.map_nil]);first|done|(rw [show ((l0.take ((wrap64 (a1+x7_2)):Int).toNat).drop (a1:Int).toNat).length=((wrap64 (a1+x7_2)).toNat-a1.toNat) from (by rw [List.length_drop,List.length_take];have h_:((wrap64 (a1+x7_2)):Int)≤(l0.length:Int):=of_decide_eq_true (by first|(with_reducible assumption)|assumption);omega)]<;>rfl)|rfl|(simp only [List.length_drop,List.length_take];rfl)) ?_;(with_reducible refine (mummerref02_stands.calls _ _ ((l0.take ((wrap64 (a1+x7_2)):Int).toNat).drop (a1:Int).toNat) t114 false _ ?side1 ?side2 A12.out).mono ?_);(case side1=>repeat (first|exact (Kd.C_below HR113.out HB.out)|(with_reducible refine Kd.C_alloc ?_ _)|(with_reducible refine Kd.C_drewN ?_ _)|(with_reducible refine Kd.C_drew ?_)));(case side2=>exact HC113.out);rintro e w17 ⟨rfl,hb⟩;refine ⟨_,rfl,?_⟩;have n0_:=Aside0.mk (below_step (by repeat (first|(with_reducible first|exact HB.out|apply below_alloc|apply pw_below_drewN|apply below_drew1)|exact HB.out)) hb);clear HB;have HB:=n0_;clear n0_;(try clear hb);(try clear hb2);(try clear hk);(try clear hi)))
                   go_roundg kj5
                   case measure=>have:=HJ2.out;have:=HK2.out;have:=HJ5.out;omega
                   case rel=>exact ⟨(wrap64 (x7_2+1)),(by first|rfl|(simp;done)|(simp [*];done)),H',⟨by have:=HJ2.out;have:=HK2.out;have:=HJ5.out;omega⟩,⟨by repeat (first|(with_reducible first|exact HB.out|apply below_alloc|apply pw_below_drewN|apply below_drew1)|exact HB.out)⟩⟩
               · rw [if_neg c11] at H;exact absurd H (by simp)
             · rw [if_neg c10] at H;exact absurd H (by simp)
           · rw [if_neg c9] at H;exact absurd H (by simp)
         · replace c8:=Bool.eq_false_iff.mpr c8;subst c8
           have H1:(if (wrap64 ((l0.length:Int)-a1))<4 then (if 0≤a1 then (if a1≤(l0.length:Int) then ((mummerref02_begins.f kj5 (l0.drop (a1:Int).toNat)).bind fun t117=>(if t117=true then (some (0,0,320)) else (some (0,0,6)))) else (none)) else (none)) else (some (0,0,6)))=some (r1,r2,r3):=by rw [if_neg (show ¬(false=true) by decide)] at H;exact H
           clear H;have H:=H1;clear H1;by_cases c18:(wrap64 ((l0.length:Int)-a1))<4
           · rw [if_pos c18] at H;have c18b0:decide ((wrap64 ((l0.length:Int)-a1))<4)=true:=decide_eq_true c18;clear c18;by_cases c19:0≤a1
             · rw [if_pos c19] at H;have c19b0:=eq_true c19;have c19b1:decide (0≤a1)=true:=decide_eq_true c19;clear c19;by_cases c20:a1≤(l0.length:Int)
               · rw [if_pos c20] at H;have c20b0:=eq_true c20;have c20b1:decide (a1≤(l0.length:Int))=true:=decide_eq_true c20;clear c20;replace H:=Option.bind_eq_some_iff.mp H;obtain ⟨t117,A210,H⟩:=H;replace H:(if t117=true then (some (0,0,320)) else (some (0,0,6)))=some (r1,r2,r3):=H;have A21:=Aside0.mk A210;clear A210;by_cases c22:t117=true
                 · subst c22
                   have H1:(some (0,0,320))=some (r1,r2,r3):=by rw [if_pos rfl] at H;exact H
                   clear H;have H:=H1;clear H1;simp only [Option.some.injEq,Prod.mk.injEq] at H;obtain ⟨rfl,rfl,rfl⟩:=H;obtain ⟨i023,hi023,_,hsz23,_⟩:=info_parts info5;obtain ⟨A23,hcut23,hA23,hC23⟩:=print_drop_of (P:=Tryz.prog) (Value.int .u8) 0 80 5 .i64 Tryz.underlying80 hi023 hsz23 A0 c0 l0 a1 (of_decide_eq_true (by first|(with_reducible assumption)|assumption)) (of_decide_eq_true (by first|(with_reducible assumption)|assumption)) HC0.out;have HR116:=Aside0.mk (Kd.C_of_reads (h1:=fun _=>rfl) (hA23 _ (Kd.reads_of_C HR0.out)));have HC116:=Aside0.mk hC23;clear hA23 hC23 hi023 hsz23
                   go_wp2_with (first|(go_at_call 115;refine calls_of_args (args':= #[.slice A23 (l0.drop (a1:Int).toNat).length (c0-a1.toNat)]) (by first|rfl|(simp only [List.length_drop,List.length_take];done)|(simp only [List.length_drop,List.length_take];rfl)) ?_;(with_reducible refine (mummerref02_begins.calls kj5 _ _ (l0.drop (a1:Int).toNat) true _ ?side1 ?side2 A21.out).mono ?_);(case side1=>repeat (first|exact (Kd.C_below HR116.out HB.out)|(with_reducible refine Kd.C_alloc ?_ _)|(with_reducible refine Kd.C_drewN ?_ _)|(with_reducible refine Kd.C_drew ?_)));(case side2=>exact HC116.out);rintro e w24 ⟨rfl,hb⟩;have n0_:=Aside0.mk (below_step (by repeat (first|(with_reducible first|exact HB.out|apply below_alloc|apply pw_below_drewN|apply below_drew1)|exact HB.out)) hb);clear HB;have HB:=n0_;clear n0_;(try clear hb);(try clear hb2);(try clear hk);(try clear hi)))
                   go_ret3
                   exact ⟨by first|rfl|(simp [errW_none,errW_some]<;>rfl)|(simp [*, errW_none,errW_some]<;>rfl),by repeat (first|(with_reducible first|exact HB.out|apply below_alloc|apply pw_below_drewN|apply below_drew1)|exact HB.out)⟩
                 · replace c22:=Bool.eq_false_iff.mpr c22;subst c22
                   have H1:(some (0,0,6))=some (r1,r2,r3):=by rw [if_neg (show ¬(false=true) by decide)] at H;exact H
                   clear H;have H:=H1;clear H1;simp only [Option.some.injEq,Prod.mk.injEq] at H;obtain ⟨rfl,rfl,rfl⟩:=H;obtain ⟨i025,hi025,_,hsz25,_⟩:=info_parts info5;obtain ⟨A25,hcut25,hA25,hC25⟩:=print_drop_of (P:=Tryz.prog) (Value.int .u8) 0 80 5 .i64 Tryz.underlying80 hi025 hsz25 A0 c0 l0 a1 (of_decide_eq_true (by first|(with_reducible assumption)|assumption)) (of_decide_eq_true (by first|(with_reducible assumption)|assumption)) HC0.out;have HR116:=Aside0.mk (Kd.C_of_reads (h1:=fun _=>rfl) (hA25 _ (Kd.reads_of_C HR0.out)));have HC116:=Aside0.mk hC25;clear hA25 hC25 hi025 hsz25
                   go_wp2_with (first|(go_at_call 115;refine calls_of_args (args':= #[.slice A25 (l0.drop (a1:Int).toNat).length (c0-a1.toNat)]) (by first|rfl|(simp only [List.length_drop,List.length_take];done)|(simp only [List.length_drop,List.length_take];rfl)) ?_;(with_reducible refine (mummerref02_begins.calls kj5 _ _ (l0.drop (a1:Int).toNat) false _ ?side1 ?side2 A21.out).mono ?_);(case side1=>repeat (first|exact (Kd.C_below HR116.out HB.out)|(with_reducible refine Kd.C_alloc ?_ _)|(with_reducible refine Kd.C_drewN ?_ _)|(with_reducible refine Kd.C_drew ?_)));(case side2=>exact HC116.out);rintro e w26 ⟨rfl,hb⟩;have n0_:=Aside0.mk (below_step (by repeat (first|(with_reducible first|exact HB.out|apply below_alloc|apply pw_below_drewN|apply below_drew1)|exact HB.out)) hb);clear HB;have HB:=n0_;clear n0_;(try clear hb);(try clear hb2);(try clear hk);(try clear hi)))
                   go_ret3
                   exact ⟨by first|rfl|(simp [errW_none,errW_some]<;>rfl)|(simp [*, errW_none,errW_some]<;>rfl),by repeat (first|(with_reducible first|exact HB.out|apply below_alloc|apply pw_below_drewN|apply below_drew1)|exact HB.out)⟩
               · rw [if_neg c20] at H;exact absurd H (by simp)
             · rw [if_neg c19] at H;exact absurd H (by simp)
           · rw [if_neg c18] at H;have c18b0:decide ((wrap64 ((l0.length:Int)-a1))<4)=false:=decide_eq_false c18;clear c18;simp only [Option.some.injEq,Prod.mk.injEq] at H;obtain ⟨rfl,rfl,rfl⟩:=H;go_wp2
             go_ret3
             exact ⟨by first|rfl|(simp [errW_none,errW_some]<;>rfl)|(simp [*, errW_none,errW_some]<;>rfl),by repeat (first|(with_reducible first|exact HB.out|apply below_alloc|apply pw_below_drewN|apply below_drew1)|exact HB.out)⟩
def mummerref02_Check.l0:Nat→List Int→Int→Option (Int×Int)
 |0,_,_=>none
 |k+1,x0,x4=>if x4<(x0.length:Int) then ((mummerref02_Decode.f k x0 x4).bind fun bt118=>(if bt118.2.2=0 then (mummerref02_Check.l0 k x0 (wrap64 (x4+bt118.2.1))) else (some (x4,bt118.2.2)))) else (some (x4,0))
def mummerref02_Check.f (k:Nat) (l0:List Int):Option (Int×Int):=if (l0.length:Int)>8000 then (some (0,3)) else (mummerref02_Check.l0 k l0 0)
set_option maxHeartbeats 8000000 in
set_option maxRecDepth 100000 in
theorem mummerref02_Check.calls (k:Nat) (A0:Option Addr) (c0:Nat) (l0:List Int) (r1:Int) (r2:Int) (w:World) (hr0:Kd.C (Kd.int .u8) w A0 l0.length l0) (hc0:l0.length≤c0) (h:mummerref02_Check.f k l0=some (r1,r2)):
 Calls Tryz.prog 96 #[.slice A0 l0.length c0] w fun e w'=>e= .returned (.tuple #[.int .i64 r1,.int .i64 r2])∧Below w.heap.size w w':=by
 have HR0:=Aside0.mk hr0;have HC0:=Aside0.mk hc0;clear hr0 hc0;have HB:=Aside0.mk (Below.refl w.heap.size w);have H:(if (l0.length:Int)>8000 then (some (0,3)) else (mummerref02_Check.l0 k l0 0))=some (r1,r2):=h;clear h;by_cases c2:(l0.length:Int)>8000
 · rw [if_pos c2] at H;have c2b0:decide (8000<(l0.length:Int))=true:=decide_eq_true c2;have c2b1:decide (8000<l0.length)=true:=decide_eq_true (by omega);clear c2;simp only [Option.some.injEq,Prod.mk.injEq] at H;obtain ⟨rfl,rfl⟩:=H;go_enter Tryz.func96,Tryz.ntmps96;go_wp2;go_ret2;exact ⟨by first|rfl|(simp [errW_none,errW_some]<;>rfl)|(simp [*, errW_none,errW_some]<;>rfl),by repeat (first|(with_reducible first|exact HB.out|apply below_alloc|apply pw_below_drewN|apply below_drew1)|exact HB.out)⟩
 · rw [if_neg c2] at H;have c2b0:decide (8000<(l0.length:Int))=false:=decide_eq_false c2;have c2b1:decide (8000<l0.length)=false:=decide_eq_false (by omega);clear c2;have H':=Aside0.mk H;clear H;go_enter Tryz.func96,Tryz.ntmps96;go_wp2
   go_loopg [4] k (fun kq v4 w'=> ∃(x4_1:Int),v4= .int .i64 x4_1∧Aside0 (mummerref02_Check.l0 kq l0 x4_1=some (r1,r2))∧Aside0 (kq≤k)∧Aside0 (Below w.heap.size w w'))
   case atStart=>exact ⟨(0),(by first|rfl|(simp;done)|(simp [*];done)),H',⟨Nat.le_refl _⟩,⟨by repeat (first|(with_reducible first|exact HB.out|apply below_alloc|apply pw_below_drewN|apply below_drew1)|exact HB.out)⟩⟩
   case round=>
    clear H'
    try clear c2
    try clear c2b0
    try clear c2b1
    try clear p2
    obtain ⟨x4_1,rfl,HA,HK1,HB⟩:=hrel
    cases gk with
    |zero=>exact absurd HA.out (by simp [mummerref02_Check.l0])
    |succ k1=>
     have H:=HA.out;clear HA;simp only [mummerref02_Check.l0] at H;by_cases c3:x4_1<(l0.length:Int)
     · rw [if_pos c3] at H;have c3b0:decide (x4_1<(l0.length:Int))=true:=decide_eq_true c3;clear c3;replace H:=Option.bind_eq_some_iff.mp H;obtain ⟨⟨t118,t119,t120⟩,A40,H⟩:=H;replace H:(if t120=0 then (mummerref02_Check.l0 k1 l0 (wrap64 (x4_1+t119))) else (some (x4_1,t120)))=some (r1,r2):=H;have A4:=Aside0.mk A40;clear A40;by_cases c5:t120=0
       · rw [if_pos c5] at H;have c5b0:(t120==0)=true:=beq_iff_eq.mpr c5;have c5b1:(t120 != 0)=false:=bne_eq_false_iff_eq.mpr c5;clear c5;have H':=Aside0.mk H;clear H
         go_wp2_with (first|((with_reducible refine gate_callee (f:=97) rfl ?_);refine goesL_ (some 18) rfl rfl Tryz.func97 (by kernel_rfl) rfl #[.slice A0 l0.length c0,.int .i64 x4_1] rfl (by (try simp only [List.map_toArray,List.map_cons,List.map_nil]);first|done|rfl|(simp only [List.length_drop,List.length_take];rfl)) ?_;(with_reducible refine (mummerref02_Decode.calls k1 _ _ l0 x4_1 t118 t119 t120 _ ?side1 ?side2 A4.out).mono ?_);(case side1=>repeat (first|exact (Kd.C_below HR0.out HB.out)|(with_reducible refine Kd.C_alloc ?_ _)|(with_reducible refine Kd.C_drewN ?_ _)|(with_reducible refine Kd.C_drew ?_)));(case side2=>exact HC0.out);rintro e w6 ⟨rfl,hb⟩;refine ⟨_,rfl,?_⟩;have n0_:=Aside0.mk (below_step (by repeat (first|(with_reducible first|exact HB.out|apply below_alloc|apply pw_below_drewN|apply below_drew1)|exact HB.out)) hb);clear HB;have HB:=n0_;clear n0_;(try clear hb);(try clear hb2);(try clear hk);(try clear hi)))
         go_roundg k1
         case measure=>have:=HK1.out;omega
         case rel=>exact ⟨(wrap64 (x4_1+t119)),(by first|rfl|(simp;done)|(simp [*];done)),H',⟨by have:=HK1.out;omega⟩,⟨by repeat (first|(with_reducible first|exact HB.out|apply below_alloc|apply pw_below_drewN|apply below_drew1)|exact HB.out)⟩⟩
       · rw [if_neg c5] at H;have c5b0:(t120==0)=false:=beq_eq_false_iff_ne.mpr c5;have c5b1:(t120 != 0)=true:=bne_iff_ne.mpr c5;simp only [Option.some.injEq,Prod.mk.injEq] at H;obtain ⟨rfl,rfl⟩:=H
         go_wp2_with (first|((with_reducible refine gate_callee (f:=97) rfl ?_);refine goesL_ (some 18) rfl rfl Tryz.func97 (by kernel_rfl) rfl #[.slice A0 l0.length c0,.int .i64 x4_1] rfl (by (try simp only [List.map_toArray,List.map_cons,List.map_nil]);first|done|rfl|(simp only [List.length_drop,List.length_take];rfl)) ?_;(with_reducible refine (mummerref02_Decode.calls k1 _ _ l0 x4_1 t118 t119 t120 _ ?side1 ?side2 A4.out).mono ?_);(case side1=>repeat (first|exact (Kd.C_below HR0.out HB.out)|(with_reducible refine Kd.C_alloc ?_ _)|(with_reducible refine Kd.C_drewN ?_ _)|(with_reducible refine Kd.C_drew ?_)));(case side2=>exact HC0.out);rintro e w7 ⟨rfl,hb⟩;refine ⟨_,rfl,?_⟩;have n0_:=Aside0.mk (below_step (by repeat (first|(with_reducible first|exact HB.out|apply below_alloc|apply pw_below_drewN|apply below_drew1)|exact HB.out)) hb);clear HB;have HB:=n0_;clear n0_;(try clear hb);(try clear hb2);(try clear hk);(try clear hi)))
         go_ret2;exact ⟨by first|rfl|(simp [errW_none,errW_some]<;>rfl)|(simp [*, errW_none,errW_some]<;>rfl),by repeat (first|(with_reducible first|exact HB.out|apply below_alloc|apply pw_below_drewN|apply below_drew1)|exact HB.out)⟩
     · rw [if_neg c3] at H;have c3b0:decide (x4_1<(l0.length:Int))=false:=decide_eq_false c3;clear c3;simp only [Option.some.injEq,Prod.mk.injEq] at H;obtain ⟨rfl,rfl⟩:=H;go_wp2;go_ret2;exact ⟨by first|rfl|(simp [errW_none,errW_some]<;>rfl)|(simp [*, errW_none,errW_some]<;>rfl),by repeat (first|(with_reducible first|exact HB.out|apply below_alloc|apply pw_below_drewN|apply below_drew1)|exact HB.out)⟩
def mummerref02_Runes.l0:Nat→List Int→List Int→Int→Option (List Int×Int)
 |0,_,_,_=>none
 |k+1,x0,x6,x7=>if x7<(x0.length:Int) then ((mummerref02_Decode.f k x0 x7).bind fun bt123=>(if x6.length<35184372088832 then (mummerref02_Runes.l0 k x0 (x6++[bt123.1]) (wrap64 (x7+bt123.2.1))) else (none))) else (some (x6,0))
def mummerref02_Runes.f (k:Nat) (l0:List Int):Option (List Int×Int):=(mummerref02_Check.f k l0).bind fun bt121=>(if bt121.2=0 then (mummerref02_Runes.l0 k l0 ([]:List Int) 0) else (some (([]:List Int),bt121.2)))
set_option maxHeartbeats 8000000 in
set_option maxRecDepth 100000 in
theorem mummerref02_Runes.calls (k:Nat) (A0:Option Addr) (c0:Nat) (l0:List Int) (r1:List Int) (r2:Int) (w:World) (hr0:Kd.C (Kd.int .u8) w A0 l0.length l0) (hc0:l0.length≤c0) (h:mummerref02_Runes.f k l0=some (r1,r2)):
 Calls Tryz.prog 65 #[.slice A0 l0.length c0] w fun e w'=> ∃v0_:Value,e= .returned (.tuple #[v0_,.int .i64 r2])∧Kd.R (Kd.int .i32) 21 w' w.heap.size (fun _=>True) v0_ r1∧Below w.heap.size w w':=by
 have HR0:=Aside0.mk hr0;have HC0:=Aside0.mk hc0;clear hr0 hc0;have HB:=Aside0.mk (Below.refl w.heap.size w);have H:((mummerref02_Check.f k l0).bind fun bt121=>(if bt121.2=0 then (mummerref02_Runes.l0 k l0 ([]:List Int) 0) else (some (([]:List Int),bt121.2))))=some (r1,r2):=h;clear h;replace H:=Option.bind_eq_some_iff.mp H;obtain ⟨⟨t121,t122⟩,A20,H⟩:=H;replace H:(if t122=0 then (mummerref02_Runes.l0 k l0 ([]:List Int) 0) else (some (([]:List Int),t122)))=some (r1,r2):=H;have A2:=Aside0.mk A20;clear A20;by_cases c3:t122=0
 · rw [if_pos c3] at H;have c3b0:(t122==0)=true:=beq_iff_eq.mpr c3;have c3b1:(t122 != 0)=false:=bne_eq_false_iff_eq.mpr c3;clear c3;have H':=Aside0.mk H;clear H;go_enter Tryz.func65,Tryz.ntmps65
   go_wp2_with (first|((with_reducible refine gate_callee (f:=96) rfl ?_);refine goesL_ (some 13) rfl rfl Tryz.func96 (by kernel_rfl) rfl #[.slice A0 l0.length c0] rfl (by (try simp only [List.map_toArray,List.map_cons,List.map_nil]);first|done|rfl|(simp only [List.length_drop,List.length_take];rfl)) ?_;(with_reducible refine (mummerref02_Check.calls k _ _ l0 t121 t122 _ ?side1 ?side2 A2.out).mono ?_);(case side1=>repeat (first|exact HR0.out|(with_reducible refine Kd.C_alloc ?_ _)|(with_reducible refine Kd.C_drewN ?_ _)|(with_reducible refine Kd.C_drew ?_)));(case side2=>exact HC0.out);rintro e w4 ⟨rfl,hb⟩;refine ⟨_,rfl,?_⟩;have n0_:=Aside0.mk (below_step (by repeat (first|(with_reducible first|exact HB.out|apply below_alloc|apply pw_below_drewN|apply below_drew1)|exact HB.out)) hb);clear HB;have HB:=n0_;clear n0_;(try clear hb);(try clear hb2);(try clear hk);(try clear hi)))
   go_loopg [6,7] k (fun kq v6 v7 w'=> ∃(x6_1:List Int) (x7_1:Int),v7= .int .i64 x7_1∧Aside0 (mummerref02_Runes.l0 kq l0 x6_1 x7_1=some (r1,r2))∧Aside0 (kq≤k)∧Aside0 (Kd.R (Kd.int .i32) 21 w' w.heap.size (fun _=>True) v6 x6_1)∧Aside0 (Below w.heap.size w w'))
   case atStart=>exact ⟨(([]:List Int)),(0),(by first|rfl|(simp;done)|(simp [*];done)),H',⟨Nat.le_refl _⟩,⟨by first|exact Kd.R_nil _ _ _ _ _|exact Kd.N_nil _ _ _ _ _|exact Kd.V_nil _ _ _ _ _|exact Kd.Q_nil _ _ _ _ _|exact Kd.S_nil _ _ _ _ _⟩,⟨by repeat (first|(with_reducible first|exact HB.out|apply below_alloc|apply pw_below_drewN|apply below_drew1)|exact HB.out)⟩⟩
   case round=>
    clear H'
    try clear p2
    try clear c3
    try clear c3b0
    try clear c3b1
    obtain ⟨x6_1,x7_1,rfl,HA,HK1,HO_6,HB⟩:=hrel
    cases gk with
    |zero=>exact absurd HA.out (by simp [mummerref02_Runes.l0])
    |succ k1=>
     have H:=HA.out;clear HA;simp only [mummerref02_Runes.l0] at H;by_cases c5:x7_1<(l0.length:Int)
     · rw [if_pos c5] at H;have c5b0:decide (x7_1<(l0.length:Int))=true:=decide_eq_true c5;clear c5;replace H:=Option.bind_eq_some_iff.mp H;obtain ⟨⟨t123,t124,t125⟩,A60,H⟩:=H;replace H:(if x6_1.length<35184372088832 then (mummerref02_Runes.l0 k1 l0 (x6_1++[t123]) (wrap64 (x7_1+t124))) else (none))=some (r1,r2):=H;have A6:=Aside0.mk A60;clear A60;by_cases c7:x6_1.length<35184372088832
       · rw [if_pos c7] at H;have LMc7:=Aside0.mk c7;clear c7
         obtain ⟨y126,hy126⟩: ∃y_:List Int,y_=(x6_1++[t123]):=⟨_,rfl⟩
         replace H:(mummerref02_Runes.l0 k1 l0 y126 (wrap64 (x7_1+t124)))=some (r1,r2):=by first|(rw [hy126];with_reducible exact H)|(have H2_:=(Option.bind_some _ _).symm.trans H;rw [hy126];with_reducible exact H2_)|(have H2_:=(Option.bind_some _ _).symm.trans H;with_reducible exact H2_)|with_reducible exact H|(rw [hy126];exact H)|exact H
         have Ny126:=Aside0.mk hy126;clear hy126;have H':=Aside0.mk H;clear H
         go_wp2_with (first|((with_reducible refine gate_callee (f:=97) rfl ?_);refine goesL_ (some 26) rfl rfl Tryz.func97 (by kernel_rfl) rfl #[.slice A0 l0.length c0,.int .i64 x7_1] rfl (by (try simp only [List.map_toArray,List.map_cons,List.map_nil]);first|done|rfl|(simp only [List.length_drop,List.length_take];rfl)) ?_;(with_reducible refine (mummerref02_Decode.calls k1 _ _ l0 x7_1 t123 t124 t125 _ ?side1 ?side2 A6.out).mono ?_);(case side1=>repeat (first|exact (Kd.C_below HR0.out HB.out)|(with_reducible refine Kd.C_alloc ?_ _)|(with_reducible refine Kd.C_drewN ?_ _)|(with_reducible refine Kd.C_drew ?_)));(case side2=>exact HC0.out);rintro e w8 ⟨rfl,hb⟩;refine ⟨_,rfl,?_⟩;have n0_:=Aside0.mk (Kd.R_below (by (with_reducible repeat (first|apply Kd.R_alloc|apply Kd.R_drewN|apply Kd.R_drew));exact HO_6.out) hb);have n1_:=Aside0.mk (below_step (by repeat (first|(with_reducible first|exact HB.out|apply below_alloc|apply pw_below_drewN|apply below_drew1)|exact HB.out)) hb);clear HO_6;clear HB;have HO_6:=n0_;have HB:=n1_;clear n0_ n1_;(try clear hb);(try clear hb2);(try clear hk);(try clear hi))|((with_reducible refine gate_builtin (b:= .append) (xs:= #[.tmp 30,.tmp 32]) rfl ?_);at_builtin;refine Kd.R_append (Kd.int .i32) (w0:=w) w.heap.size rfl (.tmp 30) (.tmp 32) 77 21 (.int .i32 0) 4 rfl Tryz.underlying77 info21 rfl (by decide) (by omega) u6 x6_1 t123 [.int .i32 t123] (fun _=>True) (fun _=>False) rfl rfl ?aP (fun _ hk=>hk.elim) ?aF ?aO ?aB ?aS ?aL ?_;(case aP=>exact rfl);(case aB=>exact (by repeat (first|(with_reducible first|exact HB.out|apply below_alloc|apply pw_below_drewN|apply below_drew1)|exact HB.out)));(case aF=>exact (fun _ _=>trivial));(case aO=>exact (by (with_reducible repeat (first|apply Kd.R_alloc|apply Kd.R_drewN|apply Kd.R_drew));exact HO_6.out));(case aS=>exact (below_size (by repeat (first|(with_reducible first|exact HB.out|apply below_alloc|apply pw_below_drewN|apply below_drew1)|exact HB.out))));(case aL=>have:=LMc7.out;omega);intro v127 w9 ho hb hg hat;rw [←Ny126.out] at ho;have n0_:=Aside0.mk (hb);have n1_:=Aside0.mk (ho);clear HB;clear HO_6;have HB:=n0_;have HO128:=n1_;clear n0_ n1_;clear ho hb hg hat))
         go_roundg k1
         case measure=>have:=HK1.out;omega
         case rel=>exact ⟨(y126),(wrap64 (x7_1+t124)),(by first|rfl|(simp;done)|(simp [*];done)),H',⟨by have:=HK1.out;omega⟩,⟨by (with_reducible repeat (first|apply Kd.R_alloc|apply Kd.R_drewN|apply Kd.R_drew));exact HO128.out⟩,⟨by repeat (first|(with_reducible first|exact HB.out|apply below_alloc|apply pw_below_drewN|apply below_drew1)|exact HB.out)⟩⟩
       · rw [if_neg c7] at H;exact absurd H (by simp)
     · rw [if_neg c5] at H;have c5b0:decide (x7_1<(l0.length:Int))=false:=decide_eq_false c5;clear c5;simp only [Option.some.injEq,Prod.mk.injEq] at H;obtain ⟨rfl,rfl⟩:=H;go_wp2;go_ret2;exact ⟨_,by first|rfl|(simp [errW_none,errW_some]<;>rfl)|(simp [*, errW_none,errW_some]<;>rfl),by (with_reducible repeat (first|apply Kd.R_alloc|apply Kd.R_drewN|apply Kd.R_drew));exact HO_6.out,by repeat (first|(with_reducible first|exact HB.out|apply below_alloc|apply pw_below_drewN|apply below_drew1)|exact HB.out)⟩
 · rw [if_neg c3] at H;have c3b0:(t122==0)=false:=beq_eq_false_iff_ne.mpr c3;have c3b1:(t122 != 0)=true:=bne_iff_ne.mpr c3;simp only [Option.some.injEq,Prod.mk.injEq] at H;obtain ⟨rfl,rfl⟩:=H;go_enter Tryz.func65,Tryz.ntmps65
   go_wp2_with (first|((with_reducible refine gate_callee (f:=96) rfl ?_);refine goesL_ (some 13) rfl rfl Tryz.func96 (by kernel_rfl) rfl #[.slice A0 l0.length c0] rfl (by (try simp only [List.map_toArray,List.map_cons,List.map_nil]);first|done|rfl|(simp only [List.length_drop,List.length_take];rfl)) ?_;(with_reducible refine (mummerref02_Check.calls k _ _ l0 t121 t122 _ ?side1 ?side2 A2.out).mono ?_);(case side1=>repeat (first|exact HR0.out|(with_reducible refine Kd.C_alloc ?_ _)|(with_reducible refine Kd.C_drewN ?_ _)|(with_reducible refine Kd.C_drew ?_)));(case side2=>exact HC0.out);rintro e w10 ⟨rfl,hb⟩;refine ⟨_,rfl,?_⟩;have n0_:=Aside0.mk (below_step (by repeat (first|(with_reducible first|exact HB.out|apply below_alloc|apply pw_below_drewN|apply below_drew1)|exact HB.out)) hb);clear HB;have HB:=n0_;clear n0_;(try clear hb);(try clear hb2);(try clear hk);(try clear hi)))
   go_ret2;exact ⟨_,by first|rfl|(simp [errW_none,errW_some]<;>rfl)|(simp [*, errW_none,errW_some]<;>rfl),by first|exact Kd.R_nil _ _ _ _ _|exact Kd.N_nil _ _ _ _ _|exact Kd.V_nil _ _ _ _ _|exact Kd.Q_nil _ _ _ _ _|exact Kd.S_nil _ _ _ _ _,by repeat (first|(with_reducible first|exact HB.out|apply below_alloc|apply pw_below_drewN|apply below_drew1)|exact HB.out)⟩
def mummerref02_Is.f (a0:Int):Option (Bool):=if a0≥0 then (if a0≤1114111 then (if a0<55296 then (some true) else (some (decide (a0>57343)))) else (some false)) else (some false)
set_option maxHeartbeats 8000000 in
set_option maxRecDepth 100000 in
theorem mummerref02_Is.calls (a0:Int) (r:Bool) (w:World) (h:mummerref02_Is.f a0=some r):
 Calls Tryz.prog 98 #[.int .i32 a0] w fun e w'=>e= .returned (.bool r)∧Drawn0 w w':=by
 have H:(if a0≥0 then (if a0≤1114111 then (if a0<55296 then (some true) else (some (decide (a0>57343)))) else (some false)) else (some false))=some r:=h;clear h;by_cases c2:a0≥0
 · rw [if_pos c2] at H;have c2b0:decide (0≤a0)=true:=decide_eq_true c2;clear c2;by_cases c3:a0≤1114111
   · rw [if_pos c3] at H;have c3b0:decide (a0≤1114111)=true:=decide_eq_true c3;clear c3;by_cases c4:a0<55296
     · rw [if_pos c4] at H;have c4b0:decide (a0<55296)=true:=decide_eq_true c4;clear c4;obtain rfl:=Option.some.inj H;go_enter Tryz.func98,Tryz.ntmps98;go_wp2;go_ret;exact ⟨by first|rfl|(simp;done)|(simp [*];done),by repeat (first|exact Drawn0.refl _|apply Drawn0.step)⟩
     · rw [if_neg c4] at H;have c4b0:decide (a0<55296)=false:=decide_eq_false c4;clear c4;obtain rfl:=Option.some.inj H;go_enter Tryz.func98,Tryz.ntmps98;go_wp2;go_ret;exact ⟨by first|rfl|(simp;done)|(simp [*];done),by repeat (first|exact Drawn0.refl _|apply Drawn0.step)⟩
   · rw [if_neg c3] at H;have c3b0:decide (a0≤1114111)=false:=decide_eq_false c3;clear c3;obtain rfl:=Option.some.inj H;go_enter Tryz.func98,Tryz.ntmps98;go_wp2;go_ret;exact ⟨by first|rfl|(simp;done)|(simp [*];done),by repeat (first|exact Drawn0.refl _|apply Drawn0.step)⟩
 · rw [if_neg c2] at H;have c2b0:decide (0≤a0)=false:=decide_eq_false c2;clear c2;obtain rfl:=Option.some.inj H;go_enter Tryz.func98,Tryz.ntmps98;go_wp2;go_ret;exact ⟨by first|rfl|(simp;done)|(simp [*];done),by repeat (first|exact Drawn0.refl _|apply Drawn0.step)⟩
def mummerref02_one.l0:Nat→Int→ByteArray→Int→Option (Bool)
 |0,_,_,_=>none
 |k+1,x0,x1,x5=>if x5<(x1.size:Int) then (if 0≤x5 then (if (wrap32 (bt x1 x5))=x0 then (some true) else (mummerref02_one.l0 k x0 x1 (wrap64 (x5+1)))) else (none)) else (some false)
def mummerref02_one.f (k:Nat) (a0:Int) (a1:ByteArray):Option (Bool):=mummerref02_one.l0 k a0 a1 0
set_option maxHeartbeats 8000000 in
set_option maxRecDepth 100000 in
theorem mummerref02_one.calls (k:Nat) (a0:Int) (a1:ByteArray) (r:Bool) (w:World) (h:mummerref02_one.f k a0 a1=some r):
 Calls Tryz.prog 99 #[.int .i32 a0,.string a1] w fun e w'=>e= .returned (.bool r)∧Drawn0 w w':=by
 have H:(mummerref02_one.l0 k a0 a1 0)=some r:=h;clear h;have H':=Aside0.mk H;clear H;go_enter Tryz.func99,Tryz.ntmps99;go_wp2
 go_loopg [5] k (fun kq v5 w'=> ∃(x5_1:Int),v5= .int .i64 x5_1∧Aside0 (mummerref02_one.l0 kq a0 a1 x5_1=some r)∧Aside0 (kq≤k)∧Drawn0 w w')
 case atStart=>exact ⟨(0),(by first|rfl|(simp;done)|(simp [*];done)),H',⟨Nat.le_refl _⟩,by repeat (first|exact Drawn0.refl _|apply Drawn0.step)⟩
 case round=>
  clear H'
  try clear p2
  obtain ⟨x5_1,rfl,HA,HK1,⟨m1,rfl⟩⟩:=hrel
  cases gk with
  |zero=>exact absurd HA.out (by simp [mummerref02_one.l0])
  |succ k1=>
   have H:=HA.out;clear HA;simp only [mummerref02_one.l0] at H;by_cases c3:x5_1<(a1.size:Int)
   · rw [if_pos c3] at H;have c3b0:decide (x5_1<(a1.size:Int))=true:=decide_eq_true c3;clear c3;by_cases c4:0≤x5_1
     · rw [if_pos c4] at H;have c4b0:decide (0≤x5_1)=true:=decide_eq_true c4;clear c4;by_cases c6:(wrap32 (bt a1 x5_1))=a0
       · rw [if_pos c6] at H;have c6b0:((wrap32 (bt a1 x5_1))==a0)=true:=beq_iff_eq.mpr c6;have c6b1:((wrap32 (bt a1 x5_1)) != a0)=false:=bne_eq_false_iff_eq.mpr c6;clear c6;obtain rfl:=Option.some.inj H;have p5:0≤(x5_1:Int):=of_decide_eq_true (by first|(with_reducible assumption)|assumption);have q5:x5_1<(a1.size:Int):=of_decide_eq_true (by first|(with_reducible assumption)|assumption);have hx5:=bt_at a1 x5_1;replace p5:=eq_true p5;replace q5:=eq_true q5;go_wp2;go_ret;exact ⟨by first|rfl|(simp;done)|(simp [*];done),by repeat (first|exact Drawn0.refl _|apply Drawn0.step)⟩
       · rw [if_neg c6] at H;have c6b0:((wrap32 (bt a1 x5_1))==a0)=false:=beq_eq_false_iff_ne.mpr c6;have c6b1:((wrap32 (bt a1 x5_1)) != a0)=true:=bne_iff_ne.mpr c6;have H':=Aside0.mk H;clear H;have p5:0≤(x5_1:Int):=of_decide_eq_true (by first|(with_reducible assumption)|assumption);have q5:x5_1<(a1.size:Int):=of_decide_eq_true (by first|(with_reducible assumption)|assumption);have hx5:=bt_at a1 x5_1;replace p5:=eq_true p5;replace q5:=eq_true q5;go_wp2;go_roundg k1
         case measure=>have:=HK1.out;omega
         case rel=>exact ⟨(wrap64 (x5_1+1)),(by first|rfl|(simp;done)|(simp [*];done)),H',⟨by have:=HK1.out;omega⟩,by repeat (first|exact Drawn0.refl _|apply Drawn0.step)⟩
     · rw [if_neg c4] at H;exact absurd H (by simp)
   · rw [if_neg c3] at H;have c3b0:decide (x5_1<(a1.size:Int))=false:=decide_eq_false c3;clear c3;obtain rfl:=Option.some.inj H;go_wp2;go_ret;exact ⟨by first|rfl|(simp;done)|(simp [*];done),by repeat (first|exact Drawn0.refl _|apply Drawn0.step)⟩
end Go.Proofs.YtgmiekggdgmhkaaGreatDoor.R
end
section
namespace Go.Proofs.YtgmiekggdgmhkaaGreatDoor.R
open Go.RowKit Go.Proofs.YtgmiekggdgmhkaaGreatDoorW.PrintWords Go.Proofs.YtgmiekggdgmhkaaGreatDoorW.PrintLast Go.Proofs.YtgmiekggdgmhkaaGreatDoorW.PrintMore
attribute [local go_sem] max2_int min2_int max_two min_two max_three min_three max_four min_four
set_option linter.unusedVariables false
set_option linter.unusedSimpArgs false
mutual
def mummerref02_Class.j0:Nat→Int→Bool→Option (Int×Int)
 |0,_,_=>none
 |k+1,x0,x24=>if x24=true then (some (7,0)) else (if x0=43 then (mummerref02_Class.j1 k x0 true) else (mummerref02_Class.j1 k x0 (x0==45)))
def mummerref02_Class.j1:Nat→Int→Bool→Option (Int×Int)
 |0,_,_=>none
 |k+1,x0,x30=>if x30=true then (some (8,0)) else (if x0≥97 then (if x0≤122 then (some (9,0)) else (if x0≥65 then (if x0≤90 then (some (9,0)) else (if x0≥161 then (some (9,0)) else ((mummerref02_one.f k x0 (⟨#[33,36,37,38,42,47,58,60,61,62,63,94,95,126,46,64]⟩:ByteArray)).bind fun t133=>(if t133=true then (some (9,0)) else (some (10,0)))))) else (if x0≥161 then (some (9,0)) else ((mummerref02_one.f k x0 (⟨#[33,36,37,38,42,47,58,60,61,62,63,94,95,126,46,64]⟩:ByteArray)).bind fun t134=>(if t134=true then (some (9,0)) else (some (10,0))))))) else (if x0≥65 then (if x0≤90 then (some (9,0)) else (if x0≥161 then (some (9,0)) else ((mummerref02_one.f k x0 (⟨#[33,36,37,38,42,47,58,60,61,62,63,94,95,126,46,64]⟩:ByteArray)).bind fun t135=>(if t135=true then (some (9,0)) else (some (10,0)))))) else (if x0≥161 then (some (9,0)) else ((mummerref02_one.f k x0 (⟨#[33,36,37,38,42,47,58,60,61,62,63,94,95,126,46,64]⟩:ByteArray)).bind fun t136=>(if t136=true then (some (9,0)) else (some (10,0)))))))
end
def mummerref02_Class.f (k:Nat) (a0:Int):Option (Int×Int):=(mummerref02_Is.f a0).bind fun t129=>(if t129=true then ((mummerref02_one.f k a0 (⟨#[9,10,13,32]⟩:ByteArray)).bind fun t130=>(if t130=true then (some (1,0)) else ((mummerref02_one.f k a0 (⟨#[40,91]⟩:ByteArray)).bind fun t131=>(if t131=true then (some (2,0)) else ((mummerref02_one.f k a0 (⟨#[41,93]⟩:ByteArray)).bind fun t132=>(if t132=true then (some (3,0)) else (if a0=39 then (some (4,0)) else (if a0=35 then (some (5,0)) else (if a0=59 then (some (6,0)) else (if a0≥48 then (mummerref02_Class.j0 k a0 (decide (a0≤57))) else (mummerref02_Class.j0 k a0 false))))))))))) else (some (0,7)))
set_option maxHeartbeats 8000000 in
set_option maxRecDepth 100000 in
theorem mummerref02_Class.calls (k:Nat) (a0:Int) (r1:Int) (r2:Int) (w:World) (h:mummerref02_Class.f k a0=some (r1,r2)):
 Calls Tryz.prog 66 #[.int .i32 a0] w fun e w'=>e= .returned (.tuple #[.int .i64 r1,.int .i64 r2])∧Drawn0 w w':=by
 have H:((mummerref02_Is.f a0).bind fun t129=>(if t129=true then ((mummerref02_one.f k a0 (⟨#[9,10,13,32]⟩:ByteArray)).bind fun t130=>(if t130=true then (some (1,0)) else ((mummerref02_one.f k a0 (⟨#[40,91]⟩:ByteArray)).bind fun t131=>(if t131=true then (some (2,0)) else ((mummerref02_one.f k a0 (⟨#[41,93]⟩:ByteArray)).bind fun t132=>(if t132=true then (some (3,0)) else (if a0=39 then (some (4,0)) else (if a0=35 then (some (5,0)) else (if a0=59 then (some (6,0)) else (if a0≥48 then (mummerref02_Class.j0 k a0 (decide (a0≤57))) else (mummerref02_Class.j0 k a0 false))))))))))) else (some (0,7))))=some (r1,r2):=h;clear h;replace H:=Option.bind_eq_some_iff.mp H;obtain ⟨t129,A20,H⟩:=H;replace H:(if t129=true then ((mummerref02_one.f k a0 (⟨#[9,10,13,32]⟩:ByteArray)).bind fun t130=>(if t130=true then (some (1,0)) else ((mummerref02_one.f k a0 (⟨#[40,91]⟩:ByteArray)).bind fun t131=>(if t131=true then (some (2,0)) else ((mummerref02_one.f k a0 (⟨#[41,93]⟩:ByteArray)).bind fun t132=>(if t132=true then (some (3,0)) else (if a0=39 then (some (4,0)) else (if a0=35 then (some (5,0)) else (if a0=59 then (some (6,0)) else (if a0≥48 then (mummerref02_Class.j0 k a0 (decide (a0≤57))) else (mummerref02_Class.j0 k a0 false))))))))))) else (some (0,7)))=some (r1,r2):=H;have A2:=Aside0.mk A20;clear A20;by_cases c3:t129=true
 · subst c3
   have H1:((mummerref02_one.f k a0 (⟨#[9,10,13,32]⟩:ByteArray)).bind fun t130=>(if t130=true then (some (1,0)) else ((mummerref02_one.f k a0 (⟨#[40,91]⟩:ByteArray)).bind fun t131=>(if t131=true then (some (2,0)) else ((mummerref02_one.f k a0 (⟨#[41,93]⟩:ByteArray)).bind fun t132=>(if t132=true then (some (3,0)) else (if a0=39 then (some (4,0)) else (if a0=35 then (some (5,0)) else (if a0=59 then (some (6,0)) else (if a0≥48 then (mummerref02_Class.j0 k a0 (decide (a0≤57))) else (mummerref02_Class.j0 k a0 false)))))))))))=some (r1,r2):=by rw [if_pos rfl] at H;exact H
   clear H;have H:=H1;clear H1;replace H:=Option.bind_eq_some_iff.mp H;obtain ⟨t130,A40,H⟩:=H;replace H:(if t130=true then (some (1,0)) else ((mummerref02_one.f k a0 (⟨#[40,91]⟩:ByteArray)).bind fun t131=>(if t131=true then (some (2,0)) else ((mummerref02_one.f k a0 (⟨#[41,93]⟩:ByteArray)).bind fun t132=>(if t132=true then (some (3,0)) else (if a0=39 then (some (4,0)) else (if a0=35 then (some (5,0)) else (if a0=59 then (some (6,0)) else (if a0≥48 then (mummerref02_Class.j0 k a0 (decide (a0≤57))) else (mummerref02_Class.j0 k a0 false))))))))))=some (r1,r2):=H;have A4:=Aside0.mk A40;clear A40;by_cases c5:t130=true
   · subst c5
     have H1:(some (1,0))=some (r1,r2):=by rw [if_pos rfl] at H;exact H
     clear H;have H:=H1;clear H1;simp only [Option.some.injEq,Prod.mk.injEq] at H;obtain ⟨rfl,rfl⟩:=H;go_enter Tryz.func66,Tryz.ntmps66
     go_wp2_with (first|((with_reducible refine gate_callee (f:=98) rfl ?_);refine goesL_ (some 5) rfl rfl Tryz.func98 (by kernel_rfl) rfl #[.int .i32 a0] rfl (by (try simp only [List.map_toArray,List.map_cons,List.map_nil]);first|done|rfl|(simp only [List.length_drop,List.length_take];rfl)) ?_;(with_reducible refine (mummerref02_Is.calls a0 true _ A2.out).mono ?_);rintro e w' ⟨rfl,⟨nd,rfl⟩⟩;refine ⟨_,rfl,?_⟩)|((with_reducible refine gate_callee (f:=99) rfl ?_);refine goesL_ (some 8) rfl rfl Tryz.func99 (by kernel_rfl) rfl #[.int .i32 a0,.string (⟨#[9,10,13,32]⟩:ByteArray)] rfl (by (try simp only [List.map_toArray,List.map_cons,List.map_nil]);first|done|rfl|(simp only [List.length_drop,List.length_take];rfl)) ?_;(with_reducible refine (mummerref02_one.calls k a0 (⟨#[9,10,13,32]⟩:ByteArray) true _ A4.out).mono ?_);rintro e w' ⟨rfl,⟨nd,rfl⟩⟩;refine ⟨_,rfl,?_⟩))
     go_ret2;exact ⟨by first|rfl|(simp;done)|(simp [*];done),by repeat (first|exact Drawn0.refl _|apply Drawn0.step)⟩
   · replace c5:=Bool.eq_false_iff.mpr c5;subst c5
     have H1:((mummerref02_one.f k a0 (⟨#[40,91]⟩:ByteArray)).bind fun t131=>(if t131=true then (some (2,0)) else ((mummerref02_one.f k a0 (⟨#[41,93]⟩:ByteArray)).bind fun t132=>(if t132=true then (some (3,0)) else (if a0=39 then (some (4,0)) else (if a0=35 then (some (5,0)) else (if a0=59 then (some (6,0)) else (if a0≥48 then (mummerref02_Class.j0 k a0 (decide (a0≤57))) else (mummerref02_Class.j0 k a0 false)))))))))=some (r1,r2):=by rw [if_neg (show ¬(false=true) by decide)] at H;exact H
     clear H;have H:=H1;clear H1;replace H:=Option.bind_eq_some_iff.mp H;obtain ⟨t131,A60,H⟩:=H;replace H:(if t131=true then (some (2,0)) else ((mummerref02_one.f k a0 (⟨#[41,93]⟩:ByteArray)).bind fun t132=>(if t132=true then (some (3,0)) else (if a0=39 then (some (4,0)) else (if a0=35 then (some (5,0)) else (if a0=59 then (some (6,0)) else (if a0≥48 then (mummerref02_Class.j0 k a0 (decide (a0≤57))) else (mummerref02_Class.j0 k a0 false))))))))=some (r1,r2):=H;have A6:=Aside0.mk A60;clear A60;by_cases c7:t131=true
     · subst c7
       have H1:(some (2,0))=some (r1,r2):=by rw [if_pos rfl] at H;exact H
       clear H;have H:=H1;clear H1;simp only [Option.some.injEq,Prod.mk.injEq] at H;obtain ⟨rfl,rfl⟩:=H;go_enter Tryz.func66,Tryz.ntmps66
       go_wp2_with (first|((with_reducible refine gate_callee (f:=98) rfl ?_);refine goesL_ (some 5) rfl rfl Tryz.func98 (by kernel_rfl) rfl #[.int .i32 a0] rfl (by (try simp only [List.map_toArray,List.map_cons,List.map_nil]);first|done|rfl|(simp only [List.length_drop,List.length_take];rfl)) ?_;(with_reducible refine (mummerref02_Is.calls a0 true _ A2.out).mono ?_);rintro e w' ⟨rfl,⟨nd,rfl⟩⟩;refine ⟨_,rfl,?_⟩)|((with_reducible refine gate_callee (f:=99) rfl ?_);refine goesL_ (some 8) rfl rfl Tryz.func99 (by kernel_rfl) rfl #[.int .i32 a0,.string (⟨#[9,10,13,32]⟩:ByteArray)] rfl (by (try simp only [List.map_toArray,List.map_cons,List.map_nil]);first|done|rfl|(simp only [List.length_drop,List.length_take];rfl)) ?_;(with_reducible refine (mummerref02_one.calls k a0 (⟨#[9,10,13,32]⟩:ByteArray) false _ A4.out).mono ?_);rintro e w' ⟨rfl,⟨nd,rfl⟩⟩;refine ⟨_,rfl,?_⟩)|((with_reducible refine gate_callee (f:=99) rfl ?_);refine goesL_ (some 10) rfl rfl Tryz.func99 (by kernel_rfl) rfl #[.int .i32 a0,.string (⟨#[40,91]⟩:ByteArray)] rfl (by (try simp only [List.map_toArray,List.map_cons,List.map_nil]);first|done|rfl|(simp only [List.length_drop,List.length_take];rfl)) ?_;(with_reducible refine (mummerref02_one.calls k a0 (⟨#[40,91]⟩:ByteArray) true _ A6.out).mono ?_);rintro e w' ⟨rfl,⟨nd,rfl⟩⟩;refine ⟨_,rfl,?_⟩))
       go_ret2;exact ⟨by first|rfl|(simp;done)|(simp [*];done),by repeat (first|exact Drawn0.refl _|apply Drawn0.step)⟩
     · replace c7:=Bool.eq_false_iff.mpr c7;subst c7
       have H1:((mummerref02_one.f k a0 (⟨#[41,93]⟩:ByteArray)).bind fun t132=>(if t132=true then (some (3,0)) else (if a0=39 then (some (4,0)) else (if a0=35 then (some (5,0)) else (if a0=59 then (some (6,0)) else (if a0≥48 then (mummerref02_Class.j0 k a0 (decide (a0≤57))) else (mummerref02_Class.j0 k a0 false)))))))=some (r1,r2):=by rw [if_neg (show ¬(false=true) by decide)] at H;exact H
       clear H;have H:=H1;clear H1;replace H:=Option.bind_eq_some_iff.mp H;obtain ⟨t132,A80,H⟩:=H;replace H:(if t132=true then (some (3,0)) else (if a0=39 then (some (4,0)) else (if a0=35 then (some (5,0)) else (if a0=59 then (some (6,0)) else (if a0≥48 then (mummerref02_Class.j0 k a0 (decide (a0≤57))) else (mummerref02_Class.j0 k a0 false))))))=some (r1,r2):=H;have A8:=Aside0.mk A80;clear A80;by_cases c9:t132=true
       · subst c9
         have H1:(some (3,0))=some (r1,r2):=by rw [if_pos rfl] at H;exact H
         clear H;have H:=H1;clear H1;simp only [Option.some.injEq,Prod.mk.injEq] at H;obtain ⟨rfl,rfl⟩:=H;go_enter Tryz.func66,Tryz.ntmps66
         go_wp2_with (first|((with_reducible refine gate_callee (f:=98) rfl ?_);refine goesL_ (some 5) rfl rfl Tryz.func98 (by kernel_rfl) rfl #[.int .i32 a0] rfl (by (try simp only [List.map_toArray,List.map_cons,List.map_nil]);first|done|rfl|(simp only [List.length_drop,List.length_take];rfl)) ?_;(with_reducible refine (mummerref02_Is.calls a0 true _ A2.out).mono ?_);rintro e w' ⟨rfl,⟨nd,rfl⟩⟩;refine ⟨_,rfl,?_⟩)|((with_reducible refine gate_callee (f:=99) rfl ?_);refine goesL_ (some 8) rfl rfl Tryz.func99 (by kernel_rfl) rfl #[.int .i32 a0,.string (⟨#[9,10,13,32]⟩:ByteArray)] rfl (by (try simp only [List.map_toArray,List.map_cons,List.map_nil]);first|done|rfl|(simp only [List.length_drop,List.length_take];rfl)) ?_;(with_reducible refine (mummerref02_one.calls k a0 (⟨#[9,10,13,32]⟩:ByteArray) false _ A4.out).mono ?_);rintro e w' ⟨rfl,⟨nd,rfl⟩⟩;refine ⟨_,rfl,?_⟩)|((with_reducible refine gate_callee (f:=99) rfl ?_);refine goesL_ (some 10) rfl rfl Tryz.func99 (by kernel_rfl) rfl #[.int .i32 a0,.string (⟨#[40,91]⟩:ByteArray)] rfl (by (try simp only [List.map_toArray,List.map_cons,List.map_nil]);first|done|rfl|(simp only [List.length_drop,List.length_take];rfl)) ?_;(with_reducible refine (mummerref02_one.calls k a0 (⟨#[40,91]⟩:ByteArray) false _ A6.out).mono ?_);rintro e w' ⟨rfl,⟨nd,rfl⟩⟩;refine ⟨_,rfl,?_⟩)|((with_reducible refine gate_callee (f:=99) rfl ?_);refine goesL_ (some 12) rfl rfl Tryz.func99 (by kernel_rfl) rfl #[.int .i32 a0,.string (⟨#[41,93]⟩:ByteArray)] rfl (by (try simp only [List.map_toArray,List.map_cons,List.map_nil]);first|done|rfl|(simp only [List.length_drop,List.length_take];rfl)) ?_;(with_reducible refine (mummerref02_one.calls k a0 (⟨#[41,93]⟩:ByteArray) true _ A8.out).mono ?_);rintro e w' ⟨rfl,⟨nd,rfl⟩⟩;refine ⟨_,rfl,?_⟩))
         go_ret2;exact ⟨by first|rfl|(simp;done)|(simp [*];done),by repeat (first|exact Drawn0.refl _|apply Drawn0.step)⟩
       · replace c9:=Bool.eq_false_iff.mpr c9;subst c9
         have H1:(if a0=39 then (some (4,0)) else (if a0=35 then (some (5,0)) else (if a0=59 then (some (6,0)) else (if a0≥48 then (mummerref02_Class.j0 k a0 (decide (a0≤57))) else (mummerref02_Class.j0 k a0 false)))))=some (r1,r2):=by rw [if_neg (show ¬(false=true) by decide)] at H;exact H
         clear H;have H:=H1;clear H1;by_cases c10:a0=39
         · rw [if_pos c10] at H;have c10b0:(a0==39)=true:=beq_iff_eq.mpr c10;have c10b1:(a0 != 39)=false:=bne_eq_false_iff_eq.mpr c10;clear c10;simp only [Option.some.injEq,Prod.mk.injEq] at H;obtain ⟨rfl,rfl⟩:=H;go_enter Tryz.func66,Tryz.ntmps66
           go_wp2_with (first|((with_reducible refine gate_callee (f:=98) rfl ?_);refine goesL_ (some 5) rfl rfl Tryz.func98 (by kernel_rfl) rfl #[.int .i32 a0] rfl (by (try simp only [List.map_toArray,List.map_cons,List.map_nil]);first|done|rfl|(simp only [List.length_drop,List.length_take];rfl)) ?_;(with_reducible refine (mummerref02_Is.calls a0 true _ A2.out).mono ?_);rintro e w' ⟨rfl,⟨nd,rfl⟩⟩;refine ⟨_,rfl,?_⟩)|((with_reducible refine gate_callee (f:=99) rfl ?_);refine goesL_ (some 8) rfl rfl Tryz.func99 (by kernel_rfl) rfl #[.int .i32 a0,.string (⟨#[9,10,13,32]⟩:ByteArray)] rfl (by (try simp only [List.map_toArray,List.map_cons,List.map_nil]);first|done|rfl|(simp only [List.length_drop,List.length_take];rfl)) ?_;(with_reducible refine (mummerref02_one.calls k a0 (⟨#[9,10,13,32]⟩:ByteArray) false _ A4.out).mono ?_);rintro e w' ⟨rfl,⟨nd,rfl⟩⟩;refine ⟨_,rfl,?_⟩)|((with_reducible refine gate_callee (f:=99) rfl ?_);refine goesL_ (some 10) rfl rfl Tryz.func99 (by kernel_rfl) rfl #[.int .i32 a0,.string (⟨#[40,91]⟩:ByteArray)] rfl (by (try simp only [List.map_toArray,List.map_cons,List.map_nil]);first|done|rfl|(simp only [List.length_drop,List.length_take];rfl)) ?_;(with_reducible refine (mummerref02_one.calls k a0 (⟨#[40,91]⟩:ByteArray) false _ A6.out).mono ?_);rintro e w' ⟨rfl,⟨nd,rfl⟩⟩;refine ⟨_,rfl,?_⟩)|((with_reducible refine gate_callee (f:=99) rfl ?_);refine goesL_ (some 12) rfl rfl Tryz.func99 (by kernel_rfl) rfl #[.int .i32 a0,.string (⟨#[41,93]⟩:ByteArray)] rfl (by (try simp only [List.map_toArray,List.map_cons,List.map_nil]);first|done|rfl|(simp only [List.length_drop,List.length_take];rfl)) ?_;(with_reducible refine (mummerref02_one.calls k a0 (⟨#[41,93]⟩:ByteArray) false _ A8.out).mono ?_);rintro e w' ⟨rfl,⟨nd,rfl⟩⟩;refine ⟨_,rfl,?_⟩))
           go_ret2;exact ⟨by first|rfl|(simp;done)|(simp [*];done),by repeat (first|exact Drawn0.refl _|apply Drawn0.step)⟩
         · rw [if_neg c10] at H;have c10b0:(a0==39)=false:=beq_eq_false_iff_ne.mpr c10;have c10b1:(a0 != 39)=true:=bne_iff_ne.mpr c10;by_cases c11:a0=35
           · rw [if_pos c11] at H;have c11b0:(a0==35)=true:=beq_iff_eq.mpr c11;have c11b1:(a0 != 35)=false:=bne_eq_false_iff_eq.mpr c11;clear c11;simp only [Option.some.injEq,Prod.mk.injEq] at H;obtain ⟨rfl,rfl⟩:=H;go_enter Tryz.func66,Tryz.ntmps66
             go_wp2_with (first|((with_reducible refine gate_callee (f:=98) rfl ?_);refine goesL_ (some 5) rfl rfl Tryz.func98 (by kernel_rfl) rfl #[.int .i32 a0] rfl (by (try simp only [List.map_toArray,List.map_cons,List.map_nil]);first|done|rfl|(simp only [List.length_drop,List.length_take];rfl)) ?_;(with_reducible refine (mummerref02_Is.calls a0 true _ A2.out).mono ?_);rintro e w' ⟨rfl,⟨nd,rfl⟩⟩;refine ⟨_,rfl,?_⟩)|((with_reducible refine gate_callee (f:=99) rfl ?_);refine goesL_ (some 8) rfl rfl Tryz.func99 (by kernel_rfl) rfl #[.int .i32 a0,.string (⟨#[9,10,13,32]⟩:ByteArray)] rfl (by (try simp only [List.map_toArray,List.map_cons,List.map_nil]);first|done|rfl|(simp only [List.length_drop,List.length_take];rfl)) ?_;(with_reducible refine (mummerref02_one.calls k a0 (⟨#[9,10,13,32]⟩:ByteArray) false _ A4.out).mono ?_);rintro e w' ⟨rfl,⟨nd,rfl⟩⟩;refine ⟨_,rfl,?_⟩)|((with_reducible refine gate_callee (f:=99) rfl ?_);refine goesL_ (some 10) rfl rfl Tryz.func99 (by kernel_rfl) rfl #[.int .i32 a0,.string (⟨#[40,91]⟩:ByteArray)] rfl (by (try simp only [List.map_toArray,List.map_cons,List.map_nil]);first|done|rfl|(simp only [List.length_drop,List.length_take];rfl)) ?_;(with_reducible refine (mummerref02_one.calls k a0 (⟨#[40,91]⟩:ByteArray) false _ A6.out).mono ?_);rintro e w' ⟨rfl,⟨nd,rfl⟩⟩;refine ⟨_,rfl,?_⟩)|((with_reducible refine gate_callee (f:=99) rfl ?_);refine goesL_ (some 12) rfl rfl Tryz.func99 (by kernel_rfl) rfl #[.int .i32 a0,.string (⟨#[41,93]⟩:ByteArray)] rfl (by (try simp only [List.map_toArray,List.map_cons,List.map_nil]);first|done|rfl|(simp only [List.length_drop,List.length_take];rfl)) ?_;(with_reducible refine (mummerref02_one.calls k a0 (⟨#[41,93]⟩:ByteArray) false _ A8.out).mono ?_);rintro e w' ⟨rfl,⟨nd,rfl⟩⟩;refine ⟨_,rfl,?_⟩))
             go_ret2;exact ⟨by first|rfl|(simp;done)|(simp [*];done),by repeat (first|exact Drawn0.refl _|apply Drawn0.step)⟩
           · rw [if_neg c11] at H;have c11b0:(a0==35)=false:=beq_eq_false_iff_ne.mpr c11;have c11b1:(a0 != 35)=true:=bne_iff_ne.mpr c11;by_cases c12:a0=59
             · rw [if_pos c12] at H;have c12b0:(a0==59)=true:=beq_iff_eq.mpr c12;have c12b1:(a0 != 59)=false:=bne_eq_false_iff_eq.mpr c12;clear c12;simp only [Option.some.injEq,Prod.mk.injEq] at H;obtain ⟨rfl,rfl⟩:=H;go_enter Tryz.func66,Tryz.ntmps66
               go_wp2_with (first|((with_reducible refine gate_callee (f:=98) rfl ?_);refine goesL_ (some 5) rfl rfl Tryz.func98 (by kernel_rfl) rfl #[.int .i32 a0] rfl (by (try simp only [List.map_toArray,List.map_cons,List.map_nil]);first|done|rfl|(simp only [List.length_drop,List.length_take];rfl)) ?_;(with_reducible refine (mummerref02_Is.calls a0 true _ A2.out).mono ?_);rintro e w' ⟨rfl,⟨nd,rfl⟩⟩;refine ⟨_,rfl,?_⟩)|((with_reducible refine gate_callee (f:=99) rfl ?_);refine goesL_ (some 8) rfl rfl Tryz.func99 (by kernel_rfl) rfl #[.int .i32 a0,.string (⟨#[9,10,13,32]⟩:ByteArray)] rfl (by (try simp only [List.map_toArray,List.map_cons,List.map_nil]);first|done|rfl|(simp only [List.length_drop,List.length_take];rfl)) ?_;(with_reducible refine (mummerref02_one.calls k a0 (⟨#[9,10,13,32]⟩:ByteArray) false _ A4.out).mono ?_);rintro e w' ⟨rfl,⟨nd,rfl⟩⟩;refine ⟨_,rfl,?_⟩)|((with_reducible refine gate_callee (f:=99) rfl ?_);refine goesL_ (some 10) rfl rfl Tryz.func99 (by kernel_rfl) rfl #[.int .i32 a0,.string (⟨#[40,91]⟩:ByteArray)] rfl (by (try simp only [List.map_toArray,List.map_cons,List.map_nil]);first|done|rfl|(simp only [List.length_drop,List.length_take];rfl)) ?_;(with_reducible refine (mummerref02_one.calls k a0 (⟨#[40,91]⟩:ByteArray) false _ A6.out).mono ?_);rintro e w' ⟨rfl,⟨nd,rfl⟩⟩;refine ⟨_,rfl,?_⟩)|((with_reducible refine gate_callee (f:=99) rfl ?_);refine goesL_ (some 12) rfl rfl Tryz.func99 (by kernel_rfl) rfl #[.int .i32 a0,.string (⟨#[41,93]⟩:ByteArray)] rfl (by (try simp only [List.map_toArray,List.map_cons,List.map_nil]);first|done|rfl|(simp only [List.length_drop,List.length_take];rfl)) ?_;(with_reducible refine (mummerref02_one.calls k a0 (⟨#[41,93]⟩:ByteArray) false _ A8.out).mono ?_);rintro e w' ⟨rfl,⟨nd,rfl⟩⟩;refine ⟨_,rfl,?_⟩))
               go_ret2;exact ⟨by first|rfl|(simp;done)|(simp [*];done),by repeat (first|exact Drawn0.refl _|apply Drawn0.step)⟩
             · rw [if_neg c12] at H;have c12b0:(a0==59)=false:=beq_eq_false_iff_ne.mpr c12;have c12b1:(a0 != 59)=true:=bne_iff_ne.mpr c12;have HC13:=Aside0.mk H;clear H;go_enter Tryz.func66,Tryz.ntmps66
               go_upto_region 15 with (first|((with_reducible refine gate_callee (f:=98) rfl ?_);refine goesL_ (some 5) rfl rfl Tryz.func98 (by kernel_rfl) rfl #[.int .i32 a0] rfl (by (try simp only [List.map_toArray,List.map_cons,List.map_nil]);first|done|rfl|(simp only [List.length_drop,List.length_take];rfl)) ?_;(with_reducible refine (mummerref02_Is.calls a0 true _ A2.out).mono ?_);rintro e w' ⟨rfl,⟨nd,rfl⟩⟩;refine ⟨_,rfl,?_⟩)|((with_reducible refine gate_callee (f:=99) rfl ?_);refine goesL_ (some 8) rfl rfl Tryz.func99 (by kernel_rfl) rfl #[.int .i32 a0,.string (⟨#[9,10,13,32]⟩:ByteArray)] rfl (by (try simp only [List.map_toArray,List.map_cons,List.map_nil]);first|done|rfl|(simp only [List.length_drop,List.length_take];rfl)) ?_;(with_reducible refine (mummerref02_one.calls k a0 (⟨#[9,10,13,32]⟩:ByteArray) false _ A4.out).mono ?_);rintro e w' ⟨rfl,⟨nd,rfl⟩⟩;refine ⟨_,rfl,?_⟩)|((with_reducible refine gate_callee (f:=99) rfl ?_);refine goesL_ (some 10) rfl rfl Tryz.func99 (by kernel_rfl) rfl #[.int .i32 a0,.string (⟨#[40,91]⟩:ByteArray)] rfl (by (try simp only [List.map_toArray,List.map_cons,List.map_nil]);first|done|rfl|(simp only [List.length_drop,List.length_take];rfl)) ?_;(with_reducible refine (mummerref02_one.calls k a0 (⟨#[40,91]⟩:ByteArray) false _ A6.out).mono ?_);rintro e w' ⟨rfl,⟨nd,rfl⟩⟩;refine ⟨_,rfl,?_⟩)|((with_reducible refine gate_callee (f:=99) rfl ?_);refine goesL_ (some 12) rfl rfl Tryz.func99 (by kernel_rfl) rfl #[.int .i32 a0,.string (⟨#[41,93]⟩:ByteArray)] rfl (by (try simp only [List.map_toArray,List.map_cons,List.map_nil]);first|done|rfl|(simp only [List.length_drop,List.length_take];rfl)) ?_;(with_reducible refine (mummerref02_one.calls k a0 (⟨#[41,93]⟩:ByteArray) false _ A8.out).mono ?_);rintro e w' ⟨rfl,⟨nd,rfl⟩⟩;refine ⟨_,rfl,?_⟩))
               (try simp only [Act.put,List.setIfInBounds_toArray,List.set_cons_zero,List.set_cons_succ])
               go_cut [24] (fun v24 wc=> ∃(kq:Nat) (x24_12:Bool),v24= .bool x24_12∧Aside0 (mummerref02_Class.j0 kq a0 x24_12=some (r1,r2))∧Aside0 (kq≤k)∧Drawn0 w wc)
               case first=>
                 have H:=HC13.out;clear HC13;by_cases c14:a0≥48
                 · rw [if_pos c14] at H;have c14b0:decide (48≤a0)=true:=decide_eq_true c14;clear c14
                   (first|rw [c14b0]|(simp only [i64_w,i32_w];rw [c14b0])|skip)
                   have H':=Aside0.mk H;clear H;go_wp2
                   go_meet
                   case rel=>exact ⟨_,(decide (a0≤57)),(by first|rfl|(simp;done)|(simp [*];done)),H',⟨by first|omega|exact Nat.le_refl _⟩,by repeat (first|exact Drawn0.refl _|apply Drawn0.step)⟩
                 · rw [if_neg c14] at H;have c14b0:decide (48≤a0)=false:=decide_eq_false c14;clear c14
                   (first|rw [c14b0]|(simp only [i64_w,i32_w];rw [c14b0])|skip)
                   have H':=Aside0.mk H;clear H;go_wp2
                   go_meet
                   case rel=>exact ⟨_,(false),(by first|rfl|(simp;done)|(simp [*];done)),H',⟨by first|omega|exact Nat.le_refl _⟩,by repeat (first|exact Drawn0.refl _|apply Drawn0.step)⟩
               case rest=>
                 clear HC13
                 try clear c1
                 try clear p2
                 try clear c3
                 try clear c5
                 try clear c6
                 try clear c7
                 try clear c9
                 try clear c10
                 try clear c10b0
                 try clear c10b1
                 try clear c11
                 try clear c11b0
                 try clear c11b1
                 try clear c12
                 try clear c12b0
                 try clear c12b1
                 try clear c14
                 try clear c14b0
                 obtain ⟨kq,x24_12,rfl,HA,HJ12,⟨mc12,rfl⟩⟩:=hcut
                 cases kq with
                 |zero=>exact absurd HA.out (by simp [mummerref02_Class.j0])
                 |succ kj12=>
                  have H:=HA.out;clear HA;simp only [mummerref02_Class.j0] at H;by_cases c15:x24_12=true
                  · subst c15
                    have H1:(some (7,0))=some (r1,r2):=by rw [if_pos rfl] at H;exact H
                    clear H;have H:=H1;clear H1;simp only [Option.some.injEq,Prod.mk.injEq] at H;obtain ⟨rfl,rfl⟩:=H;go_wp2;go_ret2;exact ⟨by first|rfl|(simp;done)|(simp [*];done),by repeat (first|exact Drawn0.refl _|apply Drawn0.step)⟩
                  · replace c15:=Bool.eq_false_iff.mpr c15;subst c15
                    have H1:(if a0=43 then (mummerref02_Class.j1 kj12 a0 true) else (mummerref02_Class.j1 kj12 a0 (a0==45)))=some (r1,r2):=by rw [if_neg (show ¬(false=true) by decide)] at H;exact H
                    clear H;have H:=H1;clear H1;have HC16:=Aside0.mk H;clear H
                    go_upto_region 17 with (fail)
                    go_cut [30] (fun v30 wc=> ∃(kq:Nat) (x30_15:Bool),v30= .bool x30_15∧Aside0 (mummerref02_Class.j1 kq a0 x30_15=some (r1,r2))∧Aside0 (kq≤kj12)∧Drawn0 w wc)
                    case first=>
                     have H:=HC16.out;clear HC16;by_cases c17:a0=43
                     · rw [if_pos c17] at H;have c17b0:(a0==43)=true:=beq_iff_eq.mpr c17;have c17b1:(a0 != 43)=false:=bne_eq_false_iff_eq.mpr c17;clear c17
                       (first|rw [c17b0]|(simp only [i64_w,i32_w];rw [c17b0])|skip)
                       have H':=Aside0.mk H;clear H;go_wp2
                       go_meet
                       case rel=>exact ⟨_,(true),(by first|rfl|(simp;done)|(simp [*];done)),H',⟨by have:=HJ12.out;first|omega|exact Nat.le_refl _⟩,by repeat (first|exact Drawn0.refl _|apply Drawn0.step)⟩
                     · rw [if_neg c17] at H;have c17b0:(a0==43)=false:=beq_eq_false_iff_ne.mpr c17;have c17b1:(a0 != 43)=true:=bne_iff_ne.mpr c17
                       (first|rw [c17b0]|(simp only [i64_w,i32_w];rw [c17b0])|skip)
                       have H':=Aside0.mk H;clear H;go_wp2
                       go_meet
                       case rel=>exact ⟨_,((a0==45)),(by first|rfl|(simp;done)|(simp [*];done)),H',⟨by have:=HJ12.out;first|omega|exact Nat.le_refl _⟩,by repeat (first|exact Drawn0.refl _|apply Drawn0.step)⟩
                    case rest=>
                     clear HC16
                     try clear c1
                     try clear p2
                     try clear c3
                     try clear c5
                     try clear c6
                     try clear c7
                     try clear c9
                     try clear c10
                     try clear c10b0
                     try clear c10b1
                     try clear c11
                     try clear c11b0
                     try clear c11b1
                     try clear c12
                     try clear c12b0
                     try clear c12b1
                     try clear c14
                     try clear c14b0
                     try clear c15
                     try clear c17
                     try clear c17b0
                     try clear c17b1
                     try clear p2
                     obtain ⟨kq,x30_15,rfl,HA,HJ15,⟨mc15,rfl⟩⟩:=hcut
                     cases kq with
                     |zero=>exact absurd HA.out (by simp [mummerref02_Class.j1])
                     |succ kj15=>
                      have H:=HA.out;clear HA;simp only [mummerref02_Class.j1] at H;by_cases c18:x30_15=true
                      · subst c18
                        have H1:(some (8,0))=some (r1,r2):=by rw [if_pos rfl] at H;exact H
                        clear H;have H:=H1;clear H1;simp only [Option.some.injEq,Prod.mk.injEq] at H;obtain ⟨rfl,rfl⟩:=H;go_wp2;go_ret2;exact ⟨by first|rfl|(simp;done)|(simp [*];done),by repeat (first|exact Drawn0.refl _|apply Drawn0.step)⟩
                      · replace c18:=Bool.eq_false_iff.mpr c18;subst c18
                        have H1:(if a0≥97 then (if a0≤122 then (some (9,0)) else (if a0≥65 then (if a0≤90 then (some (9,0)) else (if a0≥161 then (some (9,0)) else ((mummerref02_one.f kj15 a0 (⟨#[33,36,37,38,42,47,58,60,61,62,63,94,95,126,46,64]⟩:ByteArray)).bind fun t133=>(if t133=true then (some (9,0)) else (some (10,0)))))) else (if a0≥161 then (some (9,0)) else ((mummerref02_one.f kj15 a0 (⟨#[33,36,37,38,42,47,58,60,61,62,63,94,95,126,46,64]⟩:ByteArray)).bind fun t134=>(if t134=true then (some (9,0)) else (some (10,0))))))) else (if a0≥65 then (if a0≤90 then (some (9,0)) else (if a0≥161 then (some (9,0)) else ((mummerref02_one.f kj15 a0 (⟨#[33,36,37,38,42,47,58,60,61,62,63,94,95,126,46,64]⟩:ByteArray)).bind fun t135=>(if t135=true then (some (9,0)) else (some (10,0)))))) else (if a0≥161 then (some (9,0)) else ((mummerref02_one.f kj15 a0 (⟨#[33,36,37,38,42,47,58,60,61,62,63,94,95,126,46,64]⟩:ByteArray)).bind fun t136=>(if t136=true then (some (9,0)) else (some (10,0)))))))=some (r1,r2):=by rw [if_neg (show ¬(false=true) by decide)] at H;exact H
                        clear H;have H:=H1;clear H1;by_cases c19:a0≥97
                        · rw [if_pos c19] at H;have c19b0:decide (97≤a0)=true:=decide_eq_true c19;clear c19;by_cases c20:a0≤122
                          · rw [if_pos c20] at H;have c20b0:decide (a0≤122)=true:=decide_eq_true c20;clear c20;simp only [Option.some.injEq,Prod.mk.injEq] at H;obtain ⟨rfl,rfl⟩:=H;go_wp2;go_ret2;exact ⟨by first|rfl|(simp;done)|(simp [*];done),by repeat (first|exact Drawn0.refl _|apply Drawn0.step)⟩
                          · rw [if_neg c20] at H;have c20b0:decide (a0≤122)=false:=decide_eq_false c20;clear c20;by_cases c21:a0≥65
                            · rw [if_pos c21] at H;have c21b0:decide (65≤a0)=true:=decide_eq_true c21;clear c21;by_cases c22:a0≤90
                              · rw [if_pos c22] at H;have c22b0:decide (a0≤90)=true:=decide_eq_true c22;clear c22;simp only [Option.some.injEq,Prod.mk.injEq] at H;obtain ⟨rfl,rfl⟩:=H;go_wp2;go_ret2;exact ⟨by first|rfl|(simp;done)|(simp [*];done),by repeat (first|exact Drawn0.refl _|apply Drawn0.step)⟩
                              · rw [if_neg c22] at H;have c22b0:decide (a0≤90)=false:=decide_eq_false c22;clear c22;by_cases c23:a0≥161
                                · rw [if_pos c23] at H;have c23b0:decide (161≤a0)=true:=decide_eq_true c23;clear c23;simp only [Option.some.injEq,Prod.mk.injEq] at H;obtain ⟨rfl,rfl⟩:=H;go_wp2;go_ret2;exact ⟨by first|rfl|(simp;done)|(simp [*];done),by repeat (first|exact Drawn0.refl _|apply Drawn0.step)⟩
                                · rw [if_neg c23] at H;have c23b0:decide (161≤a0)=false:=decide_eq_false c23;clear c23;replace H:=Option.bind_eq_some_iff.mp H;obtain ⟨t133,A240,H⟩:=H;replace H:(if t133=true then (some (9,0)) else (some (10,0)))=some (r1,r2):=H;have A24:=Aside0.mk A240;clear A240;by_cases c25:t133=true
                                  · subst c25
                                    have H1:(some (9,0))=some (r1,r2):=by rw [if_pos rfl] at H;exact H
                                    clear H;have H:=H1;clear H1;simp only [Option.some.injEq,Prod.mk.injEq] at H;obtain ⟨rfl,rfl⟩:=H
                                    go_wp2_with (first|(go_at_call 99;(with_reducible refine (mummerref02_one.calls kj15 a0 (⟨#[33,36,37,38,42,47,58,60,61,62,63,94,95,126,46,64]⟩:ByteArray) true _ A24.out).mono ?_);rintro e w' ⟨rfl,⟨nd,rfl⟩⟩))
                                    go_ret2;exact ⟨by first|rfl|(simp;done)|(simp [*];done),by repeat (first|exact Drawn0.refl _|apply Drawn0.step)⟩
                                  · replace c25:=Bool.eq_false_iff.mpr c25;subst c25
                                    have H1:(some (10,0))=some (r1,r2):=by rw [if_neg (show ¬(false=true) by decide)] at H;exact H
                                    clear H;have H:=H1;clear H1;simp only [Option.some.injEq,Prod.mk.injEq] at H;obtain ⟨rfl,rfl⟩:=H
                                    go_wp2_with (first|(go_at_call 99;(with_reducible refine (mummerref02_one.calls kj15 a0 (⟨#[33,36,37,38,42,47,58,60,61,62,63,94,95,126,46,64]⟩:ByteArray) false _ A24.out).mono ?_);rintro e w' ⟨rfl,⟨nd,rfl⟩⟩))
                                    go_ret2;exact ⟨by first|rfl|(simp;done)|(simp [*];done),by repeat (first|exact Drawn0.refl _|apply Drawn0.step)⟩
                            · rw [if_neg c21] at H;have c21b0:decide (65≤a0)=false:=decide_eq_false c21;clear c21;by_cases c26:a0≥161
                              · rw [if_pos c26] at H;have c26b0:decide (161≤a0)=true:=decide_eq_true c26;clear c26;simp only [Option.some.injEq,Prod.mk.injEq] at H;obtain ⟨rfl,rfl⟩:=H;go_wp2;go_ret2;exact ⟨by first|rfl|(simp;done)|(simp [*];done),by repeat (first|exact Drawn0.refl _|apply Drawn0.step)⟩
                              · rw [if_neg c26] at H;have c26b0:decide (161≤a0)=false:=decide_eq_false c26;clear c26;replace H:=Option.bind_eq_some_iff.mp H;obtain ⟨t134,A270,H⟩:=H;replace H:(if t134=true then (some (9,0)) else (some (10,0)))=some (r1,r2):=H;have A27:=Aside0.mk A270;clear A270;by_cases c28:t134=true
                                · subst c28
                                  have H1:(some (9,0))=some (r1,r2):=by rw [if_pos rfl] at H;exact H
                                  clear H;have H:=H1;clear H1;simp only [Option.some.injEq,Prod.mk.injEq] at H;obtain ⟨rfl,rfl⟩:=H
                                  go_wp2_with (first|(go_at_call 99;(with_reducible refine (mummerref02_one.calls kj15 a0 (⟨#[33,36,37,38,42,47,58,60,61,62,63,94,95,126,46,64]⟩:ByteArray) true _ A27.out).mono ?_);rintro e w' ⟨rfl,⟨nd,rfl⟩⟩))
                                  go_ret2;exact ⟨by first|rfl|(simp;done)|(simp [*];done),by repeat (first|exact Drawn0.refl _|apply Drawn0.step)⟩
                                · replace c28:=Bool.eq_false_iff.mpr c28;subst c28
                                  have H1:(some (10,0))=some (r1,r2):=by rw [if_neg (show ¬(false=true) by decide)] at H;exact H
                                  clear H;have H:=H1;clear H1;simp only [Option.some.injEq,Prod.mk.injEq] at H;obtain ⟨rfl,rfl⟩:=H
                                  go_wp2_with (first|(go_at_call 99;(with_reducible refine (mummerref02_one.calls kj15 a0 (⟨#[33,36,37,38,42,47,58,60,61,62,63,94,95,126,46,64]⟩:ByteArray) false _ A27.out).mono ?_);rintro e w' ⟨rfl,⟨nd,rfl⟩⟩))
                                  go_ret2;exact ⟨by first|rfl|(simp;done)|(simp [*];done),by repeat (first|exact Drawn0.refl _|apply Drawn0.step)⟩
                        · rw [if_neg c19] at H;have c19b0:decide (97≤a0)=false:=decide_eq_false c19;clear c19;by_cases c29:a0≥65
                          · rw [if_pos c29] at H;have c29b0:decide (65≤a0)=true:=decide_eq_true c29;clear c29;by_cases c30:a0≤90
                            · rw [if_pos c30] at H;have c30b0:decide (a0≤90)=true:=decide_eq_true c30;clear c30;simp only [Option.some.injEq,Prod.mk.injEq] at H;obtain ⟨rfl,rfl⟩:=H;go_wp2;go_ret2;exact ⟨by first|rfl|(simp;done)|(simp [*];done),by repeat (first|exact Drawn0.refl _|apply Drawn0.step)⟩
                            · rw [if_neg c30] at H;have c30b0:decide (a0≤90)=false:=decide_eq_false c30;clear c30;by_cases c31:a0≥161
                              · rw [if_pos c31] at H;have c31b0:decide (161≤a0)=true:=decide_eq_true c31;clear c31;simp only [Option.some.injEq,Prod.mk.injEq] at H;obtain ⟨rfl,rfl⟩:=H;go_wp2;go_ret2;exact ⟨by first|rfl|(simp;done)|(simp [*];done),by repeat (first|exact Drawn0.refl _|apply Drawn0.step)⟩
                              · rw [if_neg c31] at H;have c31b0:decide (161≤a0)=false:=decide_eq_false c31;clear c31;replace H:=Option.bind_eq_some_iff.mp H;obtain ⟨t135,A320,H⟩:=H;replace H:(if t135=true then (some (9,0)) else (some (10,0)))=some (r1,r2):=H;have A32:=Aside0.mk A320;clear A320;by_cases c33:t135=true
                                · subst c33
                                  have H1:(some (9,0))=some (r1,r2):=by rw [if_pos rfl] at H;exact H
                                  clear H;have H:=H1;clear H1;simp only [Option.some.injEq,Prod.mk.injEq] at H;obtain ⟨rfl,rfl⟩:=H
                                  go_wp2_with (first|(go_at_call 99;(with_reducible refine (mummerref02_one.calls kj15 a0 (⟨#[33,36,37,38,42,47,58,60,61,62,63,94,95,126,46,64]⟩:ByteArray) true _ A32.out).mono ?_);rintro e w' ⟨rfl,⟨nd,rfl⟩⟩))
                                  go_ret2;exact ⟨by first|rfl|(simp;done)|(simp [*];done),by repeat (first|exact Drawn0.refl _|apply Drawn0.step)⟩
                                · replace c33:=Bool.eq_false_iff.mpr c33;subst c33
                                  have H1:(some (10,0))=some (r1,r2):=by rw [if_neg (show ¬(false=true) by decide)] at H;exact H
                                  clear H;have H:=H1;clear H1;simp only [Option.some.injEq,Prod.mk.injEq] at H;obtain ⟨rfl,rfl⟩:=H
                                  go_wp2_with (first|(go_at_call 99;(with_reducible refine (mummerref02_one.calls kj15 a0 (⟨#[33,36,37,38,42,47,58,60,61,62,63,94,95,126,46,64]⟩:ByteArray) false _ A32.out).mono ?_);rintro e w' ⟨rfl,⟨nd,rfl⟩⟩))
                                  go_ret2;exact ⟨by first|rfl|(simp;done)|(simp [*];done),by repeat (first|exact Drawn0.refl _|apply Drawn0.step)⟩
                          · rw [if_neg c29] at H;have c29b0:decide (65≤a0)=false:=decide_eq_false c29;clear c29;by_cases c34:a0≥161
                            · rw [if_pos c34] at H;have c34b0:decide (161≤a0)=true:=decide_eq_true c34;clear c34;simp only [Option.some.injEq,Prod.mk.injEq] at H;obtain ⟨rfl,rfl⟩:=H;go_wp2;go_ret2;exact ⟨by first|rfl|(simp;done)|(simp [*];done),by repeat (first|exact Drawn0.refl _|apply Drawn0.step)⟩
                            · rw [if_neg c34] at H;have c34b0:decide (161≤a0)=false:=decide_eq_false c34;clear c34;replace H:=Option.bind_eq_some_iff.mp H;obtain ⟨t136,A350,H⟩:=H;replace H:(if t136=true then (some (9,0)) else (some (10,0)))=some (r1,r2):=H;have A35:=Aside0.mk A350;clear A350;by_cases c36:t136=true
                              · subst c36
                                have H1:(some (9,0))=some (r1,r2):=by rw [if_pos rfl] at H;exact H
                                clear H;have H:=H1;clear H1;simp only [Option.some.injEq,Prod.mk.injEq] at H;obtain ⟨rfl,rfl⟩:=H
                                go_wp2_with (first|(go_at_call 99;(with_reducible refine (mummerref02_one.calls kj15 a0 (⟨#[33,36,37,38,42,47,58,60,61,62,63,94,95,126,46,64]⟩:ByteArray) true _ A35.out).mono ?_);rintro e w' ⟨rfl,⟨nd,rfl⟩⟩))
                                go_ret2;exact ⟨by first|rfl|(simp;done)|(simp [*];done),by repeat (first|exact Drawn0.refl _|apply Drawn0.step)⟩
                              · replace c36:=Bool.eq_false_iff.mpr c36;subst c36
                                have H1:(some (10,0))=some (r1,r2):=by rw [if_neg (show ¬(false=true) by decide)] at H;exact H
                                clear H;have H:=H1;clear H1;simp only [Option.some.injEq,Prod.mk.injEq] at H;obtain ⟨rfl,rfl⟩:=H
                                go_wp2_with (first|(go_at_call 99;(with_reducible refine (mummerref02_one.calls kj15 a0 (⟨#[33,36,37,38,42,47,58,60,61,62,63,94,95,126,46,64]⟩:ByteArray) false _ A35.out).mono ?_);rintro e w' ⟨rfl,⟨nd,rfl⟩⟩))
                                go_ret2;exact ⟨by first|rfl|(simp;done)|(simp [*];done),by repeat (first|exact Drawn0.refl _|apply Drawn0.step)⟩
 · replace c3:=Bool.eq_false_iff.mpr c3;subst c3
   have H1:(some (0,7))=some (r1,r2):=by rw [if_neg (show ¬(false=true) by decide)] at H;exact H
   clear H;have H:=H1;clear H1;simp only [Option.some.injEq,Prod.mk.injEq] at H;obtain ⟨rfl,rfl⟩:=H;go_enter Tryz.func66,Tryz.ntmps66
   go_wp2_with (first|((with_reducible refine gate_callee (f:=98) rfl ?_);refine goesL_ (some 5) rfl rfl Tryz.func98 (by kernel_rfl) rfl #[.int .i32 a0] rfl (by (try simp only [List.map_toArray,List.map_cons,List.map_nil]);first|done|rfl|(simp only [List.length_drop,List.length_take];rfl)) ?_;(with_reducible refine (mummerref02_Is.calls a0 false _ A2.out).mono ?_);rintro e w' ⟨rfl,⟨nd,rfl⟩⟩;refine ⟨_,rfl,?_⟩))
   go_ret2;exact ⟨by first|rfl|(simp;done)|(simp [*];done),by repeat (first|exact Drawn0.refl _|apply Drawn0.step)⟩
end Go.Proofs.YtgmiekggdgmhkaaGreatDoor.R
end
section
namespace Go.Proofs.YtgmiekggdgmhkaaGreatDoor.R
open Go.RowKit Go.Proofs.YtgmiekggdgmhkaaGreatDoorW.PrintWords
open Go.Proofs.YtgmiekggdgmhkaaGreatDoor.Q (Bytes Bytes.at_ bool_of decR dec ofL ofL_size itemsF items endF vend okB vend_eq dec_pos endF_stop)
set_option linter.unusedVariables false
set_option linter.unusedSimpArgs false
theorem standsF (l:List Int) (h1:1≤l.length) (h4:l.length≤4) (hb:Bytes l):mummerref02_stands.f l=some (standsB l):=if_pos ⟨⟨h1,h4⟩,hb⟩
theorem Bytes.append {a b:List Int} (ha:Bytes a) (hb:Bytes b):Bytes (a++b):=fun x hx=>(List.mem_append.mp hx).elim (ha x) (hb x)
theorem begins_l1 (x0:List Int) (x3 last:Int) (h3:x3≤4) (hnext: ∃k r,mummerref02_begins.l0 k x0 x3 (wrap64 (last+63))=some r):
 ∀(d:Nat) (c:List Int),Bytes c→1≤c.length→(c.length:Int)+d=x3→ ∃k r,mummerref02_begins.l1 k x0 x3 last c=some r:=by
 intro d
 induction d with
 |zero=>
  intro c hb h1 he;obtain ⟨k,r,hk⟩:=hnext;by_cases hs:(standsB c).2=true
  · refine ⟨k+1,true,?_⟩;simp only [mummerref02_begins.l1];rw [if_neg (by omega),standsF c h1 (by omega) hb];simp only [Option.bind_some];rw [if_pos hs]
  · refine ⟨k+1,r,?_⟩;simp only [mummerref02_begins.l1];rw [if_neg (by omega),standsF c h1 (by omega) hb];simp only [Option.bind_some];rw [if_neg hs];exact hk
 |succ d ih=>
  intro c hb h1 he;obtain ⟨k,r,hk⟩:=ih (c++[last % 256]) (Bytes.append hb (fun x hx=>by simp at hx;subst hx;omega)) (by simp) (by simp;omega);refine ⟨k+1,r,?_⟩;simp only [mummerref02_begins.l1];rw [if_pos (by omega),if_pos (by omega)];exact hk
theorem begins_l0 (x0:List Int) (x3 last:Int) (h3:x3≤4) (hl:(x0.length:Int)<x3) (h1:1≤x0.length) (hb:Bytes x0) (hnext: ∃k r,mummerref02_begins.l0 k x0 x3 (wrap64 (last+63))=some r):
 ∃k r,mummerref02_begins.l0 k x0 x3 last=some r:=by
 by_cases hlast:last≤191
 · obtain ⟨k,r,hk⟩:=begins_l1 x0 x3 last h3 hnext (x3-x0.length).toNat x0 hb h1 (by omega);refine ⟨k+1,r,?_⟩;simp only [mummerref02_begins.l0];rw [if_pos hlast];simp only [Option.bind_some,List.nil_append,List.length_nil];rw [if_pos (by omega)];exact hk
 · exact ⟨1,false,by simp only [mummerref02_begins.l0];rw [if_neg hlast]⟩
theorem begins_j2 (x0:List Int) (x3:Int) (h3:x3≤4) (h1:1≤x0.length) (hb:Bytes x0): ∃k r,mummerref02_begins.j2 k x0 x3=some r:=by
 by_cases h:(x0.length:Int)≥x3
 · exact ⟨1,false,by simp only [mummerref02_begins.j2];rw [if_pos h]⟩
 · obtain ⟨k,r,hk⟩:=begins_l0 x0 x3 128 h3 (by omega) h1 hb (begins_l0 x0 x3 _ h3 (by omega) h1 hb (begins_l0 x0 x3 _ h3 (by omega) h1 hb ⟨1,false,by simp only [mummerref02_begins.l0];rw [if_neg (by unfold wrap64;omega)]⟩));exact ⟨k+1,r,by simp only [mummerref02_begins.j2];rw [if_neg h];exact hk⟩
theorem begins_some (x0:List Int) (h1:1≤x0.length) (hb:Bytes x0): ∃k r,mummerref02_begins.f k x0=some r:=by
 have hj1: ∀x4 b,∃k r,mummerref02_begins.j1 k x0 0 x4 b=some r:=by
  intro x4 b
  have go: ∀x3,x3≤4→(∀k,mummerref02_begins.j1 (k+1) x0 0 x4 b=mummerref02_begins.j2 k x0 x3)→ ∃k r,mummerref02_begins.j1 k x0 0 x4 b=some r:=fun x3 h3 he=>by
   obtain ⟨k,r,hk⟩:=begins_j2 x0 x3 h3 h1 hb;exact ⟨k+1,r,(he k).trans hk⟩
  by_cases c1:b=true
  · exact go 3 (by omega) (fun k=>by simp only [mummerref02_begins.j1];rw [if_pos c1])
  · by_cases c2:x4≥240
    · by_cases c3:x4<248
      · exact go 4 (by omega) (fun k=>by simp only [mummerref02_begins.j1];rw [if_neg c1,if_pos c2,if_pos c3])
      · exact go 0 (by omega) (fun k=>by simp only [mummerref02_begins.j1];rw [if_neg c1,if_pos c2,if_neg c3])
    · exact go 0 (by omega) (fun k=>by simp only [mummerref02_begins.j1];rw [if_neg c1,if_neg c2])
 have hj0: ∀x4 b,∃k r,mummerref02_begins.j0 k x0 0 x4 b=some r:=by
  intro x4 b;by_cases c1:b=true
  · obtain ⟨k,r,hk⟩:=begins_j2 x0 2 (by omega) h1 hb;exact ⟨k+1,r,by simp only [mummerref02_begins.j0];rw [if_pos c1];exact hk⟩
  · by_cases c2:x4≥224
    · obtain ⟨k,r,hk⟩:=hj1 x4 (decide (x4<240));exact ⟨k+1,r,by simp only [mummerref02_begins.j0];rw [if_neg c1,if_pos c2];exact hk⟩
    · obtain ⟨k,r,hk⟩:=hj1 x4 false;exact ⟨k+1,r,by simp only [mummerref02_begins.j0];rw [if_neg c1,if_neg c2];exact hk⟩
 by_cases c:wrap32 (rd x0 0)≥192
 · obtain ⟨k,r,hk⟩:=hj0 (wrap32 (rd x0 0)) (decide (wrap32 (rd x0 0)<224));exact ⟨k,r,by unfold mummerref02_begins.f;rw [if_pos (by omega),if_pos c];exact hk⟩
 · obtain ⟨k,r,hk⟩:=hj0 (wrap32 (rd x0 0)) false;exact ⟨k,r,by unfold mummerref02_begins.f;rw [if_pos (by omega),if_neg c];exact hk⟩
theorem wrap_small (x:Int) (h0:0≤x) (h1:x≤1000000):wrap64 x=x:=by unfold wrap64;omega
theorem dec_hit (l:List Int) (a n:Nat) (k:Nat) (hl:l.length≤8000) (hn:1≤n∧n≤4) (ha:a+n≤l.length) (hb:Bytes l) (r:Int) (hs:standsB ((l.drop a).take n)=(r,true)):
 mummerref02_Decode.l0 (k+2) l a n=some (r,(n:Int),0):=by
 simp only [mummerref02_Decode.l0];rw [if_pos (by omega),wrap_small _ (by omega) (by omega)];simp only [mummerref02_Decode.j2];rw [if_pos (decide_eq_true (by omega)),if_pos (by omega),wrap_small _ (by omega) (by omega),if_pos (by omega),if_pos (by omega)]
 have e:((l.take ((a:Int)+n).toNat).drop (a:Int).toNat)=(l.drop a).take n:=by
  rw [Int.toNat_natCast,show ((a:Int)+n).toNat=a+n by omega,List.drop_take]
  congr 1;omega
 have hlen:((l.drop a).take n).length=n:=by rw [List.length_take,List.length_drop];omega
 rw [e,standsF _ (by omega) (by omega) ((hb.drop a).take n),hs];rfl
theorem dec_miss (l:List Int) (a n:Nat) (k:Nat) (hl:l.length≤8000) (hn:1≤n∧n≤4) (ha:a+n≤l.length) (hb:Bytes l) (hs:(standsB ((l.drop a).take n)).2=false):
 mummerref02_Decode.l0 (k+2) l a n=mummerref02_Decode.l0 k l a ((n+1:Nat):Int):=by
 conv=>lhs;simp only [mummerref02_Decode.l0]
 rw [if_pos (by omega),wrap_small _ (by omega) (by omega)];simp only [mummerref02_Decode.j2];rw [if_pos (decide_eq_true (by omega)),if_pos (by omega),wrap_small _ (by omega) (by omega),if_pos (by omega),if_pos (by omega)]
 have e:((l.take ((a:Int)+n).toNat).drop (a:Int).toNat)=(l.drop a).take n:=by
  rw [Int.toNat_natCast,show ((a:Int)+n).toNat=a+n by omega,List.drop_take]
  congr 1;omega
 have hlen:((l.drop a).take n).length=n:=by rw [List.length_take,List.length_drop];omega
 rw [e,standsF _ (by omega) (by omega) ((hb.drop a).take n)];simp only [Option.bind_some];rw [if_neg (by rw [hs];decide),wrap_small _ (by omega) (by omega)];rfl
theorem dec_end (l:List Int) (a n:Nat) (hl:l.length≤8000) (hn:1≤n∧n≤5) (ha:a<l.length) (hend:n=5∨l.length<a+n) (hb:Bytes l):
 ∃k q,q≠0∧mummerref02_Decode.l0 k l a n=some (0,0,q):=by
 have tail: ∃k q,q≠0∧mummerref02_Decode.j2 k l a n false=some (0,0,q):=by
  by_cases h4:wrap64 ((l.length:Int)-a)<4
  · obtain ⟨k,r,hk⟩:=begins_some (l.drop a) (by rw [List.length_drop];omega) (hb.drop a);cases r
    · refine ⟨k+1,6,by decide,?_⟩;simp only [mummerref02_Decode.j2];rw [if_neg (by decide),if_pos h4,if_pos (by omega),if_pos (by omega),Int.toNat_natCast,hk];rfl
    · refine ⟨k+1,320,by decide,?_⟩;simp only [mummerref02_Decode.j2];rw [if_neg (by decide),if_pos h4,if_pos (by omega),if_pos (by omega),Int.toNat_natCast,hk];rfl
  · refine ⟨1,6,by decide,?_⟩;simp only [mummerref02_Decode.j2];rw [if_neg (by decide),if_neg h4]
 obtain ⟨k,q,hq,hk⟩:=tail;refine ⟨k+1,q,hq,?_⟩;simp only [mummerref02_Decode.l0]
 rcases hend with rfl|hend
 · rw [if_neg (by omega)];exact hk
 · by_cases h5:(n:Int)≤4
   · rw [if_pos h5,wrap_small _ (by omega) (by omega),decide_eq_false (by omega)];exact hk
   · rw [if_neg h5];exact hk
theorem take1 (l:List Int) (h:1≤l.length):l.take 1=[rd l 0]:=by
 match l,h with
 |_::_,_=>rfl
theorem take2 (l:List Int) (h:2≤l.length):l.take 2=[rd l 0,rd l 1]:=by
 match l,h with
 |_::_::_,_=>rfl
theorem take3 (l:List Int) (h:3≤l.length):l.take 3=[rd l 0,rd l 1,rd l 2]:=by
 match l,h with
 |_::_::_::_,_=>rfl
theorem take4 (l:List Int) (h:4≤l.length):l.take 4=[rd l 0,rd l 1,rd l 2,rd l 3]:=by
 match l,h with
 |_::_::_::_::_,_=>rfl
def DecAns (l:List Int) (x:Int×Int×Int):Prop:=match decR l with
 |some (r,n)=>x=(r,n,0)
 |none=> ∃q,q≠0∧x=(0,0,q)
theorem dec_at_some (l:List Int) (a:Nat) (hl:l.length≤8000) (ha:a<l.length) (hb:Bytes l): ∃k x,mummerref02_Decode.l0 k l a 1=some x∧DecAns (l.drop a) x:=by
 have hne:l.drop a≠[]:=fun h=>by have:=congrArg List.length h;rw [List.length_drop] at this;simp at this;omega
 have hbd:=hb.drop a;have hX:=decR_X (l.drop a) hbd hne;have hld:(l.drop a).length=l.length-a:=List.length_drop;generalize hD:l.drop a=D at *; have b0:=hbd.at_ 0;have b1:=hbd.at_ 1;unfold decX at hX;unfold DecAns;by_cases c1:rd D 0<128
 · rw [if_pos c1] at hX;refine ⟨2,_,dec_hit l a 1 0 hl (by omega) (by omega) hb (rd D 0) ?_,?_⟩
   · rw [hD,take1 D (by omega),st1 _ b0.1 b0.2,if_pos c1]
   · rw [hX];rfl
 · rw [if_neg c1] at hX
   have m1: ∀k,mummerref02_Decode.l0 (k+2) l a 1=mummerref02_Decode.l0 k l a 2:=fun k=>dec_miss l a 1 k hl (by omega) (by omega) hb (by rw [hD,take1 D (by omega),st1 _ b0.1 b0.2,if_neg c1])
   by_cases e2:2≤D.length
   · by_cases c2:ok2 (rd D 0) (rd D 1)
     · rw [if_pos ⟨c2,by omega⟩] at hX;refine ⟨2+2,_,(m1 2).trans (dec_hit l a 2 0 hl (by omega) (by omega) hb (val2 (rd D 0) (rd D 1)) ?_),?_⟩
       · rw [hD,take2 D e2,st2 _ _ b1,if_pos c2]
       · rw [hX];rfl
     · rw [if_neg (fun h=>c2 h.1)] at hX
       have m2: ∀k,mummerref02_Decode.l0 (k+2+2) l a 1=mummerref02_Decode.l0 k l a 3:=fun k=>(m1 (k+2)).trans (dec_miss l a 2 k hl (by omega) (by omega) hb (by rw [hD,take2 D e2,st2 _ _ b1,if_neg c2]))
       by_cases e3:3≤D.length
       · by_cases c3:ok3 (rd D 0) (rd D 1) (rd D 2)
         · rw [if_pos ⟨c3,by omega⟩] at hX;refine ⟨2+2+2,_,(m2 2).trans (dec_hit l a 3 0 hl (by omega) (by omega) hb (val3 (rd D 0) (rd D 1) (rd D 2)) ?_),?_⟩
           · rw [hD,take3 D e3,st3,if_pos c3]
           · rw [hX];rfl
         · rw [if_neg (fun h=>c3 h.1)] at hX
           have m3: ∀k,mummerref02_Decode.l0 (k+2+2+2) l a 1=mummerref02_Decode.l0 k l a 4:=fun k=>(m2 (k+2)).trans (dec_miss l a 3 k hl (by omega) (by omega) hb (by rw [hD,take3 D e3,st3,if_neg c3]))
           by_cases e4:4≤D.length
           · by_cases c4:ok4 (rd D 0) (rd D 1) (rd D 2) (rd D 3)
             · rw [if_pos ⟨c4,by omega⟩] at hX;refine ⟨2+2+2+2,_,(m3 2).trans (dec_hit l a 4 0 hl (by omega) (by omega) hb (val4 (rd D 0) (rd D 1) (rd D 2) (rd D 3)) ?_),?_⟩
               · rw [hD,take4 D e4,st4,if_pos c4]
               · rw [hX];rfl
             · rw [if_neg (fun h=>c4 h.1)] at hX;obtain ⟨k,q,hq,hk⟩:=dec_end l a 5 hl (by omega) ha (.inl rfl) hb;have m4:=(m3 (k+2)).trans (dec_miss l a 4 k hl (by omega) (by omega) hb (by rw [hD,take4 D e4,st4,if_neg c4]));exact ⟨_,_,m4.trans hk,by rw [hX];exact ⟨q,hq,rfl⟩⟩
           · rw [if_neg (fun h=>by omega)] at hX;obtain ⟨k,q,hq,hk⟩:=dec_end l a 4 hl (by omega) ha (.inr (by omega)) hb;exact ⟨_,_,(m3 k).trans hk,by rw [hX];exact ⟨q,hq,rfl⟩⟩
       · rw [if_neg (fun h=>by omega),if_neg (fun h=>by omega)] at hX;obtain ⟨k,q,hq,hk⟩:=dec_end l a 3 hl (by omega) ha (.inr (by omega)) hb;exact ⟨_,_,(m2 k).trans hk,by rw [hX];exact ⟨q,hq,rfl⟩⟩
   · rw [if_neg (fun h=>by omega),if_neg (fun h=>by omega),if_neg (fun h=>by omega)] at hX;obtain ⟨k,q,hq,hk⟩:=dec_end l a 2 hl (by omega) ha (.inr (by omega)) hb;exact ⟨_,_,(m1 k).trans hk,by rw [hX];exact ⟨q,hq,rfl⟩⟩
theorem decode_ev (l:List Int) (a:Nat) (hl:l.length≤8000) (ha:a<l.length) (hb:Bytes l): ∃x,Ev (fun k=>mummerref02_Decode.f k l a) x∧DecAns (l.drop a) x:=by
 obtain ⟨k,x,hk,hx⟩:=dec_at_some l a hl ha hb;refine ⟨x,Ev.of (fun k=>mummerref02_Decode.mono l a k) (k:=k+1) ?_,hx⟩;unfold mummerref02_Decode.f;rw [if_neg (by omega),decide_eq_false (by omega)];simp only [mummerref02_Decode.j0];rw [if_neg (by decide)];exact hk
end Go.Proofs.YtgmiekggdgmhkaaGreatDoor.R
end
