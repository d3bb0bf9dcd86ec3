import Derived.LoopTactic
import Derived.Test.YtdffphkbidfejaaDoorMK1
import Derived.Test.YtdffphkbidfejaaDoorMK10
import Derived.Test.YtdffphkbidfejaaDoorMK12
section
namespace Go.Proofs.YtdffphkbidfejaaDoor.Q
open Go.RowKit Go.Proofs.YtdffphkbidfejaaDoorW.PrintWords Go.Proofs.YtdffphkbidfejaaDoorW.PrintLast Go.Proofs.YtdffphkbidfejaaDoorW.PrintMore
set_option linter.unusedVariables false
set_option linter.unusedSimpArgs false
def clsR (l:List Int) (i:Nat):Int×Nat:=match decR (l.drop i) with|some (r,n)=>(clsOf r,i+n.toNat)|none=>(0,i+1)
theorem dec_good (l:List Int) (r n:Int) (h:decR l=some (r,n)):Lib.validRune r=true∧0<n∧n.toNat≤l.length:=by
 obtain ⟨a,b⟩:=dec_pos h;exact ⟨valid_dec h,by omega,by omega⟩
set_option maxHeartbeats 1600000 in
set_option maxRecDepth 100000 in
theorem lcls_no (b off c n:Nat) (i:Nat) (w:World) (h1:i<n) (hsz:n≤1000000)
 (hD:Calls Tryd.prog 35 #[.slice (some ⟨b,off,none⟩) n c,.int .i64 i] w fun e w'=>(∃q:Int,q≠0∧e= .returned (.tuple #[.int .i32 0,.int .i64 0,.int .i64 q]))∧Below w.heap.size w w'):
 Calls Tryd.prog 24 #[.slice (some ⟨b,off,none⟩) n c,.int .i64 i] w fun e w'=>e= .returned (.tuple #[.int .i64 0,.int .i64 (i+1:Nat)])∧Below w.heap.size w w':=by
 have e1:wrap64 ((i:Int)+1)=((i+1:Nat):Int):=by unfold wrap64;omega
 have HD:=Aside0.mk hD;clear hD hsz h1;go_enter Tryd.func24,Tryd.ntmps24
 go_wp2_with (go_at_call 35;refine HD.out.mono ?_;rintro e w1 ⟨⟨q,hq,rfl⟩,hb1⟩;have hq':(q != 0)=true:=bne_iff_ne.mpr hq;clear hq)
 go_ret2;exact ⟨by rw [e1];rfl,hb1⟩
set_option maxHeartbeats 1600000 in
set_option maxRecDepth 100000 in
theorem lcls_yes (b off c n:Nat) (i:Nat) (r m:Int) (w:World) (h1:i<n) (hsz:n≤1000000) (hv:Lib.validRune r=true) (hm:0<m) (hm2:m≤1000000)
 (hD:Calls Tryd.prog 35 #[.slice (some ⟨b,off,none⟩) n c,.int .i64 i] w fun e w'=>e= .returned (.tuple #[.int .i32 r,.int .i64 m,.int .i64 0])∧Below w.heap.size w w'):
 Calls Tryd.prog 24 #[.slice (some ⟨b,off,none⟩) n c,.int .i64 i] w fun e w'=>e= .returned (.tuple #[.int .i64 (clsOf r),.int .i64 (i+m.toNat:Nat)])∧Below w.heap.size w w':=by
 have e1:wrap64 ((i:Int)+m)=((i+m.toNat:Nat):Int):=by unfold wrap64;omega
 have HD:=Aside0.mk hD
 have HC:=fun W=>class_good r W hv
 clear hD hsz h1 hm hm2 hv;go_enter Tryd.func24,Tryd.ntmps24
 go_wp2_with (first
  |(go_at_call 35;refine HD.out.mono ?_;rintro e w1 ⟨rfl,hb1⟩)
  |(go_at_call 36;refine (HC _).mono ?_;rintro e w2 ⟨rfl,hb2⟩))
 go_ret2;exact ⟨by rw [e1];rfl,below_then hb1 hb1.size hb2⟩
theorem lcls_in (b off c n:Nat) (l:List Int) (i:Nat) (w:World) (hn:n=l.length) (h1:i<n) (hcap:n≤c) (hsz:n≤1000000) (hc:BC w b off l) (hb:Bytes l) (hG:G0 w):
 Calls Tryd.prog 24 #[.slice (some ⟨b,off,none⟩) n c,.int .i64 i] w fun e w'=>e= .returned (.tuple #[.int .i64 (clsR l i).1,.int .i64 (clsR l i).2])∧Below w.heap.size w w':=by
 have hD:=rdec_in b off c n l i w hn (by omega) (by omega) hcap hc hb hG;rw [Int.toNat_natCast] at hD;unfold clsR
 cases hr:decR (l.drop i) with
 |none=>exact lcls_no b off c n i w h1 hsz (hD.mono fun e w' ⟨h,hb⟩=>⟨by rw [hr] at h;exact h,hb⟩)
 |some p=>
  obtain ⟨r,m⟩:=p;obtain ⟨g1,g2,g3⟩:=dec_good _ _ _ hr;rw [List.length_drop] at g3;exact lcls_yes b off c n i r m w h1 hsz g1 g2 (by omega) (hD.mono fun e w' ⟨h,hb⟩=>⟨by rw [hr] at h;exact h,hb⟩)
def PredF (f:Nat) (p:Int→Bool):Prop:= ∀(k:Int) (W:World),Calls Tryd.prog f #[.int .i64 k] W fun e w'=>e= .returned (.bool (p k))∧W=w'
theorem word_pred:PredF 41 (fun k=>k==9||(k==7||k==8)):=by
 intro k W;by_cases h9:k=9
 · subst h9;go_enter Tryd.func41,Tryd.ntmps41;go_wp2;go_ret;exact ⟨rfl,rfl⟩
 · by_cases h7:k=7
   · subst h7;go_enter Tryd.func41,Tryd.ntmps41;go_wp2;go_ret;exact ⟨rfl,rfl⟩
   · have b9:(k==9)=false:=beq_eq_false_iff_ne.mpr h9;have b7:(k==7)=false:=beq_eq_false_iff_ne.mpr h7;go_enter Tryd.func41,Tryd.ntmps41;go_wp2;go_ret;exact ⟨by rw [b9,b7];rfl,rfl⟩
theorem comment_pred:PredF 39 (fun k=>k != 0):=by
 intro k W;go_enter Tryd.func39,Tryd.ntmps39;go_wp2;go_ret;exact ⟨rfl,rfl⟩
def whileF (l:List Int) (p:Int→Bool):Nat→Nat→Nat
 |0,i=>i
 |k+1,i=>if i<l.length∧p (clsR l i).1=true then whileF l p k (clsR l i).2 else i
def whileR (l:List Int) (p:Int→Bool) (i:Nat):Nat:=whileF l p (l.length-i) i
theorem clsR_step (l:List Int) (i:Nat) (h:i<l.length):i<(clsR l i).2∧(clsR l i).2≤l.length:=by
 unfold clsR
 cases hr:decR (l.drop i) with
 |none=>simp only [];omega
 |some q=>
  obtain ⟨r,n⟩:=q;obtain ⟨_,a,b⟩:=dec_good _ _ _ hr;rw [List.length_drop] at b;simp only [];omega
theorem whileF_more (l:List Int) (p:Int→Bool): ∀(k j i:Nat),l.length-i≤k→l.length-i≤j→whileF l p k i=whileF l p j i
 |0,0,i,_,_=>rfl
 |0,j+1,i,h,_=>by
  simp only [whileF];rw [if_neg (by omega)]
 |k+1,0,i,_,h=>by
  simp only [whileF];rw [if_neg (by omega)]
 |k+1,j+1,i,h1,h2=>by
  simp only [whileF];by_cases c:i<l.length∧p (clsR l i).1=true
  · rw [if_pos c,if_pos c];have:=clsR_step l i c.1;exact whileF_more l p k j _ (by omega) (by omega)
  · rw [if_neg c,if_neg c]
theorem whileR_go (l:List Int) (p:Int→Bool) (i:Nat) (h:i<l.length) (hp:p (clsR l i).1=true):whileR l p i=whileR l p (clsR l i).2:=by
 have hs:=clsR_step l i h
 obtain ⟨k,hk⟩: ∃k,l.length-i=k+1:=⟨l.length-i-1,by omega⟩
 unfold whileR;rw [hk];simp only [whileF];rw [if_pos ⟨h,hp⟩];exact whileF_more l p _ _ _ (by omega) (by omega)
theorem whileR_stop (l:List Int) (p:Int→Bool) (i:Nat) (hp:p (clsR l i).1=false):whileR l p i=i:=by
 unfold whileR
 cases l.length-i with
 |zero=>rfl
 |succ k=>simp only [whileF];rw [if_neg (fun c=>by rw [hp] at c;exact absurd c.2 (by decide))]
theorem whileR_end (l:List Int) (p:Int→Bool) (i:Nat) (h: ¬i<l.length):whileR l p i=i:=by
 unfold whileR;rw [show l.length-i=0 by omega];rfl
theorem whileR_in (l:List Int) (p:Int→Bool) (i:Nat) (h:i≤l.length):i≤whileR l p i∧whileR l p i≤l.length:=by
 suffices ∀(k i:Nat),i≤l.length→i≤whileF l p k i∧whileF l p k i≤l.length from this _ _ h
 intro k
 induction k with
 |zero=>intro i hi;exact ⟨Nat.le_refl _,hi⟩
 |succ k ih=>
  intro i hi;simp only [whileF];by_cases c:i<l.length∧p (clsR l i).1=true
  · rw [if_pos c];have hs:=clsR_step l i c.1;have:=ih _ hs.2;omega
  · rw [if_neg c];exact ⟨Nat.le_refl _,hi⟩
def wordP (k:Int):Bool:=k==9||(k==7||k==8)
def commentP (k:Int):Bool:=k != 0
set_option maxRecDepth 100000 in
set_option maxHeartbeats 2000000 in
theorem lwhile_word (b off c n:Nat) (l:List Int) (i:Nat) (w:World) (hn:n=l.length) (hi:i≤n) (hcap:n≤c) (hsz:n≤1000000) (hc:BC w b off l) (hb:Bytes l) (hG:G0 w):
 Calls Tryd.prog 38 #[.slice (some ⟨b,off,none⟩) n c,.int .i64 i,.func (.func 41) #[] #[]] w fun e w'=>e= .returned (.int .i64 (whileR l wordP i:Nat))∧Below w.heap.size w w':=by
 have HCL:=fun (k:Nat) (W:World) (hk:k<n) (hW:Below w.heap.size w W)=>lcls_in b off c n l k W hn hk hcap hsz (hc.below hW) hb (G0_keep hG hW)
 have HCL:=Aside0.mk HCL;have HP:=Aside0.mk (show PredF 41 wordP from word_pred);have HN:=Aside0.mk hn;clear hc hb hG hcap hsz hn;generalize hR:whileR l wordP i=R;have HR:=Aside0.mk hR;clear hR;go_enter Tryd.func38,Tryd.ntmps38;go_wp2
 go_loopw [1] (fun v wr=> ∃k:Nat,v= .int .i64 k∧k≤n∧Aside0 (whileR l wordP k=R)∧Aside0 (Below w.heap.size w wr)) (fun v _=>n-(intOf v).toNat)
 case atStart=>exact ⟨i,rfl,hi,HR,⟨Below.refl _ _⟩⟩
 case round=>
  obtain ⟨k,rfl,hk,HS,HB⟩:=hrel;by_cases hlt:k<n
  · have hltI:(k:Int)<n:=by omega
    have hcl:=HCL.out k wr hlt HB.out;have hst:=clsR_step l k (by have:=HN.out;omega);have hq:=HP.out (clsR l k).1;have hgo:=whileR_go l wordP k (by have:=HN.out;omega);have hno:=whileR_stop l wordP k;have hS:=HS.out;clear HS;generalize (clsR l k).2=d at *; generalize (clsR l k).1=a at*
    cases hpa:wordP a with
    |true=>
     rw [hpa] at hq;have hgo:=hgo hpa;have HS:=Aside0.mk (hgo.symm.trans hS);have HQ:=Aside0.mk hq;have HC:=Aside0.mk hcl
     have hd:d≤n:=by have:=HN.out;omega
     have hd2:k<d:=hst.1;clear hgo hno hS hq hcl hpa hst HCL HP
     go_wp2_with (first
      |(go_at_call 24;refine HC.out.mono ?_;rintro e w1 ⟨rfl,hb1⟩;have HB1:=Aside0.mk hb1;clear hb1)
      |(go_at_call 41;refine (HQ.out _).mono ?_;rintro e w2 ⟨rfl,rfl⟩))
     go_roundw
     case rel=>exact ⟨d,rfl,hd,HS,⟨below_step HB.out HB1.out⟩⟩
     case measure=>simp [intOf];omega
    |false=>
     rw [hpa] at hq;have HS:=Aside0.mk ((hno hpa).symm.trans hS);have HQ:=Aside0.mk hq;have HC:=Aside0.mk hcl;clear hgo hno hS hq hcl hpa hst HCL HP
     go_wp2_with (first
      |(go_at_call 24;refine HC.out.mono ?_;rintro e w1 ⟨rfl,hb1⟩;have HB1:=Aside0.mk hb1;clear hb1)
      |(go_at_call 41;refine (HQ.out _).mono ?_;rintro e w2 ⟨rfl,rfl⟩))
     go_ret;exact ⟨by rw [HS.out];rfl,below_step HB.out HB1.out⟩
  · have hk2:k=n:=by omega
    have hno:=whileR_end l wordP k (by have:=HN.out;omega);have HS:=Aside0.mk (hno.symm.trans HS.out);clear hno;subst hk2;go_wp2;go_ret;exact ⟨by rw [HS.out];rfl,HB.out⟩
set_option maxRecDepth 100000 in
set_option maxHeartbeats 2000000 in
theorem lwhile_comment (b off c n:Nat) (l:List Int) (i:Nat) (w:World) (hn:n=l.length) (hi:i≤n) (hcap:n≤c) (hsz:n≤1000000) (hc:BC w b off l) (hb:Bytes l) (hG:G0 w):
 Calls Tryd.prog 38 #[.slice (some ⟨b,off,none⟩) n c,.int .i64 i,.func (.func 39) #[] #[]] w fun e w'=>e= .returned (.int .i64 (whileR l commentP i:Nat))∧Below w.heap.size w w':=by
 have HCL:=fun (k:Nat) (W:World) (hk:k<n) (hW:Below w.heap.size w W)=>lcls_in b off c n l k W hn hk hcap hsz (hc.below hW) hb (G0_keep hG hW)
 have HCL:=Aside0.mk HCL;have HP:=Aside0.mk (show PredF 39 commentP from comment_pred);have HN:=Aside0.mk hn;clear hc hb hG hcap hsz hn;generalize hR:whileR l commentP i=R;have HR:=Aside0.mk hR;clear hR;go_enter Tryd.func38,Tryd.ntmps38;go_wp2
 go_loopw [1] (fun v wr=> ∃k:Nat,v= .int .i64 k∧k≤n∧Aside0 (whileR l commentP k=R)∧Aside0 (Below w.heap.size w wr)) (fun v _=>n-(intOf v).toNat)
 case atStart=>exact ⟨i,rfl,hi,HR,⟨Below.refl _ _⟩⟩
 case round=>
  obtain ⟨k,rfl,hk,HS,HB⟩:=hrel;by_cases hlt:k<n
  · have hltI:(k:Int)<n:=by omega
    have hcl:=HCL.out k wr hlt HB.out;have hst:=clsR_step l k (by have:=HN.out;omega);have hq:=HP.out (clsR l k).1;have hgo:=whileR_go l commentP k (by have:=HN.out;omega);have hno:=whileR_stop l commentP k;have hS:=HS.out;clear HS;generalize (clsR l k).2=d at *; generalize (clsR l k).1=a at*
    cases hpa:commentP a with
    |true=>
     rw [hpa] at hq;have hgo:=hgo hpa;have HS:=Aside0.mk (hgo.symm.trans hS);have HQ:=Aside0.mk hq;have HC:=Aside0.mk hcl
     have hd:d≤n:=by have:=HN.out;omega
     have hd2:k<d:=hst.1;clear hgo hno hS hq hcl hpa hst HCL HP
     go_wp2_with (first
      |(go_at_call 24;refine HC.out.mono ?_;rintro e w1 ⟨rfl,hb1⟩;have HB1:=Aside0.mk hb1;clear hb1)
      |(go_at_call 39;refine (HQ.out _).mono ?_;rintro e w2 ⟨rfl,rfl⟩))
     go_roundw
     case rel=>exact ⟨d,rfl,hd,HS,⟨below_step HB.out HB1.out⟩⟩
     case measure=>simp [intOf];omega
    |false=>
     rw [hpa] at hq;have HS:=Aside0.mk ((hno hpa).symm.trans hS);have HQ:=Aside0.mk hq;have HC:=Aside0.mk hcl;clear hgo hno hS hq hcl hpa hst HCL HP
     go_wp2_with (first
      |(go_at_call 24;refine HC.out.mono ?_;rintro e w1 ⟨rfl,hb1⟩;have HB1:=Aside0.mk hb1;clear hb1)
      |(go_at_call 39;refine (HQ.out _).mono ?_;rintro e w2 ⟨rfl,rfl⟩))
     go_ret;exact ⟨by rw [HS.out];rfl,below_step HB.out HB1.out⟩
  · have hk2:k=n:=by omega
    have hno:=whileR_end l commentP k (by have:=HN.out;omega);have HS:=Aside0.mk (hno.symm.trans HS.out);clear hno;subst hk2;go_wp2;go_ret;exact ⟨by rw [HS.out];rfl,HB.out⟩
set_option maxRecDepth 100000 in
set_option maxHeartbeats 2000000 in
theorem lword_in (b off c n:Nat) (l:List Int) (i:Nat) (w:World) (hn:n=l.length) (hi:i≤n) (hcap:n≤c) (hsz:n≤1000000) (hc:BC w b off l) (hb:Bytes l) (hG:G0 w):
 Calls Tryd.prog 27 #[.slice (some ⟨b,off,none⟩) n c,.int .i64 i] w fun e w'=>e= .returned (.int .i64 (whileR l wordP i:Nat))∧Below w.heap.size w w':=by
 have HW:=Aside0.mk (lwhile_word b off c n l i w hn hi hcap hsz hc hb hG);clear hc hb hG hcap hsz hn;go_enter Tryd.func27,Tryd.ntmps27
 go_wp2_with (go_at_call 38;refine HW.out.mono ?_;rintro e w1 ⟨rfl,hb1⟩)
 go_ret;exact ⟨rfl,hb1⟩
end Go.Proofs.YtdffphkbidfejaaDoor.Q
end
