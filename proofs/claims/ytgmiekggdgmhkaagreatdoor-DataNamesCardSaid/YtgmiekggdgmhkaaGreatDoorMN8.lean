import Derived.Test.YtgmiekggdgmhkaaGreatDoorMN1
import Derived.Test.YtgmiekggdgmhkaaGreatDoorMN6
import Derived.Test.YtgmiekggdgmhkaaGreatDoorMN7
section
namespace Go.Proofs.YtgmiekggdgmhkaaGreatDoor.Q
open Go.RowKit Go.Proofs.YtgmiekggdgmhkaaGreatDoorW.PrintWords Go.Proofs.YtgmiekggdgmhkaaGreatDoorW.PrintLast Go.Proofs.YtgmiekggdgmhkaaGreatDoorW.PrintMore
set_option linter.unusedVariables false
set_option linter.unusedSimpArgs false
theorem bool_of (p:Prop) [Decidable p]:decide p=true∨decide p=false:=by cases h:decide p<;>simp
theorem first_at {w:World} (x0:Int) (p0:0≤x0) (hx:x0<256) (hG:G0 w): ∃f:Int,w.cell? ⟨0,x0.toNat,none⟩=some (.int .u8 f)∧(f=240∨f=241∨f=2∨f=19∨f=3∨f=35∨f=52∨f=4∨f=68):=
 ⟨_,hG.1 x0.toNat (by omega),by rcases Lib.firstT_cases x0.toNat with e|e|e|e|e|e|e|e|e<;>rw [e]<;>simp⟩
def AnyBool (w:World) (e:Ending) (w':World):Prop:=(∃r,e= .returned (.bool r))∧Below w.heap.size w w'
set_option maxHeartbeats 4000000 in
set_option maxRecDepth 100000 in
theorem full1 (b off c:Nat) (x0:Int) (w:World) (h0:w.cell? ⟨b,off,none⟩=some (.int .u8 x0)) (p0:0≤x0) (hx:x0<256) (hG:G0 w):
 Calls Tryz.prog 121 #[.slice (some ⟨b,off,none⟩) 1 c] w (AnyBool w):=by
 have hlt:b<w.heap.size:=World.block_lt_of_cell? w _ h0;obtain ⟨f,hT,e⟩:=first_at x0 p0 hx hG;have ha0:w.cell? ⟨1,0,none⟩=some (.int .u8 128):=(hG.2 0 (by omega)).1;have hb0:w.cell? ⟨1,1,none⟩=some (.int .u8 191):=(hG.2 0 (by omega)).2;have ha1:w.cell? ⟨1,2,none⟩=some (.int .u8 160):=(hG.2 1 (by omega)).1;have hb1:w.cell? ⟨1,3,none⟩=some (.int .u8 191):=(hG.2 1 (by omega)).2;have ha2:w.cell? ⟨1,4,none⟩=some (.int .u8 128):=(hG.2 2 (by omega)).1;have hb2:w.cell? ⟨1,5,none⟩=some (.int .u8 159):=(hG.2 2 (by omega)).2;have ha3:w.cell? ⟨1,6,none⟩=some (.int .u8 144):=(hG.2 3 (by omega)).1;have hb3:w.cell? ⟨1,7,none⟩=some (.int .u8 191):=(hG.2 3 (by omega)).2;have ha4:w.cell? ⟨1,8,none⟩=some (.int .u8 128):=(hG.2 4 (by omega)).1;have hb4:w.cell? ⟨1,9,none⟩=some (.int .u8 143):=(hG.2 4 (by omega)).2;clear hG
 rcases e with rfl|rfl|rfl|rfl|rfl|rfl|rfl|rfl|rfl
 all_goals
  go_enter Tryz.func121,Tryz.ntmps121;go_wp2
  repeat (go_quiet (fail);try go_wp2)
  go_ret;exact ⟨⟨_,rfl⟩,by repeat (first|exact Below.refl _ _|apply below_alloc|apply pw_below_drewN)⟩
set_option maxHeartbeats 8000000 in
set_option maxRecDepth 100000 in
theorem full2 (b off c:Nat) (x0 x1:Int) (w:World) (h0:w.cell? ⟨b,off,none⟩=some (.int .u8 x0)) (h1:w.cell? ⟨b,off+1,none⟩=some (.int .u8 x1)) (p0:0≤x0) (hx:x0<256) (p1:0≤x1) (hx1:x1<256) (hG:G0 w):
 Calls Tryz.prog 121 #[.slice (some ⟨b,off,none⟩) 2 c] w (AnyBool w):=by
 have hlt:b<w.heap.size:=World.block_lt_of_cell? w _ h0;obtain ⟨f,hT,e⟩:=first_at x0 p0 hx hG;have ha0:w.cell? ⟨1,0,none⟩=some (.int .u8 128):=(hG.2 0 (by omega)).1;have hb0:w.cell? ⟨1,1,none⟩=some (.int .u8 191):=(hG.2 0 (by omega)).2;have ha1:w.cell? ⟨1,2,none⟩=some (.int .u8 160):=(hG.2 1 (by omega)).1;have hb1:w.cell? ⟨1,3,none⟩=some (.int .u8 191):=(hG.2 1 (by omega)).2;have ha2:w.cell? ⟨1,4,none⟩=some (.int .u8 128):=(hG.2 2 (by omega)).1;have hb2:w.cell? ⟨1,5,none⟩=some (.int .u8 159):=(hG.2 2 (by omega)).2;have ha3:w.cell? ⟨1,6,none⟩=some (.int .u8 144):=(hG.2 3 (by omega)).1;have hb3:w.cell? ⟨1,7,none⟩=some (.int .u8 191):=(hG.2 3 (by omega)).2;have ha4:w.cell? ⟨1,8,none⟩=some (.int .u8 128):=(hG.2 4 (by omega)).1;have hb4:w.cell? ⟨1,9,none⟩=some (.int .u8 143):=(hG.2 4 (by omega)).2;clear hG
 rcases e with rfl|rfl|rfl|rfl|rfl|rfl|rfl|rfl|rfl
 case' inr.inr.inr.inl=>rcases bool_of (x1<160) with d1|d1<;>rcases bool_of (191<x1) with d2|d2
 case' inr.inr.inr.inr.inl=>rcases bool_of (x1<128) with d1|d1<;>rcases bool_of (191<x1) with d2|d2
 case' inr.inr.inr.inr.inr.inl=>rcases bool_of (x1<128) with d1|d1<;>rcases bool_of (159<x1) with d2|d2
 case' inr.inr.inr.inr.inr.inr.inl=>rcases bool_of (x1<144) with d1|d1<;>rcases bool_of (191<x1) with d2|d2
 case' inr.inr.inr.inr.inr.inr.inr.inl=>rcases bool_of (x1<128) with d1|d1<;>rcases bool_of (191<x1) with d2|d2
 case' inr.inr.inr.inr.inr.inr.inr.inr=>rcases bool_of (x1<128) with d1|d1<;>rcases bool_of (143<x1) with d2|d2
 all_goals
  go_enter Tryz.func121,Tryz.ntmps121;go_wp2
  repeat (go_quiet (fail);try go_wp2)
  go_ret;exact ⟨⟨_,rfl⟩,by repeat (first|exact Below.refl _ _|apply below_alloc|apply pw_below_drewN)⟩
set_option maxHeartbeats 8000000 in
set_option maxRecDepth 100000 in
theorem full3 (b off c:Nat) (x0 x1 x2:Int) (w:World) (h0:w.cell? ⟨b,off,none⟩=some (.int .u8 x0)) (h1:w.cell? ⟨b,off+1,none⟩=some (.int .u8 x1)) (h2:w.cell? ⟨b,off+2,none⟩=some (.int .u8 x2)) (p0:0≤x0) (hx:x0<256) (p1:0≤x1) (hx1:x1<256) (p2:0≤x2) (hx2:x2<256) (hG:G0 w):
 Calls Tryz.prog 121 #[.slice (some ⟨b,off,none⟩) 3 c] w (AnyBool w):=by
 have hlt:b<w.heap.size:=World.block_lt_of_cell? w _ h0;obtain ⟨f,hT,e⟩:=first_at x0 p0 hx hG;have ha0:w.cell? ⟨1,0,none⟩=some (.int .u8 128):=(hG.2 0 (by omega)).1;have hb0:w.cell? ⟨1,1,none⟩=some (.int .u8 191):=(hG.2 0 (by omega)).2;have ha3:w.cell? ⟨1,6,none⟩=some (.int .u8 144):=(hG.2 3 (by omega)).1;have hb3:w.cell? ⟨1,7,none⟩=some (.int .u8 191):=(hG.2 3 (by omega)).2;have ha4:w.cell? ⟨1,8,none⟩=some (.int .u8 128):=(hG.2 4 (by omega)).1;have hb4:w.cell? ⟨1,9,none⟩=some (.int .u8 143):=(hG.2 4 (by omega)).2;clear hG
 rcases e with rfl|rfl|rfl|rfl|rfl|rfl|rfl|rfl|rfl
 case' inr.inr.inr.inr.inr.inr.inl=>rcases bool_of (x1<144) with d1|d1<;>rcases bool_of (191<x1) with d2|d2<;>rcases bool_of (x2<128) with d3|d3<;>rcases bool_of (191<x2) with d4|d4
 case' inr.inr.inr.inr.inr.inr.inr.inl=>rcases bool_of (x1<128) with d1|d1<;>rcases bool_of (191<x1) with d2|d2<;>rcases bool_of (x2<128) with d3|d3<;>rcases bool_of (191<x2) with d4|d4
 case' inr.inr.inr.inr.inr.inr.inr.inr=>rcases bool_of (x1<128) with d1|d1<;>rcases bool_of (143<x1) with d2|d2<;>rcases bool_of (x2<128) with d3|d3<;>rcases bool_of (191<x2) with d4|d4
 all_goals
  go_enter Tryz.func121,Tryz.ntmps121;go_wp2
  repeat (go_quiet (fail);try go_wp2)
  go_ret;exact ⟨⟨_,rfl⟩,by repeat (first|exact Below.refl _ _|apply below_alloc|apply pw_below_drewN)⟩
set_option maxHeartbeats 4000000 in
set_option maxRecDepth 100000 in
theorem full4 (b off c n:Nat) (x0:Int) (w:World) (hn:(4:Int)≤n) (h0:w.cell? ⟨b,off,none⟩=some (.int .u8 x0)) (p0:0≤x0) (hx:x0<256) (hG:G0 w):
 Calls Tryz.prog 121 #[.slice (some ⟨b,off,none⟩) n c] w (AnyBool w):=by
 have hlt:b<w.heap.size:=World.block_lt_of_cell? w _ h0;obtain ⟨f,hT,e⟩:=first_at x0 p0 hx hG;clear hG
 have hp:(0:Int)<n:=by omega
 have hz:((n:Int)==0)=false:=by rw [beq_eq_false_iff_ne];omega
 have d0:decide ((0:Int)≤n)=true:=decide_eq_true (by omega);have d1:decide ((1:Int)≤n)=true:=decide_eq_true (by omega);have d2:decide ((2:Int)≤n)=true:=decide_eq_true (by omega);have d3:decide ((3:Int)≤n)=true:=decide_eq_true (by omega);have d4:decide ((4:Int)≤n)=true:=decide_eq_true (by omega)
 rcases e with rfl|rfl|rfl|rfl|rfl|rfl|rfl|rfl|rfl
 all_goals
  go_enter Tryz.func121,Tryz.ntmps121;go_wp2;go_ret;exact ⟨⟨_,rfl⟩,by repeat (first|exact Below.refl _ _|apply below_alloc|apply pw_below_drewN)⟩
def BC (w:World) (b off:Nat) (l:List Int):Prop:= ∀j:Nat,j<l.length→w.cell? ⟨b,off+j,none⟩=some (.int .u8 (rd l j))
theorem BC.of {w:World} {A:Option Addr} {l:List Int} (hr:Kd.C (Kd.int .u8) w A l.length l) (hl:0<l.length): ∃b off,A=some ⟨b,off,none⟩∧BC w b off l:=by
 obtain ⟨ad,rfl,h0⟩:=Kd.at_int hr 0 (by omega) (by omega);obtain ⟨b,off,spot⟩:=ad
 have hspot:spot=none:=by simpa [Addr.add] using World.cell?_spot h0
 subst hspot;refine ⟨b,off,rfl,fun j hj=>?_⟩;obtain ⟨ad,e,hj'⟩:=Kd.at_int hr j (by omega) (by omega);cases e;rw [add_at] at hj'
 simpa using hj'
theorem BC.below {w W:World} {b off:Nat} {l:List Int} (h:BC w b off l) (hb:Below w.heap.size w W):BC W b off l:=fun j hj=>pw_cell_below hb (h j hj)
theorem rd_drop (l:List Int) (k:Nat) (j:Int) (hj:0≤j):rd (l.drop k) j=rd l (k+j):=by
 simp only [rd,List.getD_eq_getElem?_getD,List.getElem?_drop]
 congr 2;omega
theorem BC.drop {w:World} {b off:Nat} {l:List Int} (h:BC w b off l) (k:Nat):BC w b (off+k) (l.drop k):=fun j hj=>by
 rw [rd_drop _ _ _ (by omega)];have:=h (k+j) (by rw [List.length_drop] at hj;omega);rw [Nat.add_assoc];exact this
theorem utf8_decB (b off c n:Nat) (l:List Int) (w:World) (hn:n=l.length) (hc:BC w b off l) (hb:Bytes l) (hG:G0 w):
 Calls Tryz.prog 120 #[.slice (some ⟨b,off,none⟩) n c] w fun e w'=>e= .returned (.tuple #[.int .i32 (dec l).1,.int .i64 (dec l).2])∧Below w.heap.size w w':=by
 have h:=Any7.utf8_DecodeRune Tryz.lays32 (ofL l) b off c w hG (fun j hj=>by
  rw [ofL_get l hb j (by rw [ofL_size] at hj;exact hj)]
  exact hc j (by rw [ofL_size] at hj;exact hj))
 rw [ofL_size] at h;rw [hn];exact h
theorem full_anyB (b off c n:Nat) (l:List Int) (w:World) (hn:n=l.length) (hc:BC w b off l) (hb:Bytes l) (hl:0<l.length) (hG:G0 w):
 Calls Tryz.prog 121 #[.slice (some ⟨b,off,none⟩) n c] w (AnyBool w):=by
 subst hn;by_cases h4:4≤l.length
 · exact full4 b off c l.length _ w (by omega) (hc 0 (by omega)) (hb.at_ _).1 (hb.at_ _).2 hG
 · match l,hl,h4,hc,hb with
   |[_],_,_,hc,hb=>exact full1 b off c _ w (hc 0 (by simp)) (hb.at_ _).1 (hb.at_ _).2 hG
   |[_,_],_,_,hc,hb=>exact full2 b off c _ _ w (hc 0 (by simp)) (hc 1 (by simp)) (hb.at_ _).1 (hb.at_ _).2 (hb.at_ _).1 (hb.at_ _).2 hG
   |[_,_,_],_,_,hc,hb=>exact full3 b off c _ _ _ w (hc 0 (by simp)) (hc 1 (by simp)) (hc 2 (by simp)) (hb.at_ _).1 (hb.at_ _).2 (hb.at_ _).1 (hb.at_ _).2 (hb.at_ _).1 (hb.at_ _).2 hG
   |_::_::_::_::_,_,h4,_,_=>exact absurd (by simp) h4
def DecPost (l:List Int) (w:World) (e:Ending) (w':World):Prop:=
 (match decR l with
    |some (r,n)=>e= .returned (.tuple #[.int .i32 r,.int .i64 n,.int .i64 0])
    |none=> ∃q:Int,q≠0∧e= .returned (.tuple #[.int .i32 0,.int .i64 0,.int .i64 q]))∧Below w.heap.size w w'
set_option maxHeartbeats 1600000 in
set_option maxRecDepth 100000 in
theorem rdec_yes (b off c n:Nat) (at_ r m:Int) (w:World) (h0:0≤at_) (h1:at_<n) (hcap:n≤c) (hrm:r≠65533∨1<m)
 (hD:Calls Tryz.prog 120 #[.slice (some ⟨b,off+at_.toNat,none⟩) (n-at_.toNat) (c-at_.toNat)] w fun e w'=>e= .returned (.tuple #[.int .i32 r,.int .i64 m])∧Below w.heap.size w w'):
 Calls Tryz.prog 106 #[.slice (some ⟨b,off,none⟩) n c,.int .i64 at_] w fun e w'=>e= .returned (.tuple #[.int .i32 r,.int .i64 m,.int .i64 0])∧Below w.heap.size w w':=by
 have hx:decide (at_<0)=false:=decide_eq_false (by omega);have hy:decide ((n:Int)≤at_)=false:=decide_eq_false (by omega);by_cases hr:r=65533
 · have hm:decide (1<m)=true:=decide_eq_true (by omega)
   have d1:(r != 65533)=false:=by rw [bne_eq_false_iff_eq];exact hr
   clear hr hrm;go_enter Tryz.func106,Tryz.ntmps106
   go_wp2_with (go_at_call 120;refine hD.mono ?_;rintro e w1 ⟨rfl,hb1⟩)
   go_ret3
   exact ⟨rfl,hb1⟩
 · have d1:(r != 65533)=true:=by rw [bne_iff_ne];exact hr
   clear hr hrm;go_enter Tryz.func106,Tryz.ntmps106
   go_wp2_with (go_at_call 120;refine hD.mono ?_;rintro e w1 ⟨rfl,hb1⟩)
   go_ret3
   exact ⟨rfl,hb1⟩
set_option maxHeartbeats 1600000 in
set_option maxRecDepth 100000 in
theorem rdec_no (b off c n:Nat) (at_ r m:Int) (w:World) (h0:0≤at_) (h1:at_<n) (hcap:n≤c) (hr:r=65533) (hm:m≤1)
 (hD:Calls Tryz.prog 120 #[.slice (some ⟨b,off+at_.toNat,none⟩) (n-at_.toNat) (c-at_.toNat)] w fun e w'=>e= .returned (.tuple #[.int .i32 r,.int .i64 m])∧Below w.heap.size w w')
 (hF: ∀W,Below w.heap.size w W→Calls Tryz.prog 121 #[.slice (some ⟨b,off+at_.toNat,none⟩) (n-at_.toNat) (c-at_.toNat)] W (AnyBool W)):
 Calls Tryz.prog 106 #[.slice (some ⟨b,off,none⟩) n c,.int .i64 at_] w fun e w'=>(∃q:Int,q≠0∧e= .returned (.tuple #[.int .i32 0,.int .i64 0,.int .i64 q]))∧Below w.heap.size w w':=by
 have hx:decide (at_<0)=false:=decide_eq_false (by omega);have hy:decide ((n:Int)≤at_)=false:=decide_eq_false (by omega);have hm':decide (1<m)=false:=decide_eq_false (by omega)
 have d1:(r != 65533)=false:=by rw [bne_eq_false_iff_eq];exact hr
 have HF:=Aside0.mk hF;clear hr hm hF;go_enter Tryz.func106,Tryz.ntmps106
 go_wp2_with (first|(go_at_call 120;refine hD.mono ?_;rintro e w1 ⟨rfl,hb1⟩)|(go_at_call 121;refine (HF.out _ hb1).mono ?_;rintro e w2 ⟨⟨bb,rfl⟩,hb2⟩))
 all_goals go_ret3
 all_goals exact ⟨⟨_,by decide,rfl⟩,below_then hb1 hb1.size hb2⟩
theorem rdec_in (b off c n:Nat) (l:List Int) (at_:Int) (w:World) (hn:n=l.length) (h0:0≤at_) (h1:at_<n) (hcap:n≤c) (hc:BC w b off l) (hb:Bytes l) (hG:G0 w):
 Calls Tryz.prog 106 #[.slice (some ⟨b,off,none⟩) n c,.int .i64 at_] w (DecPost (l.drop at_.toNat) w):=by
 have hdl:n-at_.toNat=(l.drop at_.toNat).length:=by rw [List.length_drop,hn]
 have hlen:0<(l.drop at_.toNat).length:=by omega
 have hne:l.drop at_.toNat≠[]:=List.length_pos_iff.mp hlen;have hD:=utf8_decB b (off+at_.toNat) (c-at_.toNat) (n-at_.toNat) (l.drop at_.toNat) w hdl (hc.drop _) (hb.drop _) hG;by_cases hr:(dec (l.drop at_.toNat)).1=65533∧(dec (l.drop at_.toNat)).2≤1
 · refine (rdec_no b off c n at_ _ _ w h0 h1 hcap hr.1 hr.2 hD (fun W hW=>full_anyB b _ _ _ (l.drop at_.toNat) W hdl ((hc.drop _).below hW) (hb.drop _) hlen (G0_keep hG hW))).mono ?_;rintro e w' ⟨he,hb'⟩;unfold DecPost decR;rw [if_neg hne,if_pos hr];exact ⟨he,hb'⟩
 · refine (rdec_yes b off c n at_ _ _ w h0 h1 hcap (by omega) hD).mono ?_;rintro e w' ⟨he,hb'⟩;unfold DecPost decR;rw [if_neg hne,if_neg hr];exact ⟨he,hb'⟩
end Go.Proofs.YtgmiekggdgmhkaaGreatDoor.Q
end
section
namespace Go.Proofs.YtgmiekggdgmhkaaGreatDoor.R
open Go.RowKit Go.Proofs.YtgmiekggdgmhkaaGreatDoorW.PrintWords Go.Proofs.YtgmiekggdgmhkaaGreatDoorW.PrintLast Go.Proofs.YtgmiekggdgmhkaaGreatDoorW.PrintMore
open Go.Proofs.YtgmiekggdgmhkaaGreatDoor.Q (BC Bytes Bytes.at_ BC.of bool_of)
set_option linter.unusedVariables false
set_option linter.unusedSimpArgs false
def contB (x:Int):Prop:=128≤x∧x<192
instance (x:Int):Decidable (contB x):=by unfold contB;infer_instance
def numB:List Int→Int
 |[a]=>if a<128 then a else-1
 |[a,b]=>if (192≤a∧a<224)∧contB b then 64*(a-192)+b-128 else-1
 |[a,b,c]=>if (224≤a∧a<240)∧contB b∧contB c then 64*(64*(a-224)+b-128)+c-128 else-1
 |[a,b,c,d]=>if (240≤a∧a<248)∧contB b∧contB c∧contB d then 64*(64*(64*(a-240)+b-128)+c-128)+d-128 else-1
 |_=> -1
set_option maxHeartbeats 4000000 in
set_option maxRecDepth 100000 in
theorem num1 (b off c:Nat) (a:Int) (w:World) (h0:w.cell? ⟨b,off,none⟩=some (.int .u8 a)) (p0:0≤a) (p1:a<256):
 Calls Tryz.prog 123 #[.slice (some ⟨b,off,none⟩) 1 c] w fun e w'=>e= .returned (.int .i32 (numB [a]))∧Below w.heap.size w w':=by
 have hlt:b<w.heap.size:=World.block_lt_of_cell? w _ h0
 rcases bool_of (a<128) with d|d
 · have e:numB [a]=a:=if_pos (of_decide_eq_true d);rw [e];clear e;go_enter Tryz.func123,Tryz.ntmps123;go_wp2;refine wp_loop_rounds 5 ?_
   repeat (rw [rounds_succ];go_wp2)
   go_ret;exact ⟨rfl,(Below.refl _ _).alloc (Nat.le_refl _) _⟩
 · have e:numB [a]= -1:=if_neg (of_decide_eq_false d);rw [e];clear e;go_enter Tryz.func123,Tryz.ntmps123;go_wp2;refine wp_loop_rounds 5 ?_
   repeat (rw [rounds_succ];go_wp2)
   go_ret;exact ⟨rfl,(Below.refl _ _).alloc (Nat.le_refl _) _⟩
set_option maxHeartbeats 16000000 in
set_option maxRecDepth 100000 in
theorem num2 (b off c:Nat) (a x1:Int) (w:World) (h0:w.cell? ⟨b,off,none⟩=some (.int .u8 a)) (p0:0≤a) (p1:a<256) (h1:w.cell? ⟨b,off+1,none⟩=some (.int .u8 x1)) (q1:0≤x1) (s1:x1<256):
 Calls Tryz.prog 123 #[.slice (some ⟨b,off,none⟩) 2 c] w fun e w'=>e= .returned (.int .i32 (numB [a,x1]))∧Below w.heap.size w w':=by
 have hlt:b<w.heap.size:=World.block_lt_of_cell? w _ h0;by_cases hr:(192≤a∧a<224)∧contB x1
 · have e:numB [a,x1]=64*(a-192)+x1-128:=if_pos hr;rw [e];clear e;obtain ⟨⟨r1,r2⟩,t1,u1⟩:=hr;go_enter Tryz.func123,Tryz.ntmps123;go_wp2;refine wp_loop_rounds 5 ?_
   repeat (rw [rounds_succ];go_wp2)
   refine wp_loop_rounds 5 ?_
   repeat (rw [rounds_succ];go_wp2)
   go_ret;exact ⟨rfl,(Below.refl _ _).alloc (Nat.le_refl _) _⟩
 · have e:numB [a,x1]= -1:=if_neg hr;rw [e];clear e
   rcases bool_of (a<192) with d1|d1
   · clear hr;go_enter Tryz.func123,Tryz.ntmps123;go_wp2;refine wp_loop_rounds 5 ?_
     repeat (rw [rounds_succ];go_wp2)
     go_ret;exact ⟨rfl,(Below.refl _ _).alloc (Nat.le_refl _) _⟩
   · skip
     rcases bool_of (224≤a) with d2|d2
     · clear hr;go_enter Tryz.func123,Tryz.ntmps123;go_wp2;refine wp_loop_rounds 5 ?_
       repeat (rw [rounds_succ];go_wp2)
       go_ret;exact ⟨rfl,(Below.refl _ _).alloc (Nat.le_refl _) _⟩
     · skip
       rcases bool_of (x1<128) with d3|d3
       · clear hr;go_enter Tryz.func123,Tryz.ntmps123;go_wp2;refine wp_loop_rounds 5 ?_
         repeat (rw [rounds_succ];go_wp2)
         refine wp_loop_rounds 5 ?_
         repeat (rw [rounds_succ];go_wp2)
         go_ret;exact ⟨rfl,(Below.refl _ _).alloc (Nat.le_refl _) _⟩
       · skip
         have d4:decide (192≤x1)=true:=decide_eq_true (by
          have:=of_decide_eq_false d1;have:=of_decide_eq_false d2;have:=of_decide_eq_false d3
          unfold contB at hr;omega)
         clear hr;go_enter Tryz.func123,Tryz.ntmps123;go_wp2;refine wp_loop_rounds 5 ?_
         repeat (rw [rounds_succ];go_wp2)
         refine wp_loop_rounds 5 ?_
         repeat (rw [rounds_succ];go_wp2)
         go_ret;exact ⟨rfl,(Below.refl _ _).alloc (Nat.le_refl _) _⟩
set_option maxHeartbeats 16000000 in
set_option maxRecDepth 100000 in
theorem num3 (b off c:Nat) (a x1 x2:Int) (w:World) (h0:w.cell? ⟨b,off,none⟩=some (.int .u8 a)) (p0:0≤a) (p1:a<256) (h1:w.cell? ⟨b,off+1,none⟩=some (.int .u8 x1)) (q1:0≤x1) (s1:x1<256) (h2:w.cell? ⟨b,off+2,none⟩=some (.int .u8 x2)) (q2:0≤x2) (s2:x2<256):
 Calls Tryz.prog 123 #[.slice (some ⟨b,off,none⟩) 3 c] w fun e w'=>e= .returned (.int .i32 (numB [a,x1,x2]))∧Below w.heap.size w w':=by
 have hlt:b<w.heap.size:=World.block_lt_of_cell? w _ h0;by_cases hr:(224≤a∧a<240)∧contB x1∧contB x2
 · have e:numB [a,x1,x2]=64*(64*(a-224)+x1-128)+x2-128:=if_pos hr;rw [e];clear e;obtain ⟨⟨r1,r2⟩,⟨t1,u1⟩,t2,u2⟩:=hr;go_enter Tryz.func123,Tryz.ntmps123;go_wp2;refine wp_loop_rounds 5 ?_
   repeat (rw [rounds_succ];go_wp2)
   refine wp_loop_rounds 5 ?_
   repeat (rw [rounds_succ];go_wp2)
   go_ret;exact ⟨rfl,(Below.refl _ _).alloc (Nat.le_refl _) _⟩
 · have e:numB [a,x1,x2]= -1:=if_neg hr;rw [e];clear e
   rcases bool_of (a<224) with d1|d1
   · clear hr;go_enter Tryz.func123,Tryz.ntmps123;go_wp2;refine wp_loop_rounds 5 ?_
     repeat (rw [rounds_succ];go_wp2)
     go_ret;exact ⟨rfl,(Below.refl _ _).alloc (Nat.le_refl _) _⟩
   · skip
     rcases bool_of (240≤a) with d2|d2
     · clear hr;go_enter Tryz.func123,Tryz.ntmps123;go_wp2;refine wp_loop_rounds 5 ?_
       repeat (rw [rounds_succ];go_wp2)
       go_ret;exact ⟨rfl,(Below.refl _ _).alloc (Nat.le_refl _) _⟩
     · skip
       rcases bool_of (x1<128) with d3|d3
       · clear hr;go_enter Tryz.func123,Tryz.ntmps123;go_wp2;refine wp_loop_rounds 5 ?_
         repeat (rw [rounds_succ];go_wp2)
         refine wp_loop_rounds 5 ?_
         repeat (rw [rounds_succ];go_wp2)
         go_ret;exact ⟨rfl,(Below.refl _ _).alloc (Nat.le_refl _) _⟩
       · skip
         rcases bool_of (192≤x1) with d4|d4
         · clear hr;go_enter Tryz.func123,Tryz.ntmps123;go_wp2;refine wp_loop_rounds 5 ?_
           repeat (rw [rounds_succ];go_wp2)
           refine wp_loop_rounds 5 ?_
           repeat (rw [rounds_succ];go_wp2)
           go_ret;exact ⟨rfl,(Below.refl _ _).alloc (Nat.le_refl _) _⟩
         · skip
           rcases bool_of (x2<128) with d5|d5
           · clear hr;go_enter Tryz.func123,Tryz.ntmps123;go_wp2;refine wp_loop_rounds 5 ?_
             repeat (rw [rounds_succ];go_wp2)
             refine wp_loop_rounds 5 ?_
             repeat (rw [rounds_succ];go_wp2)
             go_ret;exact ⟨rfl,(Below.refl _ _).alloc (Nat.le_refl _) _⟩
           · skip
             have d6:decide (192≤x2)=true:=decide_eq_true (by
                have:=of_decide_eq_false d1;have:=of_decide_eq_false d2;have:=of_decide_eq_false d3;have:=of_decide_eq_false d4;have:=of_decide_eq_false d5
                unfold contB at hr;omega)
             clear hr;go_enter Tryz.func123,Tryz.ntmps123;go_wp2;refine wp_loop_rounds 5 ?_
             repeat (rw [rounds_succ];go_wp2)
             refine wp_loop_rounds 5 ?_
             repeat (rw [rounds_succ];go_wp2)
             go_ret;exact ⟨rfl,(Below.refl _ _).alloc (Nat.le_refl _) _⟩
set_option maxHeartbeats 16000000 in
set_option maxRecDepth 100000 in
theorem num4 (b off c:Nat) (a x1 x2 x3:Int) (w:World) (h0:w.cell? ⟨b,off,none⟩=some (.int .u8 a)) (p0:0≤a) (p1:a<256) (h1:w.cell? ⟨b,off+1,none⟩=some (.int .u8 x1)) (q1:0≤x1) (s1:x1<256) (h2:w.cell? ⟨b,off+2,none⟩=some (.int .u8 x2)) (q2:0≤x2) (s2:x2<256) (h3:w.cell? ⟨b,off+3,none⟩=some (.int .u8 x3)) (q3:0≤x3) (s3:x3<256):
 Calls Tryz.prog 123 #[.slice (some ⟨b,off,none⟩) 4 c] w fun e w'=>e= .returned (.int .i32 (numB [a,x1,x2,x3]))∧Below w.heap.size w w':=by
 have hlt:b<w.heap.size:=World.block_lt_of_cell? w _ h0;by_cases hr:(240≤a∧a<248)∧contB x1∧contB x2∧contB x3
 · have e:numB [a,x1,x2,x3]=64*(64*(64*(a-240)+x1-128)+x2-128)+x3-128:=if_pos hr;rw [e];clear e;obtain ⟨⟨r1,r2⟩,⟨t1,u1⟩,⟨t2,u2⟩,t3,u3⟩:=hr;go_enter Tryz.func123,Tryz.ntmps123;go_wp2;refine wp_loop_rounds 5 ?_
   repeat (rw [rounds_succ];go_wp2)
   refine wp_loop_rounds 5 ?_
   repeat (rw [rounds_succ];go_wp2)
   go_ret;exact ⟨rfl,(Below.refl _ _).alloc (Nat.le_refl _) _⟩
 · have e:numB [a,x1,x2,x3]= -1:=if_neg hr;rw [e];clear e
   rcases bool_of (a<240) with d1|d1
   · clear hr;go_enter Tryz.func123,Tryz.ntmps123;go_wp2;refine wp_loop_rounds 5 ?_
     repeat (rw [rounds_succ];go_wp2)
     go_ret;exact ⟨rfl,(Below.refl _ _).alloc (Nat.le_refl _) _⟩
   · skip
     rcases bool_of (248≤a) with d2|d2
     · clear hr;go_enter Tryz.func123,Tryz.ntmps123;go_wp2;refine wp_loop_rounds 5 ?_
       repeat (rw [rounds_succ];go_wp2)
       go_ret;exact ⟨rfl,(Below.refl _ _).alloc (Nat.le_refl _) _⟩
     · skip
       rcases bool_of (x1<128) with d3|d3
       · clear hr;go_enter Tryz.func123,Tryz.ntmps123;go_wp2;refine wp_loop_rounds 5 ?_
         repeat (rw [rounds_succ];go_wp2)
         refine wp_loop_rounds 5 ?_
         repeat (rw [rounds_succ];go_wp2)
         go_ret;exact ⟨rfl,(Below.refl _ _).alloc (Nat.le_refl _) _⟩
       · skip
         rcases bool_of (192≤x1) with d4|d4
         · clear hr;go_enter Tryz.func123,Tryz.ntmps123;go_wp2;refine wp_loop_rounds 5 ?_
           repeat (rw [rounds_succ];go_wp2)
           refine wp_loop_rounds 5 ?_
           repeat (rw [rounds_succ];go_wp2)
           go_ret;exact ⟨rfl,(Below.refl _ _).alloc (Nat.le_refl _) _⟩
         · skip
           rcases bool_of (x2<128) with d5|d5
           · clear hr;go_enter Tryz.func123,Tryz.ntmps123;go_wp2;refine wp_loop_rounds 5 ?_
             repeat (rw [rounds_succ];go_wp2)
             refine wp_loop_rounds 5 ?_
             repeat (rw [rounds_succ];go_wp2)
             go_ret;exact ⟨rfl,(Below.refl _ _).alloc (Nat.le_refl _) _⟩
           · skip
             rcases bool_of (192≤x2) with d6|d6
             · clear hr;go_enter Tryz.func123,Tryz.ntmps123;go_wp2;refine wp_loop_rounds 5 ?_
               repeat (rw [rounds_succ];go_wp2)
               refine wp_loop_rounds 5 ?_
               repeat (rw [rounds_succ];go_wp2)
               go_ret;exact ⟨rfl,(Below.refl _ _).alloc (Nat.le_refl _) _⟩
             · skip
               rcases bool_of (x3<128) with d7|d7
               · clear hr;go_enter Tryz.func123,Tryz.ntmps123;go_wp2;refine wp_loop_rounds 5 ?_
                 repeat (rw [rounds_succ];go_wp2)
                 refine wp_loop_rounds 5 ?_
                 repeat (rw [rounds_succ];go_wp2)
                 go_ret;exact ⟨rfl,(Below.refl _ _).alloc (Nat.le_refl _) _⟩
               · skip
                 have d8:decide (192≤x3)=true:=decide_eq_true (by
                    have:=of_decide_eq_false d1;have:=of_decide_eq_false d2;have:=of_decide_eq_false d3;have:=of_decide_eq_false d4;have:=of_decide_eq_false d5;have:=of_decide_eq_false d6;have:=of_decide_eq_false d7
                    unfold contB at hr;omega)
                 clear hr;go_enter Tryz.func123,Tryz.ntmps123;go_wp2;refine wp_loop_rounds 5 ?_
                 repeat (rw [rounds_succ];go_wp2)
                 refine wp_loop_rounds 5 ?_
                 repeat (rw [rounds_succ];go_wp2)
                 go_ret;exact ⟨rfl,(Below.refl _ _).alloc (Nat.le_refl _) _⟩
instance (l:List Int):Decidable (Bytes l):=by unfold Bytes;infer_instance
def mummerref02_number.f (l0:List Int):Option (Int):=if (1≤l0.length∧l0.length≤4)∧Bytes l0 then some (numB l0) else none
theorem mummerref02_number.calls (A0:Option Addr) (c0:Nat) (l0:List Int) (r:Int) (w:World) (hr0:Kd.C (Kd.int .u8) w A0 l0.length l0) (hc0:l0.length≤c0) (h:mummerref02_number.f l0=some r):
 Calls Tryz.prog 123 #[.slice A0 l0.length c0] w fun e w'=>e= .returned (.int .i32 r)∧Below w.heap.size w w':=by
 unfold mummerref02_number.f at h;by_cases hc:(1≤l0.length∧l0.length≤4)∧Bytes l0
 · rw [if_pos hc] at h;obtain rfl:=Option.some.inj h;obtain ⟨⟨h1,h4⟩,hb⟩:=hc;obtain ⟨b,off,rfl,hC⟩:=BC.of hr0 h1
   match l0,h1,h4,hb,hC with
   |[_],_,_,hb,hC=>exact num1 b off c0 _ w (hC 0 (by simp)) (hb.at_ 0).1 (hb.at_ 0).2
   |[_,_],_,_,hb,hC=>exact num2 b off c0 _ _ w (hC 0 (by simp)) (hb.at_ 0).1 (hb.at_ 0).2 (hC 1 (by simp)) (hb.at_ 1).1 (hb.at_ 1).2
   |[_,_,_],_,_,hb,hC=>exact num3 b off c0 _ _ _ w (hC 0 (by simp)) (hb.at_ 0).1 (hb.at_ 0).2 (hC 1 (by simp)) (hb.at_ 1).1 (hb.at_ 1).2 (hC 2 (by simp)) (hb.at_ 2).1 (hb.at_ 2).2
   |[_,_,_,_],_,_,hb,hC=>exact num4 b off c0 _ _ _ _ w (hC 0 (by simp)) (hb.at_ 0).1 (hb.at_ 0).2 (hC 1 (by simp)) (hb.at_ 1).1 (hb.at_ 1).2 (hC 2 (by simp)) (hb.at_ 2).1 (hb.at_ 2).2 (hC 3 (by simp)) (hb.at_ 3).1 (hb.at_ 3).2
   |_::_::_::_::_::_,_,h4,_,_=>simp at h4
 · rw [if_neg hc] at h;cases h
end Go.Proofs.YtgmiekggdgmhkaaGreatDoor.R
end
