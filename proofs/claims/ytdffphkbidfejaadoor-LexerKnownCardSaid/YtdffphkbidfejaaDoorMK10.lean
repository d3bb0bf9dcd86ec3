import Derived.Test.YtdffphkbidfejaaDoorMK1
import Derived.Test.YtdffphkbidfejaaDoorMK6
import Derived.Test.YtdffphkbidfejaaDoorMK9
section
namespace Go.Proofs.YtdffphkbidfejaaDoor.Q
open Go.RowKit Go.Proofs.YtdffphkbidfejaaDoorW.PrintWords Go.Proofs.YtdffphkbidfejaaDoorW.PrintLast Go.Proofs.YtdffphkbidfejaaDoorW.PrintMore
set_option linter.unusedVariables false
set_option linter.unusedSimpArgs false
theorem bool_of (p:Prop) [Decidable p]:decide p=true∨decide p=false:=by cases h:decide p<;>simp
theorem first_at {w:World} (x0:Int) (p0:0≤x0) (hx:x0<256) (hG:G0 w): ∃f:Int,w.cell? ⟨0,x0.toNat,none⟩=some (.int .u8 f)∧(f=240∨f=241∨f=2∨f=19∨f=3∨f=35∨f=52∨f=4∨f=68):=
 ⟨_,hG.1 x0.toNat (by omega),by rcases Lib.firstT_cases x0.toNat with e|e|e|e|e|e|e|e|e<;>rw [e]<;>simp⟩
def AnyBool (w:World) (e:Ending) (w':World):Prop:=(∃r,e= .returned (.bool r))∧Below w.heap.size w w'
set_option maxHeartbeats 4000000 in
set_option maxRecDepth 100000 in
theorem full1 (b off c:Nat) (x0:Int) (w:World) (h0:w.cell? ⟨b,off,none⟩=some (.int .u8 x0)) (p0:0≤x0) (hx:x0<256) (hG:G0 w):
 Calls Tryd.prog 54 #[.slice (some ⟨b,off,none⟩) 1 c] w (AnyBool w):=by
 have hlt:b<w.heap.size:=World.block_lt_of_cell? w _ h0;obtain ⟨f,hT,e⟩:=first_at x0 p0 hx hG;have ha0:w.cell? ⟨1,0,none⟩=some (.int .u8 128):=(hG.2 0 (by omega)).1;have hb0:w.cell? ⟨1,1,none⟩=some (.int .u8 191):=(hG.2 0 (by omega)).2;have ha1:w.cell? ⟨1,2,none⟩=some (.int .u8 160):=(hG.2 1 (by omega)).1;have hb1:w.cell? ⟨1,3,none⟩=some (.int .u8 191):=(hG.2 1 (by omega)).2;have ha2:w.cell? ⟨1,4,none⟩=some (.int .u8 128):=(hG.2 2 (by omega)).1;have hb2:w.cell? ⟨1,5,none⟩=some (.int .u8 159):=(hG.2 2 (by omega)).2;have ha3:w.cell? ⟨1,6,none⟩=some (.int .u8 144):=(hG.2 3 (by omega)).1;have hb3:w.cell? ⟨1,7,none⟩=some (.int .u8 191):=(hG.2 3 (by omega)).2;have ha4:w.cell? ⟨1,8,none⟩=some (.int .u8 128):=(hG.2 4 (by omega)).1;have hb4:w.cell? ⟨1,9,none⟩=some (.int .u8 143):=(hG.2 4 (by omega)).2;clear hG
 rcases e with rfl|rfl|rfl|rfl|rfl|rfl|rfl|rfl|rfl
 all_goals
  go_enter Tryd.func54,Tryd.ntmps54;go_wp2
  repeat (go_quiet (fail);try go_wp2)
  go_ret;exact ⟨⟨_,rfl⟩,by repeat (first|exact Below.refl _ _|apply below_alloc|apply pw_below_drewN)⟩
set_option maxHeartbeats 8000000 in
set_option maxRecDepth 100000 in
theorem full2 (b off c:Nat) (x0 x1:Int) (w:World) (h0:w.cell? ⟨b,off,none⟩=some (.int .u8 x0)) (h1:w.cell? ⟨b,off+1,none⟩=some (.int .u8 x1)) (p0:0≤x0) (hx:x0<256) (p1:0≤x1) (hx1:x1<256) (hG:G0 w):
 Calls Tryd.prog 54 #[.slice (some ⟨b,off,none⟩) 2 c] w (AnyBool w):=by
 have hlt:b<w.heap.size:=World.block_lt_of_cell? w _ h0;obtain ⟨f,hT,e⟩:=first_at x0 p0 hx hG;have ha0:w.cell? ⟨1,0,none⟩=some (.int .u8 128):=(hG.2 0 (by omega)).1;have hb0:w.cell? ⟨1,1,none⟩=some (.int .u8 191):=(hG.2 0 (by omega)).2;have ha1:w.cell? ⟨1,2,none⟩=some (.int .u8 160):=(hG.2 1 (by omega)).1;have hb1:w.cell? ⟨1,3,none⟩=some (.int .u8 191):=(hG.2 1 (by omega)).2;have ha2:w.cell? ⟨1,4,none⟩=some (.int .u8 128):=(hG.2 2 (by omega)).1;have hb2:w.cell? ⟨1,5,none⟩=some (.int .u8 159):=(hG.2 2 (by omega)).2;have ha3:w.cell? ⟨1,6,none⟩=some (.int .u8 144):=(hG.2 3 (by omega)).1;have hb3:w.cell? ⟨1,7,none⟩=some (.int .u8 191):=(hG.2 3 (by omega)).2;have ha4:w.cell? ⟨1,8,none⟩=some (.int .u8 128):=(hG.2 4 (by omega)).1;have hb4:w.cell? ⟨1,9,none⟩=some (.int .u8 143):=(hG.2 4 (by omega)).2;clear hG
 rcases e with rfl|rfl|rfl|rfl|rfl|rfl|rfl|rfl|rfl
 case' inr.inr.inr.inl=>rcases bool_of (x1<160) with d1|d1<;>rcases bool_of (191<x1) with d2|d2
 case' inr.inr.inr.inr.inl=>rcases bool_of (x1<128) with d1|d1<;>rcases bool_of (191<x1) with d2|d2
 case' inr.inr.inr.inr.inr.inl=>rcases bool_of (x1<128) with d1|d1<;>rcases bool_of (159<x1) with d2|d2
 case' inr.inr.inr.inr.inr.inr.inl=>rcases bool_of (x1<144) with d1|d1<;>rcases bool_of (191<x1) with d2|d2
 case' inr.inr.inr.inr.inr.inr.inr.inl=>rcases bool_of (x1<128) with d1|d1<;>rcases bool_of (191<x1) with d2|d2
 case' inr.inr.inr.inr.inr.inr.inr.inr=>rcases bool_of (x1<128) with d1|d1<;>rcases bool_of (143<x1) with d2|d2
 all_goals
  go_enter Tryd.func54,Tryd.ntmps54;go_wp2
  repeat (go_quiet (fail);try go_wp2)
  go_ret;exact ⟨⟨_,rfl⟩,by repeat (first|exact Below.refl _ _|apply below_alloc|apply pw_below_drewN)⟩
set_option maxHeartbeats 8000000 in
set_option maxRecDepth 100000 in
theorem full3 (b off c:Nat) (x0 x1 x2:Int) (w:World) (h0:w.cell? ⟨b,off,none⟩=some (.int .u8 x0)) (h1:w.cell? ⟨b,off+1,none⟩=some (.int .u8 x1)) (h2:w.cell? ⟨b,off+2,none⟩=some (.int .u8 x2)) (p0:0≤x0) (hx:x0<256) (p1:0≤x1) (hx1:x1<256) (p2:0≤x2) (hx2:x2<256) (hG:G0 w):
 Calls Tryd.prog 54 #[.slice (some ⟨b,off,none⟩) 3 c] w (AnyBool w):=by
 have hlt:b<w.heap.size:=World.block_lt_of_cell? w _ h0;obtain ⟨f,hT,e⟩:=first_at x0 p0 hx hG;have ha0:w.cell? ⟨1,0,none⟩=some (.int .u8 128):=(hG.2 0 (by omega)).1;have hb0:w.cell? ⟨1,1,none⟩=some (.int .u8 191):=(hG.2 0 (by omega)).2;have ha3:w.cell? ⟨1,6,none⟩=some (.int .u8 144):=(hG.2 3 (by omega)).1;have hb3:w.cell? ⟨1,7,none⟩=some (.int .u8 191):=(hG.2 3 (by omega)).2;have ha4:w.cell? ⟨1,8,none⟩=some (.int .u8 128):=(hG.2 4 (by omega)).1;have hb4:w.cell? ⟨1,9,none⟩=some (.int .u8 143):=(hG.2 4 (by omega)).2;clear hG
 rcases e with rfl|rfl|rfl|rfl|rfl|rfl|rfl|rfl|rfl
 case' inr.inr.inr.inr.inr.inr.inl=>rcases bool_of (x1<144) with d1|d1<;>rcases bool_of (191<x1) with d2|d2<;>rcases bool_of (x2<128) with d3|d3<;>rcases bool_of (191<x2) with d4|d4
 case' inr.inr.inr.inr.inr.inr.inr.inl=>rcases bool_of (x1<128) with d1|d1<;>rcases bool_of (191<x1) with d2|d2<;>rcases bool_of (x2<128) with d3|d3<;>rcases bool_of (191<x2) with d4|d4
 case' inr.inr.inr.inr.inr.inr.inr.inr=>rcases bool_of (x1<128) with d1|d1<;>rcases bool_of (143<x1) with d2|d2<;>rcases bool_of (x2<128) with d3|d3<;>rcases bool_of (191<x2) with d4|d4
 all_goals
  go_enter Tryd.func54,Tryd.ntmps54;go_wp2
  repeat (go_quiet (fail);try go_wp2)
  go_ret;exact ⟨⟨_,rfl⟩,by repeat (first|exact Below.refl _ _|apply below_alloc|apply pw_below_drewN)⟩
set_option maxHeartbeats 4000000 in
set_option maxRecDepth 100000 in
theorem full4 (b off c n:Nat) (x0:Int) (w:World) (hn:(4:Int)≤n) (h0:w.cell? ⟨b,off,none⟩=some (.int .u8 x0)) (p0:0≤x0) (hx:x0<256) (hG:G0 w):
 Calls Tryd.prog 54 #[.slice (some ⟨b,off,none⟩) n c] w (AnyBool w):=by
 have hlt:b<w.heap.size:=World.block_lt_of_cell? w _ h0;obtain ⟨f,hT,e⟩:=first_at x0 p0 hx hG;clear hG
 have hp:(0:Int)<n:=by omega
 have hz:((n:Int)==0)=false:=by rw [beq_eq_false_iff_ne];omega
 have d0:decide ((0:Int)≤n)=true:=decide_eq_true (by omega);have d1:decide ((1:Int)≤n)=true:=decide_eq_true (by omega);have d2:decide ((2:Int)≤n)=true:=decide_eq_true (by omega);have d3:decide ((3:Int)≤n)=true:=decide_eq_true (by omega);have d4:decide ((4:Int)≤n)=true:=decide_eq_true (by omega)
 rcases e with rfl|rfl|rfl|rfl|rfl|rfl|rfl|rfl|rfl
 all_goals
  go_enter Tryd.func54,Tryd.ntmps54;go_wp2;go_ret;exact ⟨⟨_,rfl⟩,by repeat (first|exact Below.refl _ _|apply below_alloc|apply pw_below_drewN)⟩
def BC (w:World) (b off:Nat) (l:List Int):Prop:= ∀j:Nat,j<l.length→w.cell? ⟨b,off+j,none⟩=some (.int .u8 (rd l j))
theorem BC.of {w:World} {A:Option Addr} {l:List Int} (hr:Kd.C (Kd.int .u8) w A l.length l) (hl:0<l.length): ∃b off,A=some ⟨b,off,none⟩∧BC w b off l:=by
 obtain ⟨ad,rfl,h0⟩:=Kd.at_int hr 0 (by omega) (by omega);obtain ⟨b,off,spot⟩:=ad
 have hspot:spot=none:=by simpa [Addr.add] using World.cell?_spot h0
 subst hspot;refine ⟨b,off,rfl,fun j hj=>?_⟩;obtain ⟨ad,e,hj'⟩:=Kd.at_int hr j (by omega) (by omega);cases e;rw [add_at] at hj'
 simpa using hj'
theorem BC.below {w W:World} {b off:Nat} {l:List Int} (h:BC w b off l) (hb:Below w.heap.size w W):BC W b off l:=fun j hj=>pw_cell_below hb (h j hj)
theorem rd_drop (l:List Int) (k:Nat) (j:Int) (hj:0≤j):rd (l.drop k) j=rd l (k+j):=by
 simp only [rd,List.getD_eq_getElem?_getD,List.getElem?_drop]
 congr 2;omega
theorem BC.drop {w:World} {b off:Nat} {l:List Int} (h:BC w b off l) (k:Nat):BC w b (off+k) (l.drop k):=fun j hj=>by
 rw [rd_drop _ _ _ (by omega)];have:=h (k+j) (by rw [List.length_drop] at hj;omega);rw [Nat.add_assoc];exact this
theorem utf8_decB (b off c n:Nat) (l:List Int) (w:World) (hn:n=l.length) (hc:BC w b off l) (hb:Bytes l) (hG:G0 w):
 Calls Tryd.prog 53 #[.slice (some ⟨b,off,none⟩) n c] w fun e w'=>e= .returned (.tuple #[.int .i32 (dec l).1,.int .i64 (dec l).2])∧Below w.heap.size w w':=by
 have h:=Any7.utf8_DecodeRune Tryd.lays32 (ofL l) b off c w hG (fun j hj=>by
  rw [ofL_get l hb j (by rw [ofL_size] at hj;exact hj)]
  exact hc j (by rw [ofL_size] at hj;exact hj))
 rw [ofL_size] at h;rw [hn];exact h
theorem full_anyB (b off c n:Nat) (l:List Int) (w:World) (hn:n=l.length) (hc:BC w b off l) (hb:Bytes l) (hl:0<l.length) (hG:G0 w):
 Calls Tryd.prog 54 #[.slice (some ⟨b,off,none⟩) n c] w (AnyBool w):=by
 subst hn;by_cases h4:4≤l.length
 · exact full4 b off c l.length _ w (by omega) (hc 0 (by omega)) (hb.at_ _).1 (hb.at_ _).2 hG
 · match l,hl,h4,hc,hb with
   |[_],_,_,hc,hb=>exact full1 b off c _ w (hc 0 (by simp)) (hb.at_ _).1 (hb.at_ _).2 hG
   |[_,_],_,_,hc,hb=>exact full2 b off c _ _ w (hc 0 (by simp)) (hc 1 (by simp)) (hb.at_ _).1 (hb.at_ _).2 (hb.at_ _).1 (hb.at_ _).2 hG
   |[_,_,_],_,_,hc,hb=>exact full3 b off c _ _ _ w (hc 0 (by simp)) (hc 1 (by simp)) (hc 2 (by simp)) (hb.at_ _).1 (hb.at_ _).2 (hb.at_ _).1 (hb.at_ _).2 (hb.at_ _).1 (hb.at_ _).2 hG
   |_::_::_::_::_,_,h4,_,_=>exact absurd (by simp) h4
def DecPost (l:List Int) (w:World) (e:Ending) (w':World):Prop:=
 (match decR l with
    |some (r,n)=>e= .returned (.tuple #[.int .i32 r,.int .i64 n,.int .i64 0])
    |none=> ∃q:Int,q≠0∧e= .returned (.tuple #[.int .i32 0,.int .i64 0,.int .i64 q]))∧Below w.heap.size w w'
set_option maxHeartbeats 1600000 in
set_option maxRecDepth 100000 in
theorem rdec_yes (b off c n:Nat) (at_ r m:Int) (w:World) (h0:0≤at_) (h1:at_<n) (hcap:n≤c) (hrm:r≠65533∨1<m)
 (hD:Calls Tryd.prog 53 #[.slice (some ⟨b,off+at_.toNat,none⟩) (n-at_.toNat) (c-at_.toNat)] w fun e w'=>e= .returned (.tuple #[.int .i32 r,.int .i64 m])∧Below w.heap.size w w'):
 Calls Tryd.prog 35 #[.slice (some ⟨b,off,none⟩) n c,.int .i64 at_] w fun e w'=>e= .returned (.tuple #[.int .i32 r,.int .i64 m,.int .i64 0])∧Below w.heap.size w w':=by
 have hx:decide (at_<0)=false:=decide_eq_false (by omega);have hy:decide ((n:Int)≤at_)=false:=decide_eq_false (by omega);by_cases hr:r=65533
 · have hm:decide (1<m)=true:=decide_eq_true (by omega)
   have d1:(r != 65533)=false:=by rw [bne_eq_false_iff_eq];exact hr
   clear hr hrm;go_enter Tryd.func35,Tryd.ntmps35
   go_wp2_with (go_at_call 53;refine hD.mono ?_;rintro e w1 ⟨rfl,hb1⟩)
   go_ret3
   exact ⟨rfl,hb1⟩
 · have d1:(r != 65533)=true:=by rw [bne_iff_ne];exact hr
   clear hr hrm;go_enter Tryd.func35,Tryd.ntmps35
   go_wp2_with (go_at_call 53;refine hD.mono ?_;rintro e w1 ⟨rfl,hb1⟩)
   go_ret3
   exact ⟨rfl,hb1⟩
set_option maxHeartbeats 1600000 in
set_option maxRecDepth 100000 in
theorem rdec_no (b off c n:Nat) (at_ r m:Int) (w:World) (h0:0≤at_) (h1:at_<n) (hcap:n≤c) (hr:r=65533) (hm:m≤1)
 (hD:Calls Tryd.prog 53 #[.slice (some ⟨b,off+at_.toNat,none⟩) (n-at_.toNat) (c-at_.toNat)] w fun e w'=>e= .returned (.tuple #[.int .i32 r,.int .i64 m])∧Below w.heap.size w w')
 (hF: ∀W,Below w.heap.size w W→Calls Tryd.prog 54 #[.slice (some ⟨b,off+at_.toNat,none⟩) (n-at_.toNat) (c-at_.toNat)] W (AnyBool W)):
 Calls Tryd.prog 35 #[.slice (some ⟨b,off,none⟩) n c,.int .i64 at_] w fun e w'=>(∃q:Int,q≠0∧e= .returned (.tuple #[.int .i32 0,.int .i64 0,.int .i64 q]))∧Below w.heap.size w w':=by
 have hx:decide (at_<0)=false:=decide_eq_false (by omega);have hy:decide ((n:Int)≤at_)=false:=decide_eq_false (by omega);have hm':decide (1<m)=false:=decide_eq_false (by omega)
 have d1:(r != 65533)=false:=by rw [bne_eq_false_iff_eq];exact hr
 have HF:=Aside0.mk hF;clear hr hm hF;go_enter Tryd.func35,Tryd.ntmps35
 go_wp2_with (first|(go_at_call 53;refine hD.mono ?_;rintro e w1 ⟨rfl,hb1⟩)|(go_at_call 54;refine (HF.out _ hb1).mono ?_;rintro e w2 ⟨⟨bb,rfl⟩,hb2⟩))
 all_goals go_ret3
 all_goals exact ⟨⟨_,by decide,rfl⟩,below_then hb1 hb1.size hb2⟩
theorem rdec_in (b off c n:Nat) (l:List Int) (at_:Int) (w:World) (hn:n=l.length) (h0:0≤at_) (h1:at_<n) (hcap:n≤c) (hc:BC w b off l) (hb:Bytes l) (hG:G0 w):
 Calls Tryd.prog 35 #[.slice (some ⟨b,off,none⟩) n c,.int .i64 at_] w (DecPost (l.drop at_.toNat) w):=by
 have hdl:n-at_.toNat=(l.drop at_.toNat).length:=by rw [List.length_drop,hn]
 have hlen:0<(l.drop at_.toNat).length:=by omega
 have hne:l.drop at_.toNat≠[]:=List.length_pos_iff.mp hlen;have hD:=utf8_decB b (off+at_.toNat) (c-at_.toNat) (n-at_.toNat) (l.drop at_.toNat) w hdl (hc.drop _) (hb.drop _) hG;by_cases hr:(dec (l.drop at_.toNat)).1=65533∧(dec (l.drop at_.toNat)).2≤1
 · refine (rdec_no b off c n at_ _ _ w h0 h1 hcap hr.1 hr.2 hD (fun W hW=>full_anyB b _ _ _ (l.drop at_.toNat) W hdl ((hc.drop _).below hW) (hb.drop _) hlen (G0_keep hG hW))).mono ?_;rintro e w' ⟨he,hb'⟩;unfold DecPost decR;rw [if_neg hne,if_pos hr];exact ⟨he,hb'⟩
 · refine (rdec_yes b off c n at_ _ _ w h0 h1 hcap (by omega) hD).mono ?_;rintro e w' ⟨he,hb'⟩;unfold DecPost decR;rw [if_neg hne,if_neg hr];exact ⟨he,hb'⟩
end Go.Proofs.YtdffphkbidfejaaDoor.Q
end
