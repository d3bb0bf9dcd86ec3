import Derived.RangeFuncRecord
import Derived.Shelf.Bytes.SlIndexSmall
import Derived.Test.YtdffphkbidfejaaDoorMK13
import Derived.Test.YtdffphkbidfejaaDoorMK7
section
namespace Go.Proofs.YtdffphkbidfejaaDoor.Q
open Go.RowKit Go.Proofs.YtdffphkbidfejaaDoorW.PrintWords Go.Proofs.YtdffphkbidfejaaDoorW.PrintLast Go.Proofs.YtdffphkbidfejaaDoorW.PrintMore
set_option linter.unusedVariables false
set_option linter.unusedSimpArgs false
def lineR (l:List Int):List Int:=l.takeWhile (fun x=>x != 10)
theorem lineR_pre (l:List Int):lineR l <+: l:=List.takeWhile_prefix _
theorem lineR_len (l:List Int):(lineR l).length≤l.length:=(lineR_pre l).length_le
theorem BC.pre {w:World} {b off:Nat} {l m:List Int} (h:BC w b off l) (hp:m <+: l):BC w b off m:=fun j hj=>by
 have hl:=hp.length_le;have:=h j (by omega)
 have e:rd m j=rd l j:=by
  obtain ⟨t,rfl⟩:=hp;unfold rd;rw [List.getD_eq_getElem?_getD,List.getD_eq_getElem?_getD,List.getElem?_append_left (by simpa using hj)]
 rw [e];exact this
theorem idx10: ∀l:List Int,Bytes l→Lib.indexByte (Lib.bytesOf l) 10=if (lineR l).length<l.length then ((lineR l).length:Int) else-1
 |[],_=>rfl
 |x::l,h=>by
  have ih:=idx10 l (fun y hy=>h y (List.mem_cons_of_mem _ hy));have hx:=h x (List.mem_cons_self ..);have e:Lib.bytesOf (x::l)=UInt8.ofNat x.toNat::Lib.bytesOf l:=rfl;rw [e];simp only [Lib.indexByte];by_cases c:x=10
  · subst c;rfl
  · have c2:(UInt8.ofNat x.toNat==10)=false:=by
        rw [beq_eq_false_iff_ne];intro hh;have:=congrArg UInt8.toNat hh;rw [UInt8.toNat_ofNat'] at this;have h10:(10:UInt8).toNat=10:=rfl;rw [h10] at this;omega
    have c3:lineR (x::l)=x::lineR l:=by
        unfold lineR;rw [List.takeWhile_cons_of_pos (by simpa using c)]
    rw [c2,if_neg (by decide),ih,c3,List.length_cons,List.length_cons];by_cases d:(lineR l).length<l.length
    · have:(((lineR l).length:Int)== -1)=false:=by rw [beq_eq_false_iff_ne];omega
      rw [if_pos d,this,if_neg (by decide),if_pos (by omega)];omega
    · rw [if_neg d,if_pos (by decide),if_neg (by omega)]
theorem cut10 (b off c n b2:Nat) (l:List Int) (W:World) (hn:n=l.length) (hcap:n≤c) (hsz:n≤1000000) (hc:BC W b off l) (hb:Bytes l) (h2:W.cell? ⟨b2,0,none⟩=some (.int .u8 10)):
 Calls Tryd.prog 37 #[.slice (some ⟨b,off,none⟩) n c,.slice (some ⟨b2,0,none⟩) 1 1] W fun e w'=>(∃u v,e= .returned (.tuple #[.slice (some ⟨b,off,none⟩) (lineR l).length c,u,v]))∧Below W.heap.size W w':=by
 have hl:=lineR_len l;have hi:=idx10 l hb
 have h:=Any.bytes_Cut_of Tryd.laysT4 (some ⟨b,off,none⟩) (some ⟨b2,0,none⟩) n c 1 1 (Lib.indexByte (Lib.bytesOf l) 10) W hcap (by rw [hi];split<;>omega) (by rw [hi];split<;>omega) (by omega)
  ((Any.bytes_Index_one Tryd.laysT4.index b off n c b2 0 1 l 10 W hn.symm (fun i hi=>by
    have:=hc i (by omega);unfold rd at this
    simpa using this) h2).mono fun e w' ⟨he,hw⟩=>⟨he,0,hw⟩)
 refine h.mono ?_;rintro e w' ⟨he,q,rfl⟩;refine ⟨?_,pw_below_drewN (Below.refl _ _) _⟩;rw [he,hi];unfold Lib.cutV;by_cases d:(lineR l).length<l.length
 · rw [if_pos d,if_pos (by omega)];exact ⟨_,_,rfl⟩
 · rw [if_neg d,if_neg (by omega)]
   have:n=(lineR l).length:=by omega
   rw [this];exact ⟨_,_,rfl⟩
theorem cell_new (W:World) (v:Value) (t:TypeId):(W.alloc (.cells #[v] t)).cell? ⟨W.heap.size,0,none⟩=some v:=by rw [blk_cell (World.alloc_heap_new W _)];rfl
def cmtR (l:List Int) (i:Nat):Nat:=i+whileR (lineR (l.drop i)) commentP 0
set_option maxRecDepth 100000 in
set_option maxHeartbeats 2000000 in
theorem lcmt_in (b off c n:Nat) (l:List Int) (i:Nat) (w:World) (hn:n=l.length) (hi:i<n) (hcap:n≤c) (hsz:n≤1000000) (hc:BC w b off l) (hb:Bytes l) (hG:G0 w):
 Calls Tryd.prog 25 #[.slice (some ⟨b,off,none⟩) n c,.int .i64 i] w fun e w'=>e= .returned (.int .i64 (cmtR l i:Nat))∧Below w.heap.size w w':=by
 have hdl:n-i=(l.drop i).length:=by rw [List.length_drop,hn]
 have hB1:Below w.heap.size w (w.alloc (.cells #[.int .u8 10] 5)):=below_alloc (Below.refl _ _) _;have hcut:=cut10 b (off+i) (c-i) (n-i) w.heap.size (l.drop i) (w.alloc (.cells #[.int .u8 10] 5)) hdl (by omega) (by omega) ((hc.drop i).below hB1) (hb.drop i) (cell_new w _ _);have hll:=lineR_len (l.drop i)
 have hwh: ∀(W:World),Below w.heap.size w W→Calls Tryd.prog 38 #[.slice (some ⟨b,off+i,none⟩) (lineR (l.drop i)).length (c-i),.int .i64 0,.func (.func 39) #[] #[]] W fun e w'=>e= .returned (.int .i64 (whileR (lineR (l.drop i)) commentP 0:Nat))∧Below W.heap.size W w':=fun (W:World) (hW:Below w.heap.size w W)=>lwhile_comment b (off+i) (c-i) (lineR (l.drop i)).length (lineR (l.drop i)) 0 W rfl (Nat.zero_le _) (by omega) (by omega) (((hc.drop i).pre (lineR_pre _)).below hW) (fun x hx=>hb x (List.mem_of_mem_drop ((lineR_pre _).subset hx))) (G0_keep hG hW)
 have hin:=(whileR_in (lineR (l.drop i)) commentP 0 (Nat.zero_le _)).2
 have e1:wrap64 ((i:Int)+(whileR (lineR (l.drop i)) commentP 0:Nat))=(cmtR l i:Nat):=by unfold cmtR wrap64;omega
 have hx:decide ((i:Int)≤n)=true:=decide_eq_true (by omega)
 have hiI:(i:Int)≤n:=by omega
 generalize cmtR l i=R at *; generalize whileR (lineR (l.drop i)) commentP 0=K at *; generalize (lineR (l.drop i)).length=m at *; have HCUT:=Aside0.mk hcut;have HWH:=Aside0.mk hwh;have HB1:=Aside0.mk hB1;clear hcut hwh hB1 hc hb hG hin hll hdl hsz hn;go_enter Tryd.func25,Tryd.ntmps25
 go_wp2_with (first
  |(go_at_call 37;refine HCUT.out.mono ?_;rintro e w1 ⟨⟨u,v,rfl⟩,hb1⟩;have HB2:=Aside0.mk (below_step HB1.out hb1);clear hb1)
  |(go_at_call 38;refine (HWH.out _ HB2.out).mono ?_;rintro e w2 ⟨rfl,hb2⟩;have HB3:=Aside0.mk (below_step HB2.out hb2);clear hb2))
 go_ret;exact ⟨by rw [e1];rfl,HB3.out⟩
set_option maxRecDepth 100000 in
set_option maxHeartbeats 1000000 in
theorem lcmt_end (b off c n:Nat) (w:World) (hcap:n≤c) (hsz:n≤1000000) (hG:G0 w):
 Calls Tryd.prog 25 #[.slice (some ⟨b,off,none⟩) n c,.int .i64 n] w fun e w'=>e= .returned (.int .i64 n)∧Below w.heap.size w w':=by
 have hB1:Below w.heap.size w (w.alloc (.cells #[.int .u8 10] 5)):=below_alloc (Below.refl _ _) _
 have hcut: ∀(o d:Nat),Calls Tryd.prog 37 #[.slice (some ⟨b,o,none⟩) 0 d,.slice (some ⟨w.heap.size,0,none⟩) 1 1] (w.alloc (.cells #[.int .u8 10] 5)) fun e w'=>(∃u v,e= .returned (.tuple #[.slice (some ⟨b,o,none⟩) 0 d,u,v]))∧Below (w.alloc (.cells #[.int .u8 10] 5)).heap.size (w.alloc (.cells #[.int .u8 10] 5)) w':=fun o d=>
  cut10 b o d 0 w.heap.size [] (w.alloc (.cells #[.int .u8 10] 5)) rfl (Nat.zero_le _) (Nat.zero_le _) (fun j hj=>absurd hj (Nat.not_lt_zero _)) (fun x hx=>by cases hx) (cell_new w _ _)
 have hwh: ∀(o d:Nat) (W:World),Below w.heap.size w W→Calls Tryd.prog 38 #[.slice (some ⟨b,o,none⟩) 0 d,.int .i64 0,.func (.func 39) #[] #[]] W fun e w'=>e= .returned (.int .i64 0)∧Below W.heap.size W w':=fun o d W hW=>
  lwhile_comment b o d 0 [] 0 W rfl (Nat.zero_le _) (Nat.zero_le _) (Nat.zero_le _) (fun j hj=>absurd hj (Nat.not_lt_zero _)) (fun x hx=>by cases hx) (G0_keep hG hW)
 have e1:wrap64 ((n:Int)+0)=n:=by unfold wrap64;omega
 have e2:wrap64 (n:Int)=n:=by unfold wrap64;omega
 have hn:n-n=0:=Nat.sub_self n;have HCUT:=Aside0.mk hcut;have HWH:=Aside0.mk hwh;have HB1:=Aside0.mk hB1;have hx:decide ((n:Int)≤n)=true:=decide_eq_true (Int.le_refl _);clear hcut hwh hB1 hG hsz;by_cases hcn:c=n
 · subst hcn;go_enter Tryd.func25,Tryd.ntmps25
   go_wp2_with (first
    |(go_at_call 37;refine (HCUT.out _ _).mono ?_;rintro e w1 ⟨⟨u,v,rfl⟩,hb1⟩;have HB2:=Aside0.mk (below_step HB1.out hb1);clear hb1)
    |(go_at_call 38;refine (HWH.out _ _ _ HB2.out).mono ?_;rintro e w2 ⟨rfl,hb2⟩;have HB3:=Aside0.mk (below_step HB2.out hb2);clear hb2))
   go_ret;exact ⟨by first|rfl|(rw [e1];rfl)|(rw [e2];rfl),HB3.out⟩
 · have hlt:n<c:=by omega
   go_enter Tryd.func25,Tryd.ntmps25
   go_wp2_with (first
    |(go_at_call 37;refine (HCUT.out _ _).mono ?_;rintro e w1 ⟨⟨u,v,rfl⟩,hb1⟩;have HB2:=Aside0.mk (below_step HB1.out hb1);clear hb1)
    |(go_at_call 38;refine (HWH.out _ _ _ HB2.out).mono ?_;rintro e w2 ⟨rfl,hb2⟩;have HB3:=Aside0.mk (below_step HB2.out hb2);clear hb2))
   go_ret;exact ⟨by first|rfl|(rw [e1];rfl)|(rw [e2];rfl),HB3.out⟩
end Go.Proofs.YtdffphkbidfejaaDoor.Q
end
