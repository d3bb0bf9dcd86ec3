import Derived.Deep.Cut
import Derived.Deep.CutRange
import Derived.Test.YtgmiekggdgmhkaaGreatDoorMN13
import Derived.Test.YtgmiekggdgmhkaaGreatDoorMN16
import Derived.Test.YtgmiekggdgmhkaaGreatDoorMN28
import Derived.Test.YtgmiekggdgmhkaaGreatDoorMN31
import Derived.Test.YtgmiekggdgmhkaaGreatDoorMN32
import Derived.Test.YtgmiekggdgmhkaaGreatDoorMN5
section
namespace Go.Proofs.YtgmiekggdgmhkaaGreatDoor.Q
open Go.RowKit Go.Proofs.YtgmiekggdgmhkaaGreatDoorW.PrintWords
set_option linter.unusedVariables false
set_option linter.unusedSimpArgs false
theorem cmpI_Z (a b:Int):U.cmpI a b=cmpZ a b:=rfl
theorem cmpS_T (a b:ByteArray):U.cmpS a b=cmpT a b:=by
 unfold U.cmpS;by_cases h:Op.bytesLess a.toList b.toList=true
 · rw [if_pos h];have h1:=(less_T a b).mp h;have h2:=cmpT_cmp.lo a b;omega
 · rw [if_neg h]
   have h1: ¬cmpT a b<0:=fun hh=>h ((less_T a b).mpr hh)
   by_cases e:(a.toList==b.toList)=true
   · rw [if_pos e];exact ((cmpT_zero a b).mpr (bytes_inj (by simpa using e))).symm
   · rw [if_neg e];have h2:=cmpT_cmp.hi a b
     have h3:cmpT a b≠0:=fun hh=>e (by rw [(cmpT_zero a b).mp hh];simp)
     omega
def cmpM (x y:DN):Int:=if cmpZ x.f0 y.f0≠0 then cmpZ x.f0 y.f0 else (fun x y:DN=>if cmpZ x.f2 y.f2≠0 then cmpZ x.f2 y.f2 else cmpT x.f3 y.f3) x y
theorem cmpN_M (x y:DN):cmpN x y=cmpM x y:=by
 unfold cmpN cmpM U.or3;rw [cmpI_Z,cmpI_Z,cmpS_T];dsimp only;by_cases h:cmpZ x.f0 y.f0=0
 · rw [if_pos h,if_neg (show ¬cmpZ x.f0 y.f0≠0 from fun hh=>hh h)];by_cases h2:cmpZ x.f2 y.f2=0
   · rw [if_pos h2,if_neg (show ¬cmpZ x.f2 y.f2≠0 from fun hh=>hh h2)]
   · rw [if_neg h2,if_pos h2]
 · rw [if_neg h,if_pos h]
theorem cmpM_zero (x y:DN):cmpM x y=0↔x.f0=y.f0∧x.f2=y.f2∧x.f3=y.f3:=by
 unfold cmpM;dsimp only;rw [←cmpZ_zero x.f0,←cmpZ_zero x.f2,←cmpT_zero];by_cases h:cmpZ x.f0 y.f0=0
 · rw [if_neg (show ¬cmpZ x.f0 y.f0≠0 from fun hh=>hh h)];by_cases h2:cmpZ x.f2 y.f2=0
   · rw [if_neg (show ¬cmpZ x.f2 y.f2≠0 from fun hh=>hh h2)];simp [h,h2]
   · rw [if_pos h2];simp [h2]
 · rw [if_pos h];simp [h]
def cmpO:Option DN→Option DN→Int
 |none,none=>0
 |none,some _=> -1
 |some _,none=>1
 |some x,some y=>cmpM x y
def tok:List Nat→List DN→List (Option DN)
 |[],_=>[]
 |0::s,l=>none::tok s l
 |(_+1)::_,[]=>[]
 |(c+1)::s,x::l=>some x::tok (x.f1.toNat::c::s) l
termination_by s l=>2*l.length+s.length
decreasing_by all_goals simp_wf;(try omega)
theorem tok_zero (s:List Nat) (l:List DN):tok (0::s) l=none::tok s l:=by rw [tok]
theorem tok_succ (c:Nat) (s:List Nat) (x:DN) (l:List DN):tok ((c+1)::s) (x::l)=some x::tok (x.f1.toNat::c::s) l:=by rw [tok]
theorem drop_at {t:List DN} {i:Nat} (hi:i<t.length):t.drop i=rd_T40 t i::t.drop (i+1):=by
 rw [List.drop_eq_getElem_cons hi]
 congr 1
 simp [rd_T40,List.getD_eq_getElem?_getD,hi]
theorem rdT_N {t:List DN} {i:Nat} (hi:i<t.length):(rd_T40 t i).f1.toNat=kidN (kidsOf t) i:=by
 unfold kidN;rw [rdT_kids t i hi]
def restT (ks:List Int) (i j c:Nat):List (Int×Int):=(List.range' j c).map fun j:Nat=>((j:Int),(kth ks (i+1) j:Int))
theorem ordK_tok (t1 t2:List DN) (h1:Whole (kidsOf t1)) (h2:Whole (kidsOf t2)) (o:Int→Int→Int) (i k:Nat) (hi:i<t1.length) (hk:k<t2.length)
 (ho: ∀p q:Nat,i<p→p<t1.length→q<t2.length→ ∀c1 s1 c2 s2,lexC cmpO (tok ((c1+1)::s1) (t1.drop p)) (tok ((c2+1)::s2) (t2.drop q))=if o p q≠0 then o p q else lexC cmpO (tok (c1::s1) (t1.drop (endAt (kidsOf t1) p))) (tok (c2::s2) (t2.drop (endAt (kidsOf t2) q))))
 (S1 S2:List Nat) (x y:Int): ∀(c j d:Nat),j+c=kidN (kidsOf t1) i→j+d=kidN (kidsOf t2) k→x=(j+c:Nat)→y=(j+d:Nat)→
 lexC cmpO (tok (c::S1) (t1.drop (kth (kidsOf t1) (i+1) j))) (tok (d::S2) (t2.drop (kth (kidsOf t2) (k+1) j)))=
  if (ordK o (endsAll (kidsOf t2)) (rd (endsAll (kidsOf t2)) k) (restT (kidsOf t1) i j c) (kth (kidsOf t2) (k+1) j:Nat)).getD (cmpZ x y)≠0 then (ordK o (endsAll (kidsOf t2)) (rd (endsAll (kidsOf t2)) k) (restT (kidsOf t1) i j c) (kth (kidsOf t2) (k+1) j:Nat)).getD (cmpZ x y)
  else lexC cmpO (tok S1 (t1.drop (endAt (kidsOf t1) i))) (tok S2 (t2.drop (endAt (kidsOf t2) k))):=by
 have hik:i<(kidsOf t1).length:=by rw [kidsOf_len];exact hi
 have hkk:k<(kidsOf t2).length:=by rw [kidsOf_len];exact hk
 have hlim:rd (endsAll (kidsOf t2)) k=(kth (kidsOf t2) (k+1) (kidN (kidsOf t2) k):Nat):=by rw [rd_ends _ k hkk,kth_last h2 hkk]
 intro c
 induction c with
 |zero=>
  intro j d hc hd hx hy
  have e1:kth (kidsOf t1) (i+1) j=endAt (kidsOf t1) i:=by rw [←kth_last h1 hik];congr 1
  have e2:ordK o (endsAll (kidsOf t2)) (rd (endsAll (kidsOf t2)) k) (restT (kidsOf t1) i j 0) (kth (kidsOf t2) (k+1) j:Nat)=none:=rfl;rw [e2,Option.getD_none,tok_zero,e1]
  cases d with
  |zero=>
   have e3:kth (kidsOf t2) (k+1) j=endAt (kidsOf t2) k:=by rw [←kth_last h2 hkk];congr 1
   have e4:cmpZ x y=0:=(cmpZ_zero x y).mpr (by omega);rw [tok_zero,lexC_cons,e3,e4];rfl
  |succ d=>
   obtain ⟨_,_,_,g⟩:=kth_in h2 hkk (j:=j) (by omega);rw [kidsOf_len] at g
   have e4:cmpZ x y= -1:=by unfold cmpZ;rw [if_pos (by omega)]
   rw [drop_at g,tok_succ,lexC_cons,e4];rfl
 |succ c ih=>
  intro j d hc hd hx hy;obtain ⟨g1,g2,g3,g4⟩:=kth_in h1 hik (j:=j) (by omega);rw [kidsOf_len] at g4
  have e0:restT (kidsOf t1) i j (c+1)=((j:Int),(kth (kidsOf t1) (i+1) j:Int))::restT (kidsOf t1) i (j+1) c:=by unfold restT;rw [List.range'_succ];rfl
  rw [e0];generalize hR:(ordK o (endsAll (kidsOf t2)) (rd (endsAll (kidsOf t2)) k) (((j:Int),(kth (kidsOf t1) (i+1) j:Int))::restT (kidsOf t1) i (j+1) c) (kth (kidsOf t2) (k+1) j:Nat)).getD (cmpZ x y)=R;simp only [ordK] at hR
  cases d with
  |zero=>
   have hle:rd (endsAll (kidsOf t2)) k≤(kth (kidsOf t2) (k+1) j:Nat):=by
        have e1:j=kidN (kidsOf t2) k:=by omega
        rw [hlim,←e1];exact Int.le_refl _
   rw [if_pos hle,Option.getD_some] at hR;subst hR;rw [tok_zero,drop_at g4,tok_succ,lexC_cons];rfl
  |succ d=>
   obtain ⟨q1,q2,q3,q4⟩:=kth_in h2 hkk (j:=j) (by omega);rw [kidsOf_len] at q4;have hll:=kth_lt h2 hkk (a:=j) (b:=kidN (kidsOf t2) k) (by omega) (Nat.le_refl _)
   have hle: ¬rd (endsAll (kidsOf t2)) k≤(kth (kidsOf t2) (k+1) j:Nat):=by rw [hlim];omega
   rw [if_neg hle] at hR;rw [ho _ _ g1 g4 q4];by_cases e5:o (kth (kidsOf t1) (i+1) j:Nat) (kth (kidsOf t2) (k+1) j:Nat)=0
   · rw [if_neg (show ¬o (kth (kidsOf t1) (i+1) j:Nat) (kth (kidsOf t2) (k+1) j:Nat)≠0 from fun hh=>hh e5)] at hR ⊢; rw [rd_ends (kidsOf t2) (kth (kidsOf t2) (k+1) j) (by rw [kidsOf_len];exact q4)] at hR;have:=ih (j+1) d (by omega) (by omega) (by omega) (by omega);have hR':(ordK o (endsAll (kidsOf t2)) (rd (endsAll (kidsOf t2)) k) (restT (kidsOf t1) i (j+1) c) (kth (kidsOf t2) (k+1) (j+1):Nat)).getD (cmpZ x y)=R:=hR;rw [hR'] at this;exact this
   · rw [if_pos e5,Option.getD_some] at hR;subst hR;rw [if_pos e5,if_pos e5]
theorem ordG_tok (t1 t2:List DN) (h1:Whole (kidsOf t1)) (h2:Whole (kidsOf t2)) (n1: ∀x∈t1,0≤x.f1) (n2: ∀x∈t2,0≤x.f1): ∀(f i k:Nat),i<t1.length→k<t2.length→t1.length-i<f→ ∀c1 s1 c2 s2,
 lexC cmpO (tok ((c1+1)::s1) (t1.drop i)) (tok ((c2+1)::s2) (t2.drop k))=
  if ordG t1 (endsAll (kidsOf t1)) t2 (endsAll (kidsOf t2)) f i k≠0 then ordG t1 (endsAll (kidsOf t1)) t2 (endsAll (kidsOf t2)) f i k else lexC cmpO (tok (c1::s1) (t1.drop (endAt (kidsOf t1) i))) (tok (c2::s2) (t2.drop (endAt (kidsOf t2) k))):=by
 intro f
 induction f with
 |zero=>intro i k hi hk hf;omega
 |succ f ih=>
  intro i k hi hk hf c1 s1 c2 s2
  have hik:i<(kidsOf t1).length:=by rw [kidsOf_len];exact hi
  rw [drop_at hi,drop_at hk,tok_succ,tok_succ,lexC_cons];have ec:cmpO (some (rd_T40 t1 i)) (some (rd_T40 t2 k))=cmpN (rd_T40 t1 i) (rd_T40 t2 k):=(cmpN_M _ _).symm;rw [ec];generalize hg:ordG t1 (endsAll (kidsOf t1)) t2 (endsAll (kidsOf t2)) (f+1) i k=g;simp only [ordG] at hg;by_cases e:cmpN (rd_T40 t1 i) (rd_T40 t2 k)=0
  · rw [if_neg (show ¬cmpN (rd_T40 t1 i) (rd_T40 t2 k)≠0 from fun hh=>hh e)] at hg ⊢; rw [rdT_N hi,rdT_N hk];rw [cmpI_Z,rdT_kids t1 i hi,rdT_kids t2 k hk] at hg
    have m1:0≤rd (kidsOf t1) i:=by rw [←rdT_kids t1 i hi];simp [rd_T40,List.getD_eq_getElem?_getD,hi];exact n1 _ (List.getElem_mem _)
    have m2:0≤rd (kidsOf t2) k:=by rw [←rdT_kids t2 k hk];simp [rd_T40,List.getD_eq_getElem?_getD,hk];exact n2 _ (List.getElem_mem _)
    have hkey:=ordK_tok t1 t2 h1 h2 (ordG t1 (endsAll (kidsOf t1)) t2 (endsAll (kidsOf t2)) f) i k hi hk (fun p q hp hp2 hq c1 s1 c2 s2=>ih p q hp2 hq (by omega) c1 s1 c2 s2) (c1::s1) (c2::s2) (rd (kidsOf t1) i) (rd (kidsOf t2) k) (kidN (kidsOf t1) i) 0 (kidN (kidsOf t2) k) (by omega) (by omega) (by unfold kidN;omega) (by unfold kidN;omega)
    have er:restT (kidsOf t1) i 0 (kidN (kidsOf t1) i)=kidsL (endsAll (kidsOf t1)) i:=by rw [kidsL_T h1 hik];unfold restT kidsT;rw [List.range_eq_range']
    rw [er] at hkey;rw [Int.toNat_natCast] at hg;have hg2:(ordK (ordG t1 (endsAll (kidsOf t1)) t2 (endsAll (kidsOf t2)) f) (endsAll (kidsOf t2)) (rd (endsAll (kidsOf t2)) k) (kidsL (endsAll (kidsOf t1)) i) (kth (kidsOf t2) (k+1) 0:Nat)).getD (cmpZ (rd (kidsOf t1) i) (rd (kidsOf t2) k))=g:=hg;rw [hg2] at hkey;exact hkey
  · rw [if_pos e] at hg ⊢; rw [←hg,if_pos e]
def tokT (t:List DN):List (Option DN):=tok [1] t
def cmpD (a b:List DN):Int:=lexC cmpO (tokT a) (tokT b)
theorem ordG_D {t1 t2:List DN} (hR1:InR t1) (hR2:InR t2) (h1:(chkF t1).2=0) (h2:(chkF t2).2=0):ordG t1 (endsAll (kidsOf t1)) t2 (endsAll (kidsOf t2)) (t1.length+1) 0 0=cmpD t1 t2:=by
 have w1:=whole_of hR1 h1;have w2:=whole_of hR2 h2;obtain ⟨_,n1,e1,_,_⟩:=chkF_ok t1 hR1 h1;obtain ⟨_,n2,e2,_,_⟩:=chkF_ok t2 hR2 h2;have:=ordG_tok t1 t2 w1 w2 n1 n2 (t1.length+1) 0 0 (List.length_pos_iff.mpr e1) (List.length_pos_iff.mpr e2) (by omega) 0 [] 0 [];rw [List.drop_zero,List.drop_zero,tok_zero,tok_zero,lexC_cons,end_root w1,end_root w2] at this
 have e3: ∀l:List DN,tok [] l=[]:=fun l=>by rw [tok]
 have e4:cmpO none none=0:=rfl;rw [e3,e3,e4] at this;unfold cmpD tokT;rw [this];have e5:lexC cmpO ([]:List (Option DN)) []=0:=rfl;rw [if_neg (show ¬(0:Int)≠0 by decide),e5];by_cases e:ordG t1 (endsAll (kidsOf t1)) t2 (endsAll (kidsOf t2)) (t1.length+1) ((0:Nat):Int) ((0:Nat):Int)=0
 · rw [if_neg (fun hh=>hh e)];exact e
 · rw [if_pos e];rfl
end Go.Proofs.YtgmiekggdgmhkaaGreatDoor.Q
end
section
namespace Go.Proofs.YtgmiekggdgmhkaaGreatDoor.Q
open Go.RowKit Go.Proofs.YtgmiekggdgmhkaaGreatDoorW.PrintWords Go.Proofs.YtgmiekggdgmhkaaGreatDoorW.PrintLast Go.Proofs.YtgmiekggdgmhkaaGreatDoorW.PrintMore
set_option linter.unusedVariables false
set_option linter.unusedSimpArgs false
def restR (t1 t2:List S40) (f i k:Nat) (x y:Int) (j:Nat):Int:=
 (ordK (ordG t1 (endsAll (kidsOf t1)) t2 (endsAll (kidsOf t2)) f) (endsAll (kidsOf t2)) (rd (endsAll (kidsOf t2)) k) (restT (kidsOf t1) i j (kidN (kidsOf t1) i-j)) (kth (kidsOf t2) (k+1) j:Nat)).getD (cmpZ x y)
theorem end_cl (t:List S40) (h:Dat t) (p i:Nat) (A:Option Addr) (c:Nat) (W:World) (hp:p<t.length) (hr:Kd.C k40 W A (t.length-i) (t.drop i)) (hc:t.length-i≤c) (hi:i≤p):
 Calls Tryz.prog 59 #[.slice A (t.length-i) c,.int .i64 (p-i:Nat)] W fun e w'=>e= .returned (.int .i64 (endAt (kidsOf t) p-i:Nat))∧Drawn0 W w':=by
 obtain ⟨m,hm,m1,m2⟩:=eat_at (kidsOf t) h.whole p (h.lt hp);have hend:=endAt_some hm
 have hev:=rend_all (t.drop i) (by rw [List.length_drop];have:=h.l400;omega) (fun x hx=>h.nn x (List.mem_of_mem_drop hx)) (fun x hx=>h.hR x (List.mem_of_mem_drop hx)) (t.drop i).length (p-i) (by omega) m (by
  have e:kidsOf (t.drop i)=(kidsOf t).drop i:=by simp [kidsOf]
  rw [e,List.drop_drop,show i+(p-i)=p by omega];exact hm)
 obtain ⟨k,hk⟩:=hev.rounds;have hl:(t.drop i).length=t.length-i:=List.length_drop;have:=mummerref04_end.calls k A c (t.drop i) ((p-i:Nat):Int) ((p-i+m:Nat):Int) W (by rw [hl];exact hr) (by rw [hl];exact hc) hk;rw [hl] at this;rw [hend,show p+m-i=p-i+m by omega];exact this
theorem restR_step (t1 t2:List S40) (h1:Dat t1) (h2:Dat t2) (f i k:Nat) (hi:i<t1.length) (hk:k<t2.length) (x y:Int) (j:Nat) (hj1:j<kidN (kidsOf t1) i) (hj2:j<kidN (kidsOf t2) k):
 restR t1 t2 f i k x y j=if ordG t1 (endsAll (kidsOf t1)) t2 (endsAll (kidsOf t2)) f (kth (kidsOf t1) (i+1) j:Nat) (kth (kidsOf t2) (k+1) j:Nat)≠0 then ordG t1 (endsAll (kidsOf t1)) t2 (endsAll (kidsOf t2)) f (kth (kidsOf t1) (i+1) j:Nat) (kth (kidsOf t2) (k+1) j:Nat) else restR t1 t2 f i k x y (j+1):=by
 have hkk:=h2.lt hk
 obtain ⟨c,hc⟩: ∃c,kidN (kidsOf t1) i-j=c+1:=⟨kidN (kidsOf t1) i-j-1,by omega⟩
 have e0:restT (kidsOf t1) i j (c+1)=((j:Int),(kth (kidsOf t1) (i+1) j:Int))::restT (kidsOf t1) i (j+1) c:=by unfold restT;rw [List.range'_succ];rfl
 obtain ⟨q1,q2,q3,q4⟩:=kth_in h2.whole hkk hj2
 have hlim:rd (endsAll (kidsOf t2)) k=(kth (kidsOf t2) (k+1) (kidN (kidsOf t2) k):Nat):=by rw [rd_ends _ k hkk,kth_last h2.whole hkk]
 have hll:=kth_lt h2.whole hkk (a:=j) (b:=kidN (kidsOf t2) k) hj2 (Nat.le_refl _)
 have hle: ¬rd (endsAll (kidsOf t2)) k≤(kth (kidsOf t2) (k+1) j:Nat):=by rw [hlim];omega
 unfold restR;rw [hc,e0,show kidN (kidsOf t1) i-(j+1)=c by omega];simp only [ordK];rw [if_neg hle,rd_ends (kidsOf t2) (kth (kidsOf t2) (k+1) j) q4];by_cases e:ordG t1 (endsAll (kidsOf t1)) t2 (endsAll (kidsOf t2)) f (kth (kidsOf t1) (i+1) j:Nat) (kth (kidsOf t2) (k+1) j:Nat)=0
 · rw [if_neg (fun hh=>hh e),if_neg (fun hh=>hh e)];rfl
 · rw [if_pos e,if_pos e];rfl
theorem restR_end (t1 t2:List S40) (h1:Dat t1) (h2:Dat t2) (f i k:Nat) (hi:i<t1.length) (hk:k<t2.length) (j:Nat) (hj1:j≤kidN (kidsOf t1) i) (hj2:j≤kidN (kidsOf t2) k) (hj: ¬(j<kidN (kidsOf t1) i∧j<kidN (kidsOf t2) k)):
 restR t1 t2 f i k (kidN (kidsOf t1) i:Nat) (kidN (kidsOf t2) k:Nat) j=cmpZ (kidN (kidsOf t1) i:Nat) (kidN (kidsOf t2) k:Nat):=by
 have hkk:=h2.lt hk
 have hlim:rd (endsAll (kidsOf t2)) k=(kth (kidsOf t2) (k+1) (kidN (kidsOf t2) k):Nat):=by rw [rd_ends _ k hkk,kth_last h2.whole hkk]
 unfold restR;by_cases e:j=kidN (kidsOf t1) i
 · rw [e,Nat.sub_self];rfl
 · have e2:j=kidN (kidsOf t2) k:=by omega
   obtain ⟨c,hc⟩: ∃c,kidN (kidsOf t1) i-j=c+1:=⟨kidN (kidsOf t1) i-j-1,by omega⟩
   have e0:restT (kidsOf t1) i j (c+1)=((j:Int),(kth (kidsOf t1) (i+1) j:Int))::restT (kidsOf t1) i (j+1) c:=by unfold restT;rw [List.range'_succ];rfl
   rw [hc,e0];simp only [ordK];rw [if_pos (by rw [hlim,e2];exact Int.le_refl _),Option.getD_some];unfold cmpZ;rw [if_neg (by omega),if_pos (by omega)]
theorem sign_t (W:World):Calls Tryz.prog 58 #[.bool true] W fun e w'=>e= .returned (.int .i64 (-1))∧W=w':=by
 go_enter Tryz.func58,Tryz.ntmps58;go_wp2;go_ret;exact ⟨rfl,rfl⟩
theorem sign_f (W:World):Calls Tryz.prog 58 #[.bool false] W fun e w'=>e= .returned (.int .i64 1)∧W=w':=by
 go_enter Tryz.func58,Tryz.ntmps58;go_wp2;go_ret;exact ⟨rfl,rfl⟩
set_option maxRecDepth 100000 in
set_option maxHeartbeats 4000000 in
theorem ror_in (t1 t2:List S40) (h1:Dat t1) (h2:Dat t2): ∀(f i k:Nat) (A B:Option Addr) (c d:Nat) (w:World),i<t1.length→k<t2.length→t1.length-i<f→
 Kd.C k40 w A (t1.length-i) (t1.drop i)→t1.length-i≤c→Kd.C k40 w B (t2.length-k) (t2.drop k)→t2.length-k≤d→
 Calls Tryz.prog 26 #[.slice A (t1.length-i) c,.slice B (t2.length-k) d] w (fun e w'=>e= .returned (.int .i64 (ordG t1 (endsAll (kidsOf t1)) t2 (endsAll (kidsOf t2)) f i k))∧Below w.heap.size w w'):=by
 intro f
 induction f with
 |zero=>intro i k A B c d w _ _ hf;omega
 |succ f ih=>
  intro i k A B c d w hi hk hf hrA hcA hrB hcB;obtain ⟨ad1,rfl,x0,x1,x2,x3⟩:=at_T40 hrA 0 (by omega) (by omega);obtain ⟨ad2,rfl,y0,y1,y2,y3⟩:=at_T40 hrB 0 (by omega) (by omega)
  have hd1:rd_T40 (t1.drop i) 0=rd_T40 t1 i:=by simp [rd_T40,List.getD_eq_getElem?_getD]
  have hd2:rd_T40 (t2.drop k) 0=rd_T40 t2 k:=by simp [rd_T40,List.getD_eq_getElem?_getD]
  rw [hd1] at x0 x1 x2 x3;rw [hd2] at y0 y1 y2 y3;clear hd1 hd2;have hkx:=h1.kidN hi;have hky:=h2.kidN hk;generalize hx:rd_T40 t1 i=x at *; generalize hy:rd_T40 t2 k=y at *; have z1:ad1.add ((0:Int).toNat*4)=ad1:=Addr.add_zero' ad1;have z2:ad2.add ((0:Int).toNat*4)=ad2:=Addr.add_zero' ad2;rw [z1] at x0 x1 x2 x3;rw [z2] at y0 y1 y2 y3;clear z1 z2;have ha1:=World.block_lt_of_cell? _ _ x0;have ha2:=World.block_lt_of_cell? _ _ y0
  have q1:(0:Int)<(t1.length-i:Nat):=by omega
  have q2:(0:Int)<(t2.length-k:Nat):=by omega
  have q3:0<t1.length-i:=by omega
  have q4:0<t2.length-k:=by omega
  have HX:=Aside0.mk hx;have HY:=Aside0.mk hy;have HKX:=Aside0.mk hkx;have HKY:=Aside0.mk hky;have HRA:=Aside0.mk hrA;have HRB:=Aside0.mk hrB;have HI:=Aside0.mk hi;have HK:=Aside0.mk hk;have HF:=Aside0.mk hf;clear hi hk hf hx hy hkx hky hrA hrB;go_enter Tryz.func26,Tryz.ntmps26
  go_wp2_with fail
  have b1:ad1.block<w.heap.size+1:=by omega
  have b2:ad2.block<w.heap.size+1:=by omega
  go_cut [5,6] from 11 to 17 (fun v5 v6 wx=> ∃p q:Nat,v5= .pointer (some ⟨p,0,none⟩)∧v6= .pointer (some ⟨q,0,none⟩)∧Below w.heap.size w wx∧
   wx.heap[p]? =some (.cells #[.int .i64 x.f0,.int .i64 x.f1,.int .i64 x.f2,.string x.f3] 40 (0,0))∧wx.heap[q]? =some (.cells #[.int .i64 y.f0,.int .i64 y.f1,.int .i64 y.f2,.string y.f3] 40 (0,0)))
  case first=>
   go_region
   all_goals (go_wp2_with fail;go_meet)
   all_goals case rel=>
        have n2:=fun (a b:Obj)=>new2 w a b
        refine ⟨_,_,rfl,rfl,below_drew (below_alloc (below_alloc (Below.refl _ _) _) _),?_,?_⟩
        all_goals first
         |exact (n2 _ _).1
         |exact (n2 _ _).2
  case rest=>
   obtain ⟨p,q,rfl,rfl,hbc,ep,eq⟩:=hcut;have p0:=blk_cell ep (i:=0);have p2:=blk_cell ep (i:=2);have p3:=blk_cell ep (i:=3);have s0:=blk_cell eq (i:=0);have s2:=blk_cell eq (i:=2);have s3:=blk_cell eq (i:=3);simp at p0 p2 p3 s0 s2 s3;have HBC:=Aside0.mk hbc;have EP:=Aside0.mk ep;have EQ:=Aside0.mk eq;clear hbc ep eq b1 b2 x0 x1 x2 x3 y0 y1 y2 y3 ha1 ha2 q1 q2 q3 q4
   have hord:ordG t1 (endsAll (kidsOf t1)) t2 (endsAll (kidsOf t2)) (f+1) i k=if cmpN x y≠0 then cmpN x y else restR t1 t2 f i k x.f1 y.f1 0:=by
        simp only [ordG,HX.out,HY.out,Int.toNat_natCast]
        have er:restT (kidsOf t1) i 0 (kidN (kidsOf t1) i-0)=kidsL (endsAll (kidsOf t1)) i:=by rw [kidsL_T h1.whole (h1.lt HI.out)];unfold restT kidsT;rw [List.range_eq_range',Nat.sub_zero]
        unfold restR;rw [er,←cmpI_Z];rfl
   rw [cmpN_M] at hord;by_cases c0:x.f0=y.f0
   · by_cases c2:x.f2=y.f2
     · by_cases c3:x.f3=y.f3
       · have g0:(x.f0 != y.f0)=false:=bne_eq_false_iff_eq.mpr c0;have g2:(x.f2 != y.f2)=false:=bne_eq_false_iff_eq.mpr c2;have hz:cmpM x y=0:=(cmpM_zero x y).mpr ⟨c0,c2,c3⟩;rw [hz,if_neg (by decide)] at hord;rw [HKX.out,HKY.out] at hord
         have g3:(x.f3.toList==y.f3.toList)=true:=by rw [c3];simp
         have g4:(x.f3.toList != y.f3.toList)=false:=by rw [c3];simp
         obtain ⟨Q,hQ⟩: ∃Q,ordG t1 (endsAll (kidsOf t1)) t2 (endsAll (kidsOf t2)) (f+1) i k=Q:=⟨_,rfl⟩
         rw [hQ] at hord;have HQ0:=Aside0.mk hQ;have HO:=Aside0.mk hord;clear hord hz c0 c2 c3 hQ;have N1l:=h1.kids_le HI.out;have N2l:=h2.kids_le HK.out;have HN1:=Aside0.mk (rfl:kidN (kidsOf t1) i=kidN (kidsOf t1) i);go_wp2
         go_loopw [7,8,9] (fun v7 v8 v9 wr=> ∃j:Nat,v9= .int .i64 j∧j≤kidN (kidsOf t1) i∧j≤kidN (kidsOf t2) k∧v7= .int .i64 ((kth (kidsOf t1) (i+1) j-i:Nat):Int)∧v8= .int .i64 ((kth (kidsOf t2) (k+1) j-k:Nat):Int)∧
           Aside0 (Q=restR t1 t2 f i k (kidN (kidsOf t1) i:Nat) (kidN (kidsOf t2) k:Nat) j)∧Aside0 (Below w.heap.size w wr)∧Aside0 (wr.heap[p]? =some (.cells #[.int .i64 x.f0,.int .i64 x.f1,.int .i64 x.f2,.string x.f3] 40 (0,0)))∧Aside0 (wr.heap[q]? =some (.cells #[.int .i64 y.f0,.int .i64 y.f1,.int .i64 y.f2,.string y.f3] 40 (0,0)))) (fun _ _ v9 _=>kidN (kidsOf t1) i-(intOf v9).toNat)
         case atStart=>exact ⟨0,rfl,Nat.zero_le _,Nat.zero_le _,by simp only [kth];congr 1;omega,by simp only [kth];congr 1;omega,HO,HBC,EP,EQ⟩
         case round=>
           obtain ⟨j,rfl,hj1,hj2,rfl,rfl,HR,HB,HP,HQ⟩:=hrel;have r1:=blk_cell HP.out (i:=1);have t1c:=blk_cell HQ.out (i:=1);simp at r1 t1c;rw [HKX.out] at r1;rw [HKY.out] at t1c;by_cases hjj:j<kidN (kidsOf t1) i∧j<kidN (kidsOf t2) k
           · obtain ⟨e1,e2⟩:=hjj;have k1:=kth_in h1.whole (h1.lt HI.out) e1;have k2:=kth_in h2.whole (h2.lt HK.out) e2;have d1:decide ((j:Int)<(kidN (kidsOf t1) i:Nat))=true:=decide_eq_true (by omega);have d1n:decide (j<kidN (kidsOf t1) i)=true:=decide_eq_true (by omega);have d2:decide ((j:Int)<(kidN (kidsOf t2) k:Nat))=true:=decide_eq_true (by omega);have d2n:decide (j<kidN (kidsOf t2) k)=true:=decide_eq_true (by omega);rw [kidsOf_len] at k1 k2;have hst:=restR_step t1 t2 h1 h2 f i k HI.out HK.out (kidN (kidsOf t1) i:Nat) (kidN (kidsOf t2) k:Nat) j e1 e2
             obtain ⟨a,ha⟩: ∃a,kth (kidsOf t1) (i+1) j=i+a:=⟨kth (kidsOf t1) (i+1) j-i,by omega⟩
             obtain ⟨b,hb⟩: ∃b,kth (kidsOf t2) (k+1) j=k+b:=⟨kth (kidsOf t2) (k+1) j-k,by omega⟩
             rw [ha] at hst k1 ⊢; rw [hb] at hst k2 ⊢; rw [show i+a-i=a by omega,show k+b-k=b by omega]
             have ka:a<t1.length-i:=by omega
             have kb:b<t2.length-k:=by omega
             have ka':(a:Int)<(t1.length-i:Nat):=by omega
             have kb':(b:Int)<(t2.length-k:Nat):=by omega
             have kc:a<c:=by omega
             have kd:b<d:=by omega
             have hrec: ∀W,Below w.heap.size w W→Calls Tryz.prog 26 #[.slice (some (ad1.add (a*4))) (t1.length-i-a) (c-a),.slice (some (ad2.add (b*4))) (t2.length-k-b) (d-b)] W (fun e w'=>e= .returned (.int .i64 (ordG t1 (endsAll (kidsOf t1)) t2 (endsAll (kidsOf t2)) f (i+a:Nat) (k+b:Nat)))∧Below W.heap.size W w'):=by
              intro W hBW;have c1:=Kd.C_below HRA.out hBW;have c2:=Kd.C_below HRB.out hBW;have l1:(t1.drop i).length=t1.length-i:=List.length_drop;have l2:(t2.drop k).length=t2.length-k:=List.length_drop;rw [←l1] at c1;rw [←l2] at c2;have f1:=Kd.C_drop (c:=c) (m:=a) c1 (by rw [l1];omega) (by rw [l1];exact hcA);have f2:=Kd.C_drop (c:=d) (m:=b) c2 (by rw [l2];omega) (by rw [l2];exact hcB);rw [if_neg (by omega),List.length_drop,l1,List.drop_drop,Nat.sub_sub] at f1;rw [if_neg (by omega),List.length_drop,l2,List.drop_drop,Nat.sub_sub] at f2;have:=ih (i+a) (k+b) (some (ad1.add (a*4))) (some (ad2.add (b*4))) (c-a) (d-b) W k1.2.2.2 k2.2.2.2 (by have:=HF.out;omega) f1 (by omega) f2 (by omega);rw [←Nat.sub_sub,←Nat.sub_sub] at this;exact this
             have hend1: ∀W,Below w.heap.size w W→Calls Tryz.prog 59 #[.slice (some ad1) (t1.length-i) c,.int .i64 a] W fun e w'=>e= .returned (.int .i64 ((kth (kidsOf t1) (i+1) (j+1)-i:Nat):Int))∧Drawn0 W w':=by
              intro W hBW;have:=end_cl t1 h1 (i+a) i (some ad1) c W k1.2.2.2 (Kd.C_below HRA.out hBW) hcA (by omega);rw [←ha,kid_end,ha,show i+a-i=a by omega] at this;exact this
             have hend2: ∀W,Below w.heap.size w W→Calls Tryz.prog 59 #[.slice (some ad2) (t2.length-k) d,.int .i64 b] W fun e w'=>e= .returned (.int .i64 ((kth (kidsOf t2) (k+1) (j+1)-k:Nat):Int))∧Drawn0 W w':=by
              intro W hBW;have:=end_cl t2 h2 (k+b) k (some ad2) d W k2.2.2.2 (Kd.C_below HRB.out hBW) hcB (by omega);rw [←hb,kid_end,hb,show k+b-k=b by omega] at this;exact this
             have HE1:=Aside0.mk hend1;have HE2:=Aside0.mk hend2;generalize ordG t1 (endsAll (kidsOf t1)) t2 (endsAll (kidsOf t2)) f (i+a:Nat) (k+b:Nat)=r at hrec hst;have HREC:=Aside0.mk hrec;have HST:=Aside0.mk hst;clear hst k1 k2 ha hb hrec hend1 hend2;by_cases hr:r=0
             · have rb:(r != 0)=false:=bne_eq_false_iff_eq.mpr hr;have HST2:=Aside0.mk (HST.out.trans (if_neg (fun hh=>hh hr)));clear HST hr
               go_wp2_with fail
               go_region_with (go_at_call 26;refine (HREC.out _ (below_drew HB.out)).mono ?_;rintro e w2 ⟨rfl,hb2⟩;have HB2:=Aside0.mk (below_step (below_drew HB.out) hb2);have HP2:=Aside0.mk ((hb2.block _ (by have:=(Array.getElem?_eq_some_iff.1 HP.out).1;exact this)).trans HP.out);have HQ2:=Aside0.mk ((hb2.block _ (by have:=(Array.getElem?_eq_some_iff.1 HQ.out).1;exact this)).trans HQ.out);clear hb2)
               all_goals
                go_wp2_with (first
                 |(go_at_call 59;(with_reducible refine (HE1.out _ ?hb1).mono ?_);(case hb1=>repeat (first|exact HB2.out|apply below_drew|apply pw_below_drewN));rintro e w3 ⟨rfl,nq3,rfl⟩)
                 |(go_at_call 59;(with_reducible refine (HE2.out _ ?hb1).mono ?_);(case hb1=>repeat (first|exact HB2.out|apply below_drew|apply pw_below_drewN));rintro e w4 ⟨rfl,nq4,rfl⟩))
                go_roundw
                case rel=>exact ⟨j+1,by go_num,e1,e2,rfl,rfl,⟨HR.out.trans HST2.out⟩,⟨by repeat (first|exact HB2.out|apply below_drew|apply pw_below_drewN)⟩,⟨HP2.out⟩,⟨HQ2.out⟩⟩
                case measure=>simp [intOf];omega
             · have rb:(r != 0)=true:=bne_iff_ne.mpr hr;have HST2:=Aside0.mk (HST.out.trans (if_pos hr));clear HST hr
               go_wp2_with fail
               go_region_with (go_at_call 26;refine (HREC.out _ (below_drew HB.out)).mono ?_;rintro e w2 ⟨rfl,hb2⟩;have HB2:=Aside0.mk (below_step (below_drew HB.out) hb2);clear hb2)
               all_goals
                go_wp2;go_ret;exact ⟨by rw [HQ0.out,HR.out,HST2.out];rfl,by repeat (first|exact HB2.out|apply below_drew|apply pw_below_drewN)⟩
           · have hE:=restR_end t1 t2 h1 h2 f i k HI.out HK.out j hj1 hj2 hjj;rw [←HR.out] at hE;generalize kidN (kidsOf t1) i=N1 at *; generalize kidN (kidsOf t2) k=N2 at*
             rcases Nat.lt_trichotomy N1 N2 with hl|hl|hl
             · have hv:cmpZ (N1:Int) N2= -1:=if_pos (by omega);rw [hv] at hE;have HV:=Aside0.mk hE;have d1:decide ((j:Int)<(N1:Int))=false:=decide_eq_false (by omega);have d1n:decide (j<N1)=false:=decide_eq_false (by omega);have d3:decide ((N1:Int)<(N2:Int))=true:=decide_eq_true (by omega);have d3n:decide (N1<N2)=true:=decide_eq_true (by omega);have d4:((N1:Int) != (N2:Int))=true:=bne_iff_ne.mpr (by omega);have d4n:(N1 != N2)=true:=bne_iff_ne.mpr (by omega);clear hE hv hjj HR
               go_wp2_with (go_at_call 58;refine (sign_t _).mono ?_;rintro e w1 ⟨rfl,rfl⟩)
               go_ret;exact ⟨by rw [HQ0.out,HV.out];rfl,by repeat (first|exact HB.out|apply below_drew|apply pw_below_drewN)⟩
             · have hv:cmpZ (N1:Int) N2=0:=(cmpZ_zero _ _).mpr (by omega);rw [hv] at hE;have HV:=Aside0.mk hE;have d1:decide ((j:Int)<(N1:Int))=false:=decide_eq_false (by omega);have d1n:decide (j<N1)=false:=decide_eq_false (by omega);have d4:((N1:Int) != (N2:Int))=false:=bne_eq_false_iff_eq.mpr (by omega);have d4n:(N1 != N2)=false:=bne_eq_false_iff_eq.mpr (by omega);clear hE hv hjj hl HR;go_wp2;go_ret;exact ⟨by rw [HQ0.out,HV.out];rfl,by repeat (first|exact HB.out|apply below_drew|apply pw_below_drewN)⟩
             · have hv:cmpZ (N1:Int) N2=1:=by unfold cmpZ;rw [if_neg (by omega),if_pos (by omega)]
               rw [hv] at hE;have HV:=Aside0.mk hE;have d1:decide ((j:Int)<(N1:Int))=true:=decide_eq_true (by omega);have d1n:decide (j<N1)=true:=decide_eq_true (by omega);have d2:decide ((j:Int)<(N2:Int))=false:=decide_eq_false (by omega);have d2n:decide (j<N2)=false:=decide_eq_false (by omega);have d3:decide ((N1:Int)<(N2:Int))=false:=decide_eq_false (by omega);have d3n:decide (N1<N2)=false:=decide_eq_false (by omega);have d4:((N1:Int) != (N2:Int))=true:=bne_iff_ne.mpr (by omega);have d4n:(N1 != N2)=true:=bne_iff_ne.mpr (by omega);clear hE hv hjj HR
               go_wp2_with (go_at_call 58;refine (sign_f _).mono ?_;rintro e w1 ⟨rfl,rfl⟩)
               go_ret;exact ⟨by rw [HQ0.out,HV.out];rfl,by repeat (first|exact HB.out|apply below_drew|apply pw_below_drewN)⟩
       · have g0:(x.f0 != y.f0)=false:=bne_eq_false_iff_eq.mpr c0;have g2:(x.f2 != y.f2)=false:=bne_eq_false_iff_eq.mpr c2
         have g3:(x.f3.toList==y.f3.toList)=false:=by
           rw [beq_eq_false_iff_ne];exact fun e=>c3 (bytes_inj e)
         have g4:(x.f3.toList != y.f3.toList)=true:=by rw [bne_iff_ne];exact fun e=>c3 (bytes_inj e)
         have hz:cmpM x y=cmpT x.f3 y.f3:=by
           unfold cmpM;rw [if_neg (fun e=>e ((cmpZ_zero _ _).mpr c0))];exact if_neg (fun e=>e ((cmpZ_zero _ _).mpr c2))
         have hne:cmpT x.f3 y.f3≠0:=fun e=>c3 ((cmpT_zero _ _).mp e)
         rw [hz,if_pos hne] at hord;have hlo:=cmpT_cmp.lo x.f3 y.f3;have hhi:=cmpT_cmp.hi x.f3 y.f3
         cases l:Op.bytesLess x.f3.toList y.f3.toList with
         |true=>
          have hv:cmpT x.f3 y.f3= -1:=by have:=(less_T _ _).mp l;omega
          rw [hv] at hord;have HO:=Aside0.mk hord;clear hord hz hne hv c0 c2 c3 hlo hhi
          go_wp2_with (go_at_call 58;refine (sign_t _).mono ?_;rintro e w1 ⟨rfl,rfl⟩)
          go_ret;exact ⟨by rw [HO.out];rfl,HBC.out⟩
         |false=>
          have hv:cmpT x.f3 y.f3=1:=by
                have: ¬cmpT x.f3 y.f3<0:=fun hh=>by rw [(less_T _ _).mpr hh] at l;cases l
                omega
          rw [hv] at hord;have HO:=Aside0.mk hord;clear hord hz hne hv c0 c2 c3 hlo hhi
          go_wp2_with (go_at_call 58;refine (sign_f _).mono ?_;rintro e w1 ⟨rfl,rfl⟩)
          go_ret;exact ⟨by rw [HO.out];rfl,HBC.out⟩
     · have g0:(x.f0 != y.f0)=false:=bne_eq_false_iff_eq.mpr c0;have g2:(x.f2 != y.f2)=true:=bne_iff_ne.mpr c2
       have hne:cmpZ x.f2 y.f2≠0:=fun e=>c2 ((cmpZ_zero _ _).mp e)
       have hz:cmpM x y=cmpZ x.f2 y.f2:=by
        unfold cmpM;rw [if_neg (fun e=>e ((cmpZ_zero _ _).mpr c0))];exact if_pos hne
       rw [hz,if_pos hne] at hord;by_cases l:x.f2<y.f2
       · have hv:cmpZ x.f2 y.f2= -1:=if_pos l;rw [hv] at hord;have HO:=Aside0.mk hord;have ld:decide (x.f2<y.f2)=true:=decide_eq_true l;clear hord hz hne hv c0 c2 l
         go_wp2_with (go_at_call 58;refine (sign_t _).mono ?_;rintro e w1 ⟨rfl,rfl⟩)
         go_ret;exact ⟨by rw [HO.out];rfl,HBC.out⟩
       · have hv:cmpZ x.f2 y.f2=1:=by unfold cmpZ;rw [if_neg l,if_pos (by omega)]
         rw [hv] at hord;have HO:=Aside0.mk hord;have ld:decide (x.f2<y.f2)=false:=decide_eq_false l;clear hord hz hne hv c0 c2 l
         go_wp2_with (go_at_call 58;refine (sign_f _).mono ?_;rintro e w1 ⟨rfl,rfl⟩)
         go_ret;exact ⟨by rw [HO.out];rfl,HBC.out⟩
   · have g0:(x.f0 != y.f0)=true:=bne_iff_ne.mpr c0
     have hz:cmpM x y=cmpZ x.f0 y.f0:=by unfold cmpM;rw [if_pos (fun e=>c0 ((cmpZ_zero _ _).mp e))]
     have hne:cmpZ x.f0 y.f0≠0:=fun e=>c0 ((cmpZ_zero _ _).mp e)
     rw [hz,if_pos hne] at hord;by_cases l:x.f0<y.f0
     · have hv:cmpZ x.f0 y.f0= -1:=if_pos l;rw [hv] at hord;have HO:=Aside0.mk hord;have ld:decide (x.f0<y.f0)=true:=decide_eq_true l;clear hord hz hne hv c0 l
       go_wp2_with (go_at_call 58;refine (sign_t _).mono ?_;rintro e w1 ⟨rfl,rfl⟩)
       go_ret;exact ⟨by rw [HO.out];rfl,HBC.out⟩
     · have hv:cmpZ x.f0 y.f0=1:=by unfold cmpZ;rw [if_neg l,if_pos (by omega)]
       rw [hv] at hord;have HO:=Aside0.mk hord;have ld:decide (x.f0<y.f0)=false:=decide_eq_false l;clear hord hz hne hv c0 l
       go_wp2_with (go_at_call 58;refine (sign_f _).mono ?_;rintro e w1 ⟨rfl,rfl⟩)
       go_ret;exact ⟨by rw [HO.out];rfl,HBC.out⟩
def mummerref04_order.f (l0:List (S40)) (l1:List (S40)):Option (Int):=if inR l0=true∧inR l1=true∧(chkF l0).2=0∧(chkF l1).2=0 then some (cmpD l0 l1) else none
theorem mummerref04_order.calls (A0:Option Addr) (c0:Nat) (l0:List (S40)) (A1:Option Addr) (c1:Nat) (l1:List (S40)) (r:Int) (w:World) (hr0:Kd.C k40 w A0 l0.length l0) (hc0:l0.length≤c0) (hr1:Kd.C k40 w A1 l1.length l1) (hc1:l1.length≤c1) (h:mummerref04_order.f l0 l1=some r):
 Calls Tryz.prog 26 #[.slice A0 l0.length c0,.slice A1 l1.length c1] w fun e w'=>e= .returned (.int .i64 r)∧Below w.heap.size w w':=by
 unfold mummerref04_order.f at h
 split at h
 · rename_i hh
   obtain ⟨a1,a2,a3,a4⟩:=hh;obtain rfl:=Option.some.inj h;have D0:=Dat.mk' ((inR_iff l0).mp a1) a3;have D1:=Dat.mk' ((inR_iff l1).mp a2) a4;have:=ror_in l0 l1 D0 D1 (l0.length+1) 0 0 A0 A1 c0 c1 w D0.pos D1.pos (by omega) (by simpa using hr0) (by simpa using hc0) (by simpa using hr1) (by simpa using hc1);rw [Nat.sub_zero,Nat.sub_zero] at this;rw [←ordG_D D0.hR D1.hR D0.chk D1.chk];exact this
 · cases h
end Go.Proofs.YtgmiekggdgmhkaaGreatDoor.Q
end
section
namespace Go.Proofs.YtgmiekggdgmhkaaGreatDoor.Q
open Go.RowKit Go.Proofs.YtgmiekggdgmhkaaGreatDoorW.PrintWords Go.Proofs.YtgmiekggdgmhkaaGreatDoorW.PrintLast Go.Proofs.YtgmiekggdgmhkaaGreatDoorW.PrintMore
attribute [local go_sem] max2_int min2_int max_two min_two max_three min_three max_four min_four
set_option linter.unusedVariables false
set_option linter.unusedSimpArgs false
def mummerref04_Compare.f (k:Nat) (l0:List (S40)) (l1:List (S40)):Option (Int×Int):=(mummerref04_Check.f k l0).bind fun bt241=>(if bt241.2=0 then ((mummerref04_Check.f k l1).bind fun bt243=>(if bt243.2=0 then ((mummerref04_order.f l0 l1).bind fun t245=>(some (t245,0))) else (some (0,bt243.2)))) else (some (0,bt241.2)))
set_option maxHeartbeats 8000000 in
set_option maxRecDepth 100000 in
theorem mummerref04_Compare.calls (k:Nat) (A0:Option Addr) (c0:Nat) (l0:List (S40)) (A1:Option Addr) (c1:Nat) (l1:List (S40)) (r1:Int) (r2:Int) (w:World) (hr0:Kd.C k40 w A0 l0.length l0) (hc0:l0.length≤c0) (hr1:Kd.C k40 w A1 l1.length l1) (hc1:l1.length≤c1) (h:mummerref04_Compare.f k l0 l1=some (r1,r2)):
 Calls Tryz.prog 8 #[.slice A0 l0.length c0,.slice A1 l1.length c1] w fun e w'=>e= .returned (.tuple #[.int .i64 r1,.int .i64 r2])∧Below w.heap.size w w':=by
 have HR0:=Aside0.mk hr0;have HC0:=Aside0.mk hc0;clear hr0 hc0;have HR1:=Aside0.mk hr1;have HC1:=Aside0.mk hc1;clear hr1 hc1;have HB:=Aside0.mk (Below.refl w.heap.size w);have H:((mummerref04_Check.f k l0).bind fun bt241=>(if bt241.2=0 then ((mummerref04_Check.f k l1).bind fun bt243=>(if bt243.2=0 then ((mummerref04_order.f l0 l1).bind fun t245=>(some (t245,0))) else (some (0,bt243.2)))) else (some (0,bt241.2))))=some (r1,r2):=h;clear h;replace H:=Option.bind_eq_some_iff.mp H;obtain ⟨⟨t241,t242⟩,A30,H⟩:=H;replace H:(if t242=0 then ((mummerref04_Check.f k l1).bind fun bt243=>(if bt243.2=0 then ((mummerref04_order.f l0 l1).bind fun t245=>(some (t245,0))) else (some (0,bt243.2)))) else (some (0,t242)))=some (r1,r2):=H;have A3:=Aside0.mk A30;clear A30;by_cases c4:t242=0
 · rw [if_pos c4] at H;have c4b0:(t242==0)=true:=beq_iff_eq.mpr c4;have c4b1:(t242 != 0)=false:=bne_eq_false_iff_eq.mpr c4;clear c4;replace H:=Option.bind_eq_some_iff.mp H;obtain ⟨⟨t243,t244⟩,A50,H⟩:=H;replace H:(if t244=0 then ((mummerref04_order.f l0 l1).bind fun t245=>(some (t245,0))) else (some (0,t244)))=some (r1,r2):=H;have A5:=Aside0.mk A50;clear A50;by_cases c6:t244=0
   · rw [if_pos c6] at H;have c6b0:(t244==0)=true:=beq_iff_eq.mpr c6;have c6b1:(t244 != 0)=false:=bne_eq_false_iff_eq.mpr c6;clear c6;replace H:=Option.bind_eq_some_iff.mp H;obtain ⟨t245,A70,H⟩:=H;replace H:(some (t245,0))=some (r1,r2):=H;have A7:=Aside0.mk A70;clear A70;simp only [Option.some.injEq,Prod.mk.injEq] at H;obtain ⟨rfl,rfl⟩:=H;go_enter Tryz.func8,Tryz.ntmps8
     go_wp2_with (first|((with_reducible refine gate_callee (f:=25) rfl ?_);refine goesL_ (some 10) rfl rfl Tryz.func25 (by kernel_rfl) rfl #[.slice A0 l0.length c0] rfl (by (try simp only [List.map_toArray,List.map_cons,List.map_nil]);first|done|rfl|(simp only [List.length_drop,List.length_take];rfl)) ?_;(with_reducible refine (mummerref04_Check.calls k _ _ l0 t241 t242 _ ?side1 ?side2 A3.out).mono ?_);(case side1=>repeat (first|exact HR0.out|(with_reducible refine Kd.C_alloc ?_ _)|(with_reducible refine Kd.C_drewN ?_ _)|(with_reducible refine Kd.C_drew ?_)));(case side2=>exact HC0.out);rintro e w8 ⟨rfl,hb⟩;refine ⟨_,rfl,?_⟩;have n0_:=Aside0.mk (below_step (by repeat (first|(with_reducible first|exact HB.out|apply below_alloc|apply pw_below_drewN|apply below_drew1)|exact HB.out)) hb);clear HB;have HB:=n0_;clear n0_;(try clear hb);(try clear hb2);(try clear hk);(try clear hi))|((with_reducible refine gate_callee (f:=25) rfl ?_);refine goesL_ (some 17) rfl rfl Tryz.func25 (by kernel_rfl) rfl #[.slice A1 l1.length c1] rfl (by (try simp only [List.map_toArray,List.map_cons,List.map_nil]);first|done|rfl|(simp only [List.length_drop,List.length_take];rfl)) ?_;(with_reducible refine (mummerref04_Check.calls k _ _ l1 t243 t244 _ ?side1 ?side2 A5.out).mono ?_);(case side1=>repeat (first|exact (Kd.C_below HR1.out HB.out)|(with_reducible refine Kd.C_alloc ?_ _)|(with_reducible refine Kd.C_drewN ?_ _)|(with_reducible refine Kd.C_drew ?_)));(case side2=>exact HC1.out);rintro e w9 ⟨rfl,hb⟩;refine ⟨_,rfl,?_⟩;have n0_:=Aside0.mk (below_step (by repeat (first|(with_reducible first|exact HB.out|apply below_alloc|apply pw_below_drewN|apply below_drew1)|exact HB.out)) hb);clear HB;have HB:=n0_;clear n0_;(try clear hb);(try clear hb2);(try clear hk);(try clear hi))|((with_reducible refine gate_callee (f:=26) rfl ?_);refine goesL_ (some 25) rfl rfl Tryz.func26 (by kernel_rfl) rfl #[.slice A0 l0.length c0,.slice A1 l1.length c1] rfl (by (try simp only [List.map_toArray,List.map_cons,List.map_nil]);first|done|rfl|(simp only [List.length_drop,List.length_take];rfl)) ?_;(with_reducible refine (mummerref04_order.calls _ _ l0 _ _ l1 t245 _ ?side1 ?side2 ?side3 ?side4 A7.out).mono ?_);(case side1=>repeat (first|exact (Kd.C_below HR0.out HB.out)|(with_reducible refine Kd.C_alloc ?_ _)|(with_reducible refine Kd.C_drewN ?_ _)|(with_reducible refine Kd.C_drew ?_)));(case side2=>exact HC0.out);(case side3=>repeat (first|exact (Kd.C_below HR1.out HB.out)|(with_reducible refine Kd.C_alloc ?_ _)|(with_reducible refine Kd.C_drewN ?_ _)|(with_reducible refine Kd.C_drew ?_)));(case side4=>exact HC1.out);rintro e w10 ⟨rfl,hb⟩;refine ⟨_,rfl,?_⟩;have n0_:=Aside0.mk (below_step (by repeat (first|(with_reducible first|exact HB.out|apply below_alloc|apply pw_below_drewN|apply below_drew1)|exact HB.out)) hb);clear HB;have HB:=n0_;clear n0_;(try clear hb);(try clear hb2);(try clear hk);(try clear hi)))
     go_ret2;exact ⟨by first|rfl|(simp [errW_none,errW_some]<;>rfl)|(simp [*, errW_none,errW_some]<;>rfl),by repeat (first|(with_reducible first|exact HB.out|apply below_alloc|apply pw_below_drewN|apply below_drew1)|exact HB.out)⟩
   · rw [if_neg c6] at H;have c6b0:(t244==0)=false:=beq_eq_false_iff_ne.mpr c6;have c6b1:(t244 != 0)=true:=bne_iff_ne.mpr c6;simp only [Option.some.injEq,Prod.mk.injEq] at H;obtain ⟨rfl,rfl⟩:=H;go_enter Tryz.func8,Tryz.ntmps8
     go_wp2_with (first|((with_reducible refine gate_callee (f:=25) rfl ?_);refine goesL_ (some 10) rfl rfl Tryz.func25 (by kernel_rfl) rfl #[.slice A0 l0.length c0] rfl (by (try simp only [List.map_toArray,List.map_cons,List.map_nil]);first|done|rfl|(simp only [List.length_drop,List.length_take];rfl)) ?_;(with_reducible refine (mummerref04_Check.calls k _ _ l0 t241 t242 _ ?side1 ?side2 A3.out).mono ?_);(case side1=>repeat (first|exact HR0.out|(with_reducible refine Kd.C_alloc ?_ _)|(with_reducible refine Kd.C_drewN ?_ _)|(with_reducible refine Kd.C_drew ?_)));(case side2=>exact HC0.out);rintro e w11 ⟨rfl,hb⟩;refine ⟨_,rfl,?_⟩;have n0_:=Aside0.mk (below_step (by repeat (first|(with_reducible first|exact HB.out|apply below_alloc|apply pw_below_drewN|apply below_drew1)|exact HB.out)) hb);clear HB;have HB:=n0_;clear n0_;(try clear hb);(try clear hb2);(try clear hk);(try clear hi))|((with_reducible refine gate_callee (f:=25) rfl ?_);refine goesL_ (some 17) rfl rfl Tryz.func25 (by kernel_rfl) rfl #[.slice A1 l1.length c1] rfl (by (try simp only [List.map_toArray,List.map_cons,List.map_nil]);first|done|rfl|(simp only [List.length_drop,List.length_take];rfl)) ?_;(with_reducible refine (mummerref04_Check.calls k _ _ l1 t243 t244 _ ?side1 ?side2 A5.out).mono ?_);(case side1=>repeat (first|exact (Kd.C_below HR1.out HB.out)|(with_reducible refine Kd.C_alloc ?_ _)|(with_reducible refine Kd.C_drewN ?_ _)|(with_reducible refine Kd.C_drew ?_)));(case side2=>exact HC1.out);rintro e w12 ⟨rfl,hb⟩;refine ⟨_,rfl,?_⟩;have n0_:=Aside0.mk (below_step (by repeat (first|(with_reducible first|exact HB.out|apply below_alloc|apply pw_below_drewN|apply below_drew1)|exact HB.out)) hb);clear HB;have HB:=n0_;clear n0_;(try clear hb);(try clear hb2);(try clear hk);(try clear hi)))
     go_ret2;exact ⟨by first|rfl|(simp [errW_none,errW_some]<;>rfl)|(simp [*, errW_none,errW_some]<;>rfl),by repeat (first|(with_reducible first|exact HB.out|apply below_alloc|apply pw_below_drewN|apply below_drew1)|exact HB.out)⟩
 · rw [if_neg c4] at H;have c4b0:(t242==0)=false:=beq_eq_false_iff_ne.mpr c4;have c4b1:(t242 != 0)=true:=bne_iff_ne.mpr c4;simp only [Option.some.injEq,Prod.mk.injEq] at H;obtain ⟨rfl,rfl⟩:=H;go_enter Tryz.func8,Tryz.ntmps8
   go_wp2_with (first|((with_reducible refine gate_callee (f:=25) rfl ?_);refine goesL_ (some 10) rfl rfl Tryz.func25 (by kernel_rfl) rfl #[.slice A0 l0.length c0] rfl (by (try simp only [List.map_toArray,List.map_cons,List.map_nil]);first|done|rfl|(simp only [List.length_drop,List.length_take];rfl)) ?_;(with_reducible refine (mummerref04_Check.calls k _ _ l0 t241 t242 _ ?side1 ?side2 A3.out).mono ?_);(case side1=>repeat (first|exact HR0.out|(with_reducible refine Kd.C_alloc ?_ _)|(with_reducible refine Kd.C_drewN ?_ _)|(with_reducible refine Kd.C_drew ?_)));(case side2=>exact HC0.out);rintro e w13 ⟨rfl,hb⟩;refine ⟨_,rfl,?_⟩;have n0_:=Aside0.mk (below_step (by repeat (first|(with_reducible first|exact HB.out|apply below_alloc|apply pw_below_drewN|apply below_drew1)|exact HB.out)) hb);clear HB;have HB:=n0_;clear n0_;(try clear hb);(try clear hb2);(try clear hk);(try clear hi)))
   go_ret2;exact ⟨by first|rfl|(simp [errW_none,errW_some]<;>rfl)|(simp [*, errW_none,errW_some]<;>rfl),by repeat (first|(with_reducible first|exact HB.out|apply below_alloc|apply pw_below_drewN|apply below_drew1)|exact HB.out)⟩
end Go.Proofs.YtgmiekggdgmhkaaGreatDoor.Q
end
section
namespace Go.Proofs.YtgmiekggdgmhkaaGreatDoor.Q
open Go.RowKit Go.Proofs.YtgmiekggdgmhkaaGreatDoorW.PrintWords
set_option linter.unusedVariables false
set_option linter.unusedSimpArgs false
def cmpF (a b:List DN):Int×Int:=if (chkF a).2≠0 then (0,(chkF a).2) else if (chkF b).2≠0 then (0,(chkF b).2) else (cmpD a b,0)
theorem ordOk_dat {t:List DN} (h:Dat t):ordOk t (endsAll (kidsOf t))=true:=by
 have hl:=endsAll_len t;have h4:=h.l400;unfold ordOk;simp only [Bool.and_eq_true,beq_iff_eq,decide_eq_true_eq,List.all_eq_true,List.mem_range];refine ⟨⟨hl,by omega⟩,fun j hj=>?_⟩;rw [hl] at hj;have:=endAt_bd t h.hR h.chk j hj;rw [rd_ends (kidsOf t) j (h.lt hj),hl];omega
theorem dcmp_ev (a b:List DN) (ha:InR a) (hb:InR b):Ev (fun k=>data_Compare.f k a b) (cmpF a b):=by
 unfold cmpF;refine Ev.bind (of_ev a ha) ?_;by_cases h:(chkF a).2=0
 · have hA:=Dat.mk' ha h;rw [if_neg (fun hh=>hh h),ofF_ok h];refine Ev.congr (fun k=>if_pos rfl) (Ev.bind (of_ev b hb) ?_);by_cases h2:(chkF b).2=0
   · have hB:=Dat.mk' hb h2;rw [if_neg (show ¬(chkF b).2≠0 from fun hh=>hh h2),ofF_ok h2]
     have e:data_order.f a (endsAll (kidsOf a)) b (endsAll (kidsOf b)) 0 0=some (cmpD a b):=by
        have h1:=hA.pos;have h3:=hB.pos;unfold data_order.f;rw [if_pos ⟨ordOk_dat hA,ordOk_dat hB,by decide,by rw [endsAll_len];omega,by decide,by rw [endsAll_len];omega⟩,endsAll_len];have:=ordG_D ha hb h h2;rw [←this]
     exact Ev.congr (f:=fun _=>some (cmpD a b,0)) (fun k=>by rw [if_pos rfl,e];rfl) (Ev.now _)
   · have e:ofF b=([],[],(chkF b).2):=if_neg h2;rw [if_pos h2,e];exact Ev.congr (f:=fun _=>some (0,(chkF b).2)) (fun k=>if_neg h2) (Ev.now _)
 · have e:ofF a=([],[],(chkF a).2):=if_neg h;rw [if_pos h,e];exact Ev.congr (f:=fun _=>some (0,(chkF a).2)) (fun k=>if_neg h) (Ev.now _)
end Go.Proofs.YtgmiekggdgmhkaaGreatDoor.Q
end
