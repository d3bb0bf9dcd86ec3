import Derived.Lib.DecodeNEq
import Derived.Lib.Small
import Derived.Shelf.Unicode.DecodeSlow
import Derived.Test.YtdffphkbidfejaaDoorMK0
section
namespace Go.Proofs.YtdffphkbidfejaaDoor.Q
open Go.RowKit Go.Proofs.YtdffphkbidfejaaDoorW.PrintWords
set_option linter.unusedSimpArgs false
def Bytes (l:List Int):Prop:= ∀x∈l,0≤x∧x<256
theorem Bytes.drop {l:List Int} (h:Bytes l) (n:Nat):Bytes (l.drop n):=fun x hx=>h x (List.mem_of_mem_drop hx)
theorem Bytes.take {l:List Int} (h:Bytes l) (n:Nat):Bytes (l.take n):=fun x hx=>h x (List.mem_of_mem_take hx)
theorem Bytes.at_ {l:List Int} (h:Bytes l) (i:Int):0≤rd l i∧rd l i<256:=by
 unfold rd;rw [List.getD_eq_getElem?_getD];by_cases hi:i.toNat<l.length
 · rw [List.getElem?_eq_getElem hi];exact h _ (List.getElem_mem hi)
 · rw [List.getElem?_eq_none (by omega)];simp
theorem bytesOf_bytes (s:ByteArray):Bytes (bytesOf s):=fun x hx=>by
 simp only [bytesOf,List.mem_map] at hx;obtain ⟨b,_,rfl⟩:=hx;have:=b.toNat_lt;exact ⟨by omega,by omega⟩
def ofL (l:List Int):ByteArray:=⟨(l.map fun x=>UInt8.ofNat x.toNat).toArray⟩
theorem ofL_size (l:List Int):(ofL l).size=l.length:=by simp [ofL,ByteArray.size]
theorem ofL_get (l:List Int) (h:Bytes l) (j:Nat) (hj:j<l.length):(((ofL l).get! j).toNat:Int)=rd l j:=by
 have h1:=h _ (List.getElem_mem hj);simp only [ofL,ByteArray.get!, rd];rw [getElem!_pos _ _ (by simpa using hj)];simp only [List.getElem_toArray,List.getElem_map,Int.toNat_natCast,List.getD_eq_getElem?_getD,List.getElem?_eq_getElem hj,Option.getD_some]
 have:(UInt8.ofNat l[j].toNat).toNat=l[j].toNat:=by simp;omega
 rw [this];omega
def dec (l:List Int):Int×Int:=(((Lib.decodeGo (ofL l)).1:Nat),((Lib.decodeGo (ofL l)).2:Nat))
def decR (l:List Int):Option (Int×Int):=if l=[] then none else if (dec l).1=65533∧(dec l).2≤1 then none else some (dec l)
theorem dec_pos {l:List Int} {r n:Int} (h:decR l=some (r,n)):1≤n∧n≤l.length:=by
 unfold decR at h
 by_cases h0:l=[]
 · rw [if_pos h0] at h;cases h
 · rw [if_neg h0] at h;by_cases h1:(dec l).1=65533∧(dec l).2≤1
   · rw [if_pos h1] at h;cases h
   · rw [if_neg h1] at h;obtain ⟨rfl,rfl⟩:=Prod.mk.inj (Option.some.inj h);have hl:0<l.length:=List.length_pos_iff.mpr h0;simp only [dec,Lib.decodeGo];have hs:(ofL l).size=l.length:=ofL_size l;rw [if_neg (by omega),Lib.decode_at];simp only [Lib.decodeN]
     repeat' split
     all_goals simp only
     all_goals omega
theorem valid_decodeN (n b0 b1 b2 b3 r m:Nat) (h:Lib.decodeN n b0 b1 b2 b3=(r,m)) (h1: ¬(r=65533∧m≤1)):Lib.validRune r=true:=by
 unfold Lib.decodeN at h
 repeat' split at h
 all_goals obtain ⟨rfl,rfl⟩:=Prod.mk.inj h
 all_goals first
  |(exfalso;omega)
  |(unfold Lib.validRune;exact decide_eq_true (by omega))
theorem valid_dec {l:List Int} {r n:Int} (h:decR l=some (r,n)):Lib.validRune r=true:=by
 unfold decR at h
 by_cases h0:l=[]
 · rw [if_pos h0] at h;cases h
 · rw [if_neg h0] at h;by_cases h1:(dec l).1=65533∧(dec l).2≤1
   · rw [if_pos h1] at h;cases h
   · rw [if_neg h1] at h;have hl:0<l.length:=List.length_pos_iff.mpr h0;have hs:(ofL l).size=l.length:=ofL_size l
     have hd:Lib.decodeGo (ofL l)=Lib.decodeN ((ofL l).size-0) ((ofL l).get! 0).toNat ((ofL l).get! (0+1)).toNat ((ofL l).get! (0+2)).toNat ((ofL l).get! (0+3)).toNat:=by
       simp only [Lib.decodeGo];rw [if_neg (by omega),Lib.decode_at]
     obtain ⟨rfl,rfl⟩:=Prod.mk.inj (Option.some.inj h);simp only [dec] at h1 ⊢; exact valid_decodeN _ _ _ _ _ (Lib.decodeGo (ofL l)).1 (Lib.decodeGo (ofL l)).2 hd.symm (by omega)
set_option maxHeartbeats 2000000 in
theorem decN_agree (n n' b0 b1 b2 b3 c1 c2 c3 r m:Nat) (h:Lib.decodeN n b0 b1 b2 b3=(r,m)) (h1: ¬(r=65533∧m≤1))
 (k1:1<m→1<n'∧c1=b1) (k2:2<m→2<n'∧c2=b2) (k3:3<m→3<n'∧c3=b3):Lib.decodeN n' b0 c1 c2 c3=(r,m):=by
 unfold Lib.decodeN at h
 repeat' split at h
 all_goals obtain ⟨rfl,rfl⟩:=Prod.mk.inj h
 all_goals try (exfalso;omega)
 · unfold Lib.decodeN;rw [if_pos (by omega)]
 · obtain ⟨a1,rfl⟩:=k1 (by omega);unfold Lib.decodeN;rw [if_neg (by omega),if_pos (by omega),if_pos (by omega)]
 · obtain ⟨a1,rfl⟩:=k1 (by omega);obtain ⟨a2,rfl⟩:=k2 (by omega);unfold Lib.decodeN;rw [if_neg (by omega),if_neg (by omega),if_pos (by omega),if_pos (by omega)]
 · obtain ⟨a1,rfl⟩:=k1 (by omega);obtain ⟨a2,rfl⟩:=k2 (by omega);obtain ⟨a3,rfl⟩:=k3 (by omega);unfold Lib.decodeN;rw [if_neg (by omega),if_neg (by omega),if_neg (by omega),if_pos (by omega),if_pos (by omega)]
theorem ofL_at (l l':List Int) (j:Nat) (h:l[j]? =l'[j]?):(ofL l).get! j=(ofL l').get! j:=by
 have e: ∀l:List Int,(ofL l).get! j=(match l[j]? with|some x=>UInt8.ofNat x.toNat|none=>0):=fun l=>by
  simp only [ofL,ByteArray.get!]
  cases hx:l[j]? with
  |some x=>
   obtain ⟨hj,rfl⟩:=List.getElem?_eq_some_iff.1 hx;rw [getElem!_pos _ _ (by simpa using hj)];simp
  |none=>
   rw [List.getElem?_eq_none_iff] at hx;rw [getElem!_neg _ _ (by simpa using hx)];rfl
 rw [e,e,h]
theorem take_at {l l':List Int} {m j:Nat} (h:l.take m=l'.take m) (hj:j<m):l[j]? =l'[j]? :=by
 have:=congrArg (fun x=>x[j]?) h
 simpa [List.getElem?_take,hj] using this
theorem decR_agree {l l':List Int} {r n:Int} (h:decR l=some (r,n)) (ht:l.take n.toNat=l'.take n.toNat) (hl:n≤l'.length):decR l'=some (r,n):=by
 have hp:=dec_pos h;unfold decR at h
 by_cases h0:l=[]
 · rw [if_pos h0] at h;cases h
 · rw [if_neg h0] at h;by_cases h1:(dec l).1=65533∧(dec l).2≤1
   · rw [if_pos h1] at h;cases h
   · rw [if_neg h1] at h;have hs:(ofL l).size=l.length:=ofL_size l;have hs':(ofL l').size=l'.length:=ofL_size l'
     have hd: ∀l:List Int,0<l.length→Lib.decodeGo (ofL l)=Lib.decodeN ((ofL l).size-0) ((ofL l).get! 0).toNat ((ofL l).get! (0+1)).toNat ((ofL l).get! (0+2)).toNat ((ofL l).get! (0+3)).toNat:=fun l hl=>by
       have hs:(ofL l).size=l.length:=ofL_size l;simp only [Lib.decodeGo];rw [if_neg (by omega),Lib.decode_at]
     have hd1:=hd l (by omega);have hd2:=hd l' (by omega);obtain ⟨rfl,rfl⟩:=Prod.mk.inj (Option.some.inj h);simp only [dec] at h1 ht hp hl
     have e:Lib.decodeGo (ofL l')=Lib.decodeGo (ofL l):=by
       rw [hd2,←ofL_at l l' 0 (take_at ht (by omega))];refine decN_agree _ _ _ _ _ _ _ _ _ (Lib.decodeGo (ofL l)).1 (Lib.decodeGo (ofL l)).2 hd1.symm (by omega) (fun hm=>⟨by omega,?_⟩) (fun hm=>⟨by omega,?_⟩) (fun hm=>⟨by omega,?_⟩)
       · rw [ofL_at l l' _ (take_at ht (by omega))]
       · rw [ofL_at l l' _ (take_at ht (by omega))]
       · rw [ofL_at l l' _ (take_at ht (by omega))]
     unfold decR
     have hne:l'≠[]:=by intro hh;subst hh;simp at hl;omega
     rw [if_neg hne]
     have e2:dec l'=dec l:=by simp only [dec,e]
     rw [e2];exact if_neg h1
theorem decR_app {l:List Int} {r n:Int} (h:decR l=some (r,n)) (m:List Int):decR (l++m)=some (r,n):=by
 have hp:=dec_pos h;refine decR_agree h ?_ (by rw [List.length_append];omega);rw [List.take_append_of_le_length (by omega)]
theorem decR_one (b:Int) (l:List Int) (h:0≤b∧b<128):decR (b::l)=some (b,1):=by
 have h0:decR [b]=some (b,1):=by
  have hs:(ofL [b]).size=1:=ofL_size _;have hg:(ofL [b]).get! 0=UInt8.ofNat b.toNat:=rfl
  have e:Lib.decodeGo (ofL [b])=(b.toNat,1):=by
   simp only [Lib.decodeGo];rw [if_neg (by omega),Lib.decode_at,hg]
   have:(UInt8.ofNat b.toNat).toNat=b.toNat:=by simp;omega
   rw [this];unfold Lib.decodeN;rw [if_pos (by omega)]
  unfold decR;rw [if_neg (by simp)];simp only [dec,e];rw [if_neg (by omega)];simp;omega
 exact decR_app h0 l
end Go.Proofs.YtdffphkbidfejaaDoor.Q
end
