import Derived.Test.YtgmiekggdgmhkaaGreatDoorMN32
import Derived.Test.YtgmiekggdgmhkaaGreatDoorMN35
section
namespace Go.Proofs.YtgmiekggdgmhkaaGreatDoor.Q
open Go.RowKit Go.Proofs.YtgmiekggdgmhkaaGreatDoorW.PrintWords
set_option linter.unusedVariables false
set_option linter.unusedSimpArgs false
def Srt (l:List ByteArray):Prop:=l.Pairwise fun a b=>cmpT a b<0
theorem srt_irrefl (a:ByteArray): ¬cmpT a a<0:=by rw [(cmpT_zero a a).mpr rfl];omega
theorem srt_trans {a b c:ByteArray} (h1:cmpT a b<0) (h2:cmpT b c<0):cmpT a c<0:=(cmpT_cmp.tr a b c (by omega) (by omega)).2 (Or.inl h1)
theorem srt_unique: ∀(l m:List ByteArray),Srt l→Srt m→(∀z,z∈l↔z∈m)→l=m
 |[],[],_,_,_=>rfl
 |[],b::m,_,_,h=>by have:=(h b).mpr (List.mem_cons_self ..);simp at this
 |a::l,[],_,_,h=>by have:=(h a).mp (List.mem_cons_self ..);simp at this
 |a::l,b::m,hl,hm,h=>by
  obtain ⟨h1,h2⟩:=List.pairwise_cons.mp hl;obtain ⟨h3,h4⟩:=List.pairwise_cons.mp hm
  have e:a=b:=by
   rcases List.mem_cons.mp ((h a).mp (List.mem_cons_self ..)) with e|h5
   · exact e
   · rcases List.mem_cons.mp ((h b).mpr (List.mem_cons_self ..)) with e|h6
     · exact e.symm
     · exact absurd (srt_trans (h3 a h5) (h1 b h6)) (srt_irrefl b)
  subst e;rw [srt_unique l m h2 h4 (fun z=>?_)];constructor
  · intro hz
    rcases List.mem_cons.mp ((h z).mp (List.mem_cons_of_mem _ hz)) with e|h5
    · subst e;exact absurd (h1 z hz) (srt_irrefl z)
    · exact h5
  · intro hz
    rcases List.mem_cons.mp ((h z).mpr (List.mem_cons_of_mem _ hz)) with e|h5
    · subst e;exact absurd (h3 z hz) (srt_irrefl z)
    · exact h5
theorem lex_lt: ∀l m:List UInt8,lexC cmpB l m<0↔l<m
 |[],[]=>by simp [lexC]
 |[],_::_=>by simp [lexC]
 |_::_,[]=>by simp [lexC]
 |a::l,b::m=>by
  rw [lexC_cons,List.cons_lt_cons_iff,←lex_lt l m];by_cases h:cmpB a b=0
  · have e:=(cmpB_zero a b).mp h;rw [if_neg (fun hh=>hh h)];subst e;simp
  · rw [if_pos h]
    have e:a≠b:=fun e=>h ((cmpB_zero a b).mpr e)
    have:a<b↔cmpB a b<0:=by
        unfold cmpB cmpZ;rw [UInt8.lt_iff_toNat_lt]
        repeat' split
        all_goals omega
    rw [←this];simp [e]
theorem le_lex (x y:List UInt8):x≤y↔lexC cmpB x y≤0:=by
 have h1:x≤y↔ ¬y<x:=by rw [List.not_lt]
 rw [h1,←lex_lt y x];have:=cmpB_cmp.lex.anti x y;omega
theorem sorted_lex (l:List (List UInt8)):(l.mergeSort fun x y=>decide (x≤y)).Pairwise fun x y=>lexC cmpB x y≤0:=by
 have h:=List.pairwise_mergeSort (le:=fun x y:List UInt8=>decide (x≤y)) (fun a b c hab hbc=>by
  simp only [decide_eq_true_eq,le_lex] at*
  exact (cmpB_cmp.lex.tr a b c hab hbc).1) (fun a b=>by
  simp only [Bool.or_eq_true,decide_eq_true_eq,le_lex];have:=cmpB_cmp.lex.anti a b
  omega) l
 refine h.imp (fun {a b} hab=>?_)
 simpa [le_lex] using hab
theorem pair_get {l:List (List UInt8)} (h:l.Pairwise fun x y=>lexC cmpB x y≤0) {i j:Nat} (hij:i≤j) (hj:j<l.length):lexC cmpB (l[i]'(by omega)) l[j]≤0:=by
 by_cases e:i=j
 · subst e;have:=cmpB_cmp.lex.anti l[i] l[i];omega
 · exact List.pairwise_iff_getElem.mp h i j (by omega) hj (by omega)
theorem compact_srt (l:List (List UInt8)) (h:l.Pairwise fun x y=>lexC cmpB x y≤0):(Lib.compact l).Pairwise fun x y=>lexC cmpB x y<0:=by
 unfold Lib.compact Lib.compactUpTo;rw [List.pairwise_map];refine (List.Pairwise.filter _ (List.pairwise_lt_range (n:=l.length))).imp_of_mem (fun {i j} hi hj hij=>?_);obtain ⟨hi1,_⟩:=List.mem_filter.mp hi;obtain ⟨hj1,hj2⟩:=List.mem_filter.mp hj;have hjl:=List.mem_range.mp hj1;have hil:=List.mem_range.mp hi1
 have hk:j=0∨l.toArray[j]! ≠l.toArray[j-1]! :=by unfold Lib.keeps at hj2;simpa using hj2
 have e1:l.toArray[j]! =l[j]:=by simp [hjl]
 have e2:l.toArray[j-1]! =l[j-1]'(by omega):=by simp [show j-1<l.length by omega]
 have e3:l.toArray[i]! =l[i]:=by simp [hil]
 rw [e1,e3];rw [e1,e2] at hk;have p1:=pair_get h (i:=i) (j:=j-1) (by omega) (by omega);have p2:=pair_get h (i:=j-1) (j:=j) (by omega) hjl
 have hne:lexC cmpB (l[j-1]'(by omega)) l[j]≠0:=fun e=>by
  have:=(lexC_zero cmpB_zero _ _).mp e
  rcases hk with hk|hk
  · omega
  · exact hk this.symm
 exact (cmpB_cmp.lex.tr _ _ _ p1 p2).2 (Or.inr (by omega))
theorem compact_mem (l:List (List UInt8)) (x:List UInt8):x∈Lib.compact l↔x∈l:=by
 constructor
 · intro h;unfold Lib.compact Lib.compactUpTo at h;obtain ⟨j,hj,rfl⟩:=List.mem_map.mp h;have hjl:=List.mem_range.mp (List.mem_filter.mp hj).1
   have e1:l.toArray[j]! =l[j]:=by simp [hjl]
   rw [e1];exact List.getElem_mem _
 · exact mem_compact l x
theorem mk_list (s:ByteArray):(⟨s.data.toList.toArray⟩:ByteArray)=s:=by cases s;simp
theorem mk_toList (x:List UInt8):(⟨x.toArray⟩:ByteArray).toList=x:=by rw [ByteArray.toList_eq]
theorem tidy_srt (l:List ByteArray):Srt (tidy l):=by
 unfold Srt tidy;rw [List.pairwise_map];refine (compact_srt _ (sorted_lex _)).imp (fun {a b} h=>?_);unfold cmpT;rw [mk_toList,mk_toList];exact h
theorem tidy_mem (l:List ByteArray) (z:ByteArray):z∈tidy l↔z∈l:=by
 unfold tidy;constructor
 · intro h;obtain ⟨s,hs,rfl⟩:=List.mem_map.mp h;rw [compact_mem,List.mem_mergeSort] at hs;obtain ⟨y,hy,rfl⟩:=List.mem_map.mp hs;rw [mk_list];exact hy
 · intro h;exact mem_tidy h
theorem srt_insert {out:List ByteArray} (h:Srt out) {s:ByteArray} {n:Nat} (hn:n≤out.length) (hhi: ∀z∈out.drop n,cmpT s z<0) (hlo: ∀z∈out.take n,cmpT z s<0):Srt (out.take n++s::out.drop n):=by
 have h0:=h;unfold Srt at h0;rw [←List.take_append_drop n out,List.pairwise_append] at h0;obtain ⟨a,b,c⟩:=h0;unfold Srt;rw [List.pairwise_append];refine ⟨a,List.pairwise_cons.mpr ⟨hhi,b⟩,fun x hx y hy=>?_⟩
 rcases List.mem_cons.mp hy with rfl|hy
 · exact hlo x hx
 · exact c x hx y hy
end Go.Proofs.YtgmiekggdgmhkaaGreatDoor.Q
end
