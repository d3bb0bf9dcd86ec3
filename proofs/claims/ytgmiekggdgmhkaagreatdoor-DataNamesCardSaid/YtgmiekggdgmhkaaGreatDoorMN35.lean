import Derived.Test.YtgmiekggdgmhkaaGreatDoorMN22
import Derived.Test.YtgmiekggdgmhkaaGreatDoorMN31
import Derived.Test.YtgmiekggdgmhkaaGreatDoorMN5
section
namespace Go.Proofs.YtgmiekggdgmhkaaGreatDoor.Q
open Go.RowKit Go.Proofs.YtgmiekggdgmhkaaGreatDoorW.PrintWords
set_option linter.unusedVariables false
set_option linter.unusedSimpArgs false
def manyB (l:List ByteArray):Bool:=decide (50<l.length)||l.any fun s=>decide (100<s.size)
theorem rdS_pre (pre r:List ByteArray) (x:ByteArray):rdOf ByteArray.empty (pre++x::r) (pre.length:Nat)=x:=by simp [rdOf]
theorem wrap_succ (pre:List ByteArray) (x:ByteArray) (h:pre.length≤1000000):wrap64 ((pre.length:Nat)+1)=((pre++[x]).length:Nat):=by
 have e1:((pre++[x]).length:Int)=(pre.length:Int)+1:=by simp
 have e2: -9223372036854775808≤(pre.length:Int)+1∧(pre.length:Int)+1≤9223372036854775807:=by omega
 rw [e1];exact wrapS _ e2.1 e2.2
theorem many_l0 (l:List ByteArray) (hl:l.length≤50): ∀r pre:List ByteArray,l=pre++r→Ev (fun k=>mummerlaw04_many.l0 k l (pre.length:Nat)) (r.any fun s=>decide (100<s.size))
 |[],pre,e=>by
  refine Ev.step (f:=fun _=>some false) (fun k=>?_) (Ev.now _);simp only [mummerlaw04_many.l0];exact if_neg (by rw [e];simp)
 |x::r,pre,e=>by
  have h1:pre.length<l.length:=by rw [e];simp
  have hx:rdOf ByteArray.empty l (pre.length:Nat)=x:=by rw [e];exact rdS_pre pre r x
  have hst: ∀k,mummerlaw04_many.l0 (k+1) l (pre.length:Nat)=if (x.size:Int)>100 then some true else mummerlaw04_many.l0 k l ((pre++[x]).length:Nat):=fun k=>by
   simp only [mummerlaw04_many.l0];rw [if_pos (by omega),if_pos (by omega),hx,wrap_succ pre x (by omega)]
  by_cases h:(x.size:Int)>100
  · rw [List.any_cons,decide_eq_true (show 100<x.size by omega),Bool.true_or];exact Ev.step (f:=fun _=>some true) (fun k=>by rw [hst,if_pos h]) (Ev.now _)
  · rw [List.any_cons,decide_eq_false (show ¬100<x.size by omega),Bool.false_or];exact Ev.step (fun k=>by rw [hst,if_neg h]) (many_l0 l hl r (pre++[x]) (by simp [e]))
theorem many_ev (l:List ByteArray):Ev (fun k=>mummerlaw04_many.f k l) (manyB l):=by
 unfold manyB;by_cases h:50<l.length
 · rw [decide_eq_true h,Bool.true_or];exact Ev.congr (f:=fun _=>some true) (fun k=>if_pos (by omega)) (Ev.now _)
 · rw [decide_eq_false h,Bool.false_or];exact Ev.congr (fun k=>if_neg (by omega)) (many_l0 l (by omega) l [] rfl)
theorem manyB_len {l:List ByteArray} (h:manyB l=false):l.length≤50:=by
 unfold manyB at h;simp at h;exact h.1
theorem compactUpTo_mem {α:Type} [Inhabited α] [DecidableEq α] (d:Array α): ∀m i,i<m→d[i]! ∈Lib.compactUpTo d m
 |m+1,i,hi=>by
  rw [Lib.compactUpTo_succ,List.mem_append];by_cases h:i<m
  · exact Or.inl (compactUpTo_mem d m i h)
  · obtain rfl:i=m:=by omega
    by_cases hk:Lib.keeps d i=true
    · rw [if_pos hk];exact Or.inr (List.mem_singleton.mpr rfl)
    · have h2:i≠0∧d[i]! =d[i-1]! :=by
       unfold Lib.keeps at hk;simp only [decide_eq_true_eq,not_or,Decidable.not_not] at hk;exact hk
      rw [h2.2];exact Or.inl (compactUpTo_mem d i (i-1) (by omega))
theorem mem_compact {α:Type} [Inhabited α] [DecidableEq α] (l:List α) (x:α) (h:x∈l):x∈Lib.compact l:=by
 obtain ⟨i,hi,rfl⟩:=List.getElem_of_mem h;have:=compactUpTo_mem l.toArray l.length i hi
 have e:l.toArray[i]! =l[i]:=by simp [hi]
 rw [e] at this;exact this
theorem mem_tidy {l:List ByteArray} {s:ByteArray} (h:s∈l):s∈tidy l:=by
 unfold tidy
 have h1:s.data.toList∈(l.map (·.data.toList)).mergeSort fun x y=>decide (x≤y):=(List.mem_mergeSort ..).mpr (List.mem_map.mpr ⟨s,h,rfl⟩)
 have h2:=mem_compact _ _ h1;exact List.mem_map.mpr ⟨_,h2,by cases s;simp⟩
end Go.Proofs.YtgmiekggdgmhkaaGreatDoor.Q
end
