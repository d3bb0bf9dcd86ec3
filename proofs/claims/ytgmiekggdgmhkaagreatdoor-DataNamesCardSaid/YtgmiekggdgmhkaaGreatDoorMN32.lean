import Derived.Laws.Strings
import Derived.Test.YtgmiekggdgmhkaaGreatDoorMN0
section
namespace Go.Proofs.YtgmiekggdgmhkaaGreatDoor.Q
set_option linter.unusedVariables false
structure Cmp {α:Type} (c:α→α→Int):Prop where
 lo: ∀a b, -1≤c a b
 hi: ∀a b,c a b≤1
 anti: ∀a b,c a b= -c b a
 tr: ∀a b d,c a b≤0→c b d≤0→c a d≤0∧(c a b<0∨c b d<0→c a d<0)
def lexC {α:Type} (c:α→α→Int):List α→List α→Int
 |[],[]=>0
 |[],_::_=> -1
 |_::_,[]=>1
 |a::l,b::m=>if c a b≠0 then c a b else lexC c l m
theorem Cmp.zero {α:Type} {c:α→α→Int} (h:Cmp c) {a b d:α} (h1:c a b=0) (h2:c b d=0):c a d=0:=by
 have e1:=(h.tr a b d (by omega) (by omega)).1;have e2:=h.anti b a;have e3:=h.anti d b;have e4:=(h.tr d b a (by omega) (by omega)).1;have e5:=h.anti a d;omega
theorem lexC_cons {α:Type} (c:α→α→Int) (a b:α) (l m:List α):lexC c (a::l) (b::m)=if c a b≠0 then c a b else lexC c l m:=rfl
theorem Cmp.lex {α:Type} {c:α→α→Int} (hc:Cmp c):Cmp (lexC c) where
 lo x y:=by
  induction x generalizing y with
  |nil=>cases y<;>simp [lexC]
  |cons a l ih=>
   cases y with
   |nil=>simp [lexC]
   |cons b m=>
    rw [lexC_cons]
    split
    · exact hc.lo _ _
    · exact ih m
 hi x y:=by
  induction x generalizing y with
  |nil=>cases y<;>simp [lexC]
  |cons a l ih=>
   cases y with
   |nil=>simp [lexC]
   |cons b m=>
    rw [lexC_cons]
    split
    · exact hc.hi _ _
    · exact ih m
 anti x y:=by
  induction x generalizing y with
  |nil=>cases y<;>simp [lexC]
  |cons a l ih=>
   cases y with
   |nil=>simp [lexC]
   |cons b m=>
    rw [lexC_cons,lexC_cons];have e:=hc.anti a b;by_cases h:c a b=0
    · rw [if_neg (fun hh=>hh h),if_neg (by omega)];exact ih m
    · rw [if_pos h,if_pos (by omega)];exact e
 tr x y z:=by
  induction x generalizing y z with
  |nil=>cases y<;>cases z<;>simp [lexC]
  |cons a l ih=>
   intro h1 h2
   cases y with
   |nil=>simp [lexC] at h1
   |cons b m=>
    cases z with
    |nil=>simp [lexC] at h2
    |cons d n=>
     simp only [lexC_cons] at h1 h2 ⊢; by_cases e1:c a b=0
     · rw [if_neg (show ¬c a b≠0 from fun hh=>hh e1)] at h1 ⊢; by_cases e2:c b d=0
       · rw [if_neg (show ¬c b d≠0 from fun hh=>hh e2)] at h2 ⊢; rw [if_neg (show ¬c a d≠0 from fun hh=>hh (hc.zero e1 e2))];exact ih _ _ h1 h2
       · rw [if_pos e2] at h2 ⊢; obtain ⟨p,q⟩:=hc.tr a b d (by omega) h2;have:=q (Or.inr (by omega));rw [if_pos (show c a d≠0 by omega)];exact ⟨p,fun _=>this⟩
     · rw [if_pos e1] at h1 ⊢
       have e3:c b d≤0:=by
           by_cases e2:c b d=0
           · omega
           · rw [if_pos e2] at h2;exact h2
       obtain ⟨p,q⟩:=hc.tr a b d h1 e3;have:=q (Or.inl (by omega));rw [if_pos (show c a d≠0 by omega)];exact ⟨p,fun _=>this⟩
theorem lexC_zero {α:Type} {c:α→α→Int} (heq: ∀a b,c a b=0↔a=b): ∀l m:List α,lexC c l m=0↔l=m
 |[],[]=>by simp [lexC]
 |[],_::_=>by simp [lexC]
 |_::_,[]=>by simp [lexC]
 |a::l,b::m=>by
  rw [lexC_cons];by_cases h:c a b=0
  · rw [if_neg (fun hh=>hh h),lexC_zero heq l m,(heq a b).mp h];simp
  · rw [if_pos h];refine ⟨fun hh=>absurd hh h,fun hh=>?_⟩;exact absurd ((heq a b).mpr (List.cons.inj hh).1) h
def cmpZ (a b:Int):Int:=if a<b then-1 else if b<a then 1 else 0
theorem cmpZ_cmp:Cmp cmpZ where
 lo a b:=by unfold cmpZ;repeat' split
            all_goals omega
 hi a b:=by unfold cmpZ;repeat' split
            all_goals omega
 anti a b:=by unfold cmpZ;repeat' split
              all_goals omega
 tr a b d h1 h2:=by unfold cmpZ at *; repeat' split at h1
                    all_goals (repeat' split at h2)
                    all_goals (repeat' split)
                    all_goals omega
theorem cmpZ_zero (a b:Int):cmpZ a b=0↔a=b:=by unfold cmpZ;repeat' split
                                               all_goals omega
theorem Cmp.on {α β:Type} {c:α→α→Int} (h:Cmp c) (f:β→α):Cmp (fun x y=>c (f x) (f y)) where
 lo x y:=h.lo _ _
 hi x y:=h.hi _ _
 anti x y:=h.anti _ _
 tr x y z:=h.tr _ _ _
def cmpB (a b:UInt8):Int:=cmpZ a.toNat b.toNat
theorem cmpB_cmp:Cmp cmpB:=cmpZ_cmp.on (fun x:UInt8=>(x.toNat:Int))
theorem cmpB_zero (a b:UInt8):cmpB a b=0↔a=b:=by
 unfold cmpB;rw [cmpZ_zero];constructor
 · intro h;exact UInt8.toNat_inj.mp (by omega)
 · intro h;rw [h]
theorem less_lex: ∀l m:List UInt8,(Op.bytesLess l m=true↔lexC cmpB l m<0)
 |[],[]=>by simp [Op.bytesLess,lexC]
 |[],_::_=>by simp [Op.bytesLess,lexC]
 |_::_,[]=>by simp [Op.bytesLess,lexC]
 |a::l,b::m=>by
  rw [lexC_cons];have ih:=less_lex l m;simp only [Op.bytesLess,Bool.or_eq_true,Bool.and_eq_true,decide_eq_true_eq,beq_iff_eq];by_cases h:cmpB a b=0
  · have e:=(cmpB_zero a b).mp h;rw [if_neg (fun hh=>hh h),←ih];subst e;simp
  · rw [if_pos h]
    have e:a≠b:=fun e=>h ((cmpB_zero a b).mpr e)
    have:a<b↔cmpB a b<0:=by
        unfold cmpB cmpZ;rw [UInt8.lt_iff_toNat_lt]
        repeat' split
        all_goals omega
    rw [←this];simp [e]
def cmpT (a b:ByteArray):Int:=lexC cmpB a.toList b.toList
theorem cmpT_cmp:Cmp cmpT:=cmpB_cmp.lex.on ByteArray.toList
theorem bytes_inj {a b:ByteArray} (h:a.toList=b.toList):a=b:=by
 rw [ByteArray.toList_eq,ByteArray.toList_eq] at h;cases a;cases b
 simpa using h
theorem cmpT_zero (a b:ByteArray):cmpT a b=0↔a=b:=by
 unfold cmpT;rw [lexC_zero cmpB_zero];exact ⟨bytes_inj,fun h=>by rw [h]⟩
theorem less_T (a b:ByteArray):Op.bytesLess a.toList b.toList=true↔cmpT a b<0:=less_lex _ _
end Go.Proofs.YtgmiekggdgmhkaaGreatDoor.Q
end
