import Derived.Test.YtdffphkbidfejaaDoorMK14
import Derived.Test.YtdffphkbidfejaaDoorMK19
import Derived.Test.YtdffphkbidfejaaDoorMK8
section
namespace Go.Proofs.YtdffphkbidfejaaDoor.Q
open Go.RowKit Go.Proofs.YtdffphkbidfejaaDoorW.PrintWords Go.Proofs.YtdffphkbidfejaaDoorW.PrintLast Go.Proofs.YtdffphkbidfejaaDoorW.PrintMore
set_option linter.unusedVariables false
set_option linter.unusedSimpArgs false
def chkT (x:S36):Int:=
 if x.f0=1∨x.f0=2 then (if x.f3.toList≠[] then 2 else if x.f2<1∨2<x.f2 then 7 else 0)
 else if x.f0=6 then (if x.f3.toList≠[] then 2 else if x.f2<0∨1<x.f2 then 7 else 0)
 else if x.f0=5 then (if x.f3.toList≠[] then 2 else 0)
 else if x.f0=7 then (if x.f2≠0 then 2 else if symL x.f3=true then 0 else 6)
 else if x.f0=3∨x.f0=4 then (if x.f2≠0 then 2 else if x.f3.toList≠[] then 2 else 0)
 else 2
theorem chk_some (x:S36) (hs:x.f3.size≤1000000):lexer_Check.f 5 x.f0 x.f1.f0 x.f1.f1 x.f2 x.f3=some (chkT x):=by
 obtain ⟨k,sp,n,s⟩:=x;simp only at hs
 have hy:lexer_Symbol.f s=some (symL s):=by unfold lexer_Symbol.f;rw [if_pos hs]
 unfold chkT lexer_Check.f;simp only [lexer_Check.j0,lexer_Check.j1,lexer_Check.j2,hy,Option.bind_some];by_cases k1:k=1
 · subst k1
   by_cases e:s.toList=[]<;>by_cases a:n<1<;>by_cases b:2<n<;>simp [e,a,b]
 by_cases k2:k=2
 · subst k2
   by_cases e:s.toList=[]<;>by_cases a:n<1<;>by_cases b:2<n<;>simp [e,a,b]
 by_cases k6:k=6
 · subst k6
   by_cases e:s.toList=[]<;>by_cases a:n<0<;>by_cases b:1<n<;>simp [e,a,b]
 by_cases k5:k=5
 · subst k5
   by_cases e:s.toList=[]<;>simp [e]
 by_cases k7:k=7
 · subst k7
   by_cases e:n=0<;>by_cases a:symL s=true<;>simp [e,a]
 by_cases k3:k=3
 · subst k3
   by_cases e:n=0<;>by_cases a:s.toList=[]<;>simp [e,a]
 by_cases k4:k=4
 · subst k4
   by_cases e:n=0<;>by_cases a:s.toList=[]<;>simp [e,a]
 simp [k1,k2,k3,k4,k5,k6,k7]
def textB (x:S36):List UInt8:=
 if x.f0=1 then (if x.f2=1 then [40] else [91]) else if x.f0=2 then (if x.f2=1 then [41] else [93]) else if x.f0=3 then [39] else if x.f0=4 then [35,59]
 else if x.f0=5 then Lib.itoa x.f2 else if x.f0=6 then (if x.f2=0 then [35,102] else [35,116]) else x.f3.data.toList
theorem ex40:(⟨#[32,40,91]⟩:ByteArray).extract 1 2=⟨#[40]⟩:=by kernel_rfl
theorem ex91:(⟨#[32,40,91]⟩:ByteArray).extract 2 3=⟨#[91]⟩:=by kernel_rfl
theorem ex41:(⟨#[32,41,93]⟩:ByteArray).extract 1 2=⟨#[41]⟩:=by kernel_rfl
theorem ex93:(⟨#[32,41,93]⟩:ByteArray).extract 2 3=⟨#[93]⟩:=by kernel_rfl
theorem exf:(⟨#[35,102,35,116]⟩:ByteArray).extract 0 2=⟨#[35,102]⟩:=by kernel_rfl
theorem ext:(⟨#[35,102,35,116]⟩:ByteArray).extract 2 4=⟨#[35,116]⟩:=by kernel_rfl
theorem wr_id (x:Int) (h0:0≤x) (h1:x<10):wrap64 x=x:=by unfold wrap64;omega
theorem text_some (x:S36) (h:chkT x=0) (h0: -9223372036854775808≤x.f2) (h1:x.f2≤9223372036854775807):lexer_text.f x.f0 x.f1.f0 x.f1.f1 x.f2 x.f3=some ⟨(textB x).toArray⟩:=by
 obtain ⟨k,sp,n,s⟩:=x;simp only at h0 h1;unfold chkT at h;unfold textB lexer_text.f;simp only at h ⊢; by_cases k1:k=1
 · subst k1;rw [if_pos (Or.inl rfl)] at h
   have hn:n=1∨n=2:=by
    split at h
    · omega
    · split at h
      · omega
      · omega
   rcases hn with rfl|rfl
   all_goals
    repeat rw [wr_id _ (by decide) (by decide)]
    first
        |(simp [ex40,ex91,ex41,ex93,exf,ext];done)
        |(simp;first|exact ex40|exact ex91|exact ex41|exact ex93|exact exf|exact ext)
 by_cases k2:k=2
 · subst k2;rw [if_pos (Or.inr rfl)] at h
   have hn:n=1∨n=2:=by
    split at h
    · omega
    · split at h
      · omega
      · omega
   rcases hn with rfl|rfl
   all_goals
    repeat rw [wr_id _ (by decide) (by decide)]
    first
        |(simp [ex40,ex91,ex41,ex93,exf,ext];done)
        |(simp;first|exact ex40|exact ex91|exact ex41|exact ex93|exact exf|exact ext)
 by_cases k6:k=6
 · subst k6;rw [if_neg (by omega),if_pos rfl] at h
   have hn:n=0∨n=1:=by
    split at h
    · omega
    · split at h
      · omega
      · omega
   rcases hn with rfl|rfl
   all_goals
    repeat rw [wr_id _ (by decide) (by decide)]
    first
        |(simp [ex40,ex91,ex41,ex93,exf,ext];done)
        |(simp;first|exact ex40|exact ex91|exact ex41|exact ex93|exact exf|exact ext)
 by_cases k5:k=5
 · subst k5
   have:strconv_FormatInt.f n 10=some ⟨(Lib.itoa n).toArray⟩:=by unfold strconv_FormatInt.f;rw [if_pos ⟨rfl,h0,h1⟩]
   simp [this]
 by_cases k3:k=3
 · subst k3;rfl
 by_cases k4:k=4
 · subst k4;rfl
 simp [k1,k2,k3,k4,k5,k6]
end Go.Proofs.YtdffphkbidfejaaDoor.Q
end
