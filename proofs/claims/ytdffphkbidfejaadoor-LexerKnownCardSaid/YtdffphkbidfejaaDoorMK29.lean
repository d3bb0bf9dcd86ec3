import Derived.LaidLaws
import Derived.Lib.LaidTab
import Derived.Test.YtdffphkbidfejaaDoorMK28
import Derived.Test.YtdffphkbidfejaaDoorMK8
section
namespace Go.Proofs.YtdffphkbidfejaaDoor.Q
open Go Go.RowKit Go.Shelf Go.Lib Go.ChangeShapes Go.WideShapes Go.ChangeAt
set_option maxRecDepth 100000
def laid7 : List (String × DataW Unit) := [("math/bits.deBruijn32tab", Rows.laid_math_bits_deBruijn32tab), ("math/bits.deBruijn64tab", Rows.laid_math_bits_deBruijn64tab), ("internal/strconv.uint64pow10", Rows.laid_internal_strconv_uint64pow10), ("unicode/utf8.acceptRanges", Rows.laid_unicode_utf8_acceptRanges), ("strconv.ErrRange", Rows.laid_strconv_ErrRange), ("strconv.ErrSyntax", Rows.laid_strconv_ErrSyntax), ("unicode/utf8.first", Rows.laid_unicode_utf8_first)]
theorem err_cell {W:World} {nm name:String} {d:DataW Unit} {g t:Nat} {ms:Array (String×TypeId)} (hg:Tryd.prog.globalNamed nm=some g) (hty:(Tryd.prog.globals[g]?).map (·.type)=some t) (hi:Tryd.prog.underlying t=some (.interface ms)) (h:VarReads Tryd.prog W nm (.iface name d)):
 ∃te pe,W.cell? ⟨g,0,none⟩=some (.iface te pe):=by
 obtain ⟨g',t',cs,fuel,p,h1,h2,h3,h4⟩:=h;obtain rfl:=Option.some.inj (hg.symm.trans h1);obtain rfl:=Option.some.inj (hty.symm.trans h2);obtain ⟨_,u,v,he,_,_⟩:=iface_of_trod hi h4;refine ⟨u,v,?_⟩;have:=World.var?_cell hg h3 0;rw [this,←Array.getElem?_toList,he];rfl
theorem G5_of_laid {W:World} (hL:laidMetH Tryd.prog laid7 W):G5 W:=by
 rw [MakeChecks.laidMetH_plain _ _ _ (by kernel_rfl)] at hL; have m1 : VarReads Tryd.prog W "internal/strconv.uint64pow10" Rows.laid_internal_strconv_uint64pow10 := Lib.laidMet.reads hL (.tail _ (.tail _ (.head _))); have m2 : VarReads Tryd.prog W "unicode/utf8.acceptRanges" Rows.laid_unicode_utf8_acceptRanges := Lib.laidMet.reads hL (.tail _ (.tail _ (.tail _ (.head _)))); have m3 : VarReads Tryd.prog W "strconv.ErrRange" Rows.laid_strconv_ErrRange := Lib.laidMet.reads hL (.tail _ (.tail _ (.tail _ (.tail _ (.head _))))); have m4 : VarReads Tryd.prog W "strconv.ErrSyntax" Rows.laid_strconv_ErrSyntax := Lib.laidMet.reads hL (.tail _ (.tail _ (.tail _ (.tail _ (.tail _ (.head _)))))); have m5 : VarReads Tryd.prog W "unicode/utf8.first" Rows.laid_unicode_utf8_first := Lib.laidMet.reads hL (.tail _ (.tail _ (.tail _ (.tail _ (.tail _ (.tail _ (.head _))))))); refine ⟨utf8Tabs_of_readsT u8types u8extra (Pinned.utf8First_eq ▸ m5) (accept_eq ▸ m2), ?_, ?_, ?_⟩
 · exact err_cell (nm := "strconv.ErrSyntax") (g := 3) (by kernel_rfl) (by kernel_rfl) Tryd.underlying54 m4
 · exact err_cell (nm := "strconv.ErrRange") (g := 4) (by kernel_rfl) (by kernel_rfl) Tryd.underlying54 m3
 · have e:(Rows.laid_internal_strconv_uint64pow10:DataW Unit)=Lib.tabData .u64 Lib.pow10Tab:=by kernel_rfl
   rw [e] at m1;obtain ⟨g',t',cs,fuel,p,h1,h2,h3,h4⟩:=m1
   have hg : Tryd.prog.globalNamed "internal/strconv.uint64pow10" = some 5 := by kernel_rfl
   obtain rfl:=Option.some.inj (hg.symm.trans h1)
   have hty:(Tryd.prog.globals[(5:Nat)]?).map (·.type)=some 126:=by kernel_rfl
   obtain rfl:=Option.some.inj (hty.symm.trans h2);unfold Lib.TabIs;rw [h3,←Lib.cells_of_tab Tryd.underlying126 Tryd.underlying100 (by kernel_rfl) (by kernel_rfl) h4]
end Go.Proofs.YtdffphkbidfejaaDoor.Q
end
