import Derived.Shelf.Spec.DecodeRune
import Derived.Test.YtgmiekggdgmhkaaDoorMK5
section
/- What the calls of this seat read of the library's own tables: utf8's two tables lie as the program's text lays them. -/
namespace Go.Proofs.YtgmiekggdgmhkaaDoor.Q
open Go.RowKit
def G0 (w : World) : Prop := Lib.Utf8Tabs 0 1 w
theorem G0_keep {w W : World} (h : G0 w) (hb : Below w.heap.size w W) : G0 W := Utf8Tabs_below h hb
end Go.Proofs.YtgmiekggdgmhkaaDoor.Q
end
