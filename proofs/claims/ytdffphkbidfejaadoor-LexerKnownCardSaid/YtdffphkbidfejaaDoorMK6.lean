import Derived.Shelf.Spec.DecodeRune
import Derived.Test.YtdffphkbidfejaaDoorMK5
section
namespace Go.Proofs.YtdffphkbidfejaaDoor.Q
open Go.RowKit
def G0 (w:World):Prop:=Lib.Utf8Tabs 0 1 w
theorem G0_keep {w W:World} (h:G0 w) (hb:Below w.heap.size w W):G0 W:=Utf8Tabs_below h hb
end Go.Proofs.YtdffphkbidfejaaDoor.Q
end
