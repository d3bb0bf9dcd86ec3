import Derived.LaidMore
import Derived.Lay
import Derived.Lib.LaidU8T
import Derived.PinnedBridge
import Derived.ProofKit
import Derived.Test.YtdffphkbidfejaaDoorRows
import Derived.Test.YtdffphkbidfejaaDoorMK6
section
namespace Go.Proofs.YtdffphkbidfejaaDoor.Q
open Go Go.RowKit Go.Shelf Go.Lib Go.ChangeShapes Go.WideShapes Go.ChangeAt
set_option maxRecDepth 100000
def u8ren:Ren:=⟨fun n=>n,fun|5=>5|119=>113|138=>115|139=>116|n=>n,fun|3=>0|4=>1|n=>n⟩
theorem u8types:U8Types Tryd.prog u8ren:=⟨by kernel_rfl,by kernel_rfl,by kernel_rfl,by kernel_rfl⟩
theorem u8extra:U8Extra Tryd.prog u8ren:=⟨by kernel_rfl,by kernel_rfl,by kernel_rfl,by kernel_rfl,by kernel_rfl,by kernel_rfl,by kernel_rfl⟩
theorem accept_eq:(Rows.laid_unicode_utf8_acceptRanges:DataW Unit)=acceptData:=by kernel_rfl
theorem own:ownKnob Tryd.prog.godebug=none:=by kernel_rfl
end Go.Proofs.YtdffphkbidfejaaDoor.Q
end
