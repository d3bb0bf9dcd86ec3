import Derived.Test.YtdffphkbidfejaaDoorMK24
import Derived.Test.YtdffphkbidfejaaDoorMK26
section
namespace Go.Proofs.YtdffphkbidfejaaDoor.Q
open Go.RowKit Go.Proofs.YtdffphkbidfejaaDoorW.PrintWords
theorem known5_run:mummerlaw05_LexerKnown.f 60=some true:=by kernel_rfl
theorem known5_pure:Ev (fun k=>mummerlaw05_LexerKnown.f k) true:=Ev.of (fun k=>mummerlaw05_LexerKnown.mono k) (k:=60) known5_run
end Go.Proofs.YtdffphkbidfejaaDoor.Q
end
