import Derived.Deep.Fields
import Derived.Deep.Slices
import Derived.OpenShut
import Derived.ProofKit
import Derived.WalkKit
import Derived.Test.YtdffphkbidfejaaDoorMK0
