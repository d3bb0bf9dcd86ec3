import Derived.Lib.Small
import Derived.Outline
import Derived.Test.YtgmiekggdgmhkaaDoorMK1
import Derived.Test.YtgmiekggdgmhkaaDoorMK5
import Derived.Test.YtgmiekggdgmhkaaDoorMK8
section
/- Layer 2's reference, plainly: the bytes of a rune, told by 'stands', are those that Go's decoder takes. -/
namespace Go.Proofs.YtgmiekggdgmhkaaDoor.R
open Go.RowKit Go.Proofs.YtgmiekggdgmhkaaDoorW.PrintWords
open Go.Proofs.YtgmiekggdgmhkaaDoor.Q (Bytes Bytes.at_ bool_of decR dec ofL ofL_size)
set_option linter.unusedVariables false
set_option linter.unusedSimpArgs false
def val2 (a b : Int) : Int := 64 * (a - 192) + b - 128
def val3 (a b c : Int) : Int := 64 * (64 * (a - 224) + b - 128) + c - 128
def val4 (a b c d : Int) : Int := 64 * (64 * (64 * (a - 240) + b - 128) + c - 128) + d - 128
def ok2 (a b : Int) : Prop := (192 ≤ a ∧ a < 224) ∧ contB b ∧ 128 ≤ val2 a b
def ok3 (a b c : Int) : Prop := (224 ≤ a ∧ a < 240) ∧ contB b ∧ contB c ∧ 2048 ≤ val3 a b c ∧ (val3 a b c < 55296 ∨ 57343 < val3 a b c)
def ok4 (a b c d : Int) : Prop := (240 ≤ a ∧ a < 248) ∧ contB b ∧ contB c ∧ contB d ∧ 65536 ≤ val4 a b c d ∧ val4 a b c d ≤ 1114111
instance (a b : Int) : Decidable (ok2 a b) := by unfold ok2; infer_instance
instance (a b c : Int) : Decidable (ok3 a b c) := by unfold ok3; infer_instance
instance (a b c d : Int) : Decidable (ok4 a b c d) := by unfold ok4; infer_instance
end Go.Proofs.YtgmiekggdgmhkaaDoor.R
end
section
/- Layer 2's reference, plainly: what Runes answers for any bytes. -/
namespace Go.Proofs.YtgmiekggdgmhkaaDoor.R
open Go.RowKit Go.Proofs.YtgmiekggdgmhkaaDoorW.PrintWords
open Go.Proofs.YtgmiekggdgmhkaaDoor.Q (Bytes Bytes.at_ bool_of decR dec ofL ofL_size itemsF items endF vend okB vend_eq dec_pos endF_stop)
set_option linter.unusedVariables false
set_option linter.unusedSimpArgs false
theorem Bytes.append {a b : List Int} (ha : Bytes a) (hb : Bytes b) : Bytes (a ++ b) := fun x hx => (List.mem_append.mp hx).elim (ha x) (hb x)
end Go.Proofs.YtgmiekggdgmhkaaDoor.R
end
