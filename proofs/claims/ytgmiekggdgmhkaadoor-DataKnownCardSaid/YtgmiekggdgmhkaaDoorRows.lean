/-
  NARROWER THAN 'FOR EVERY INPUT', by the rows' own cells (each row's printed sentence says how): DataChecks: laid · DataShapes: laid · DataPuts: laid · DataParts: laid · DataOrder: laid · DataAsks: laid · DataRound: laid · DataBack: laid · DataKnown: laid.
  DERIVED. THE GIVEN ROWS OF THIS SEAT. 9 by the template 'for every input the law returns true; each argument reads behind the call as it read before'; 0 by the template 'total and deterministic' (their statements: YtgmiekggdgmhkaaDoorTotals.lean).
  GIVEN WITH THE SEED: the statements are not yours to turn. If you find one false, say at which input.
  Laid BY PROGRAM, IN A SANDBOX (cutbox-rows.mjs): the forced cells as the released guide's own fill.sh prints them over the translation fde2fa4eac4b62ce… (all of the seat's roots in one cut). By AI agents, Wed Nov 11 2026. No macro, syntax, notation, axiom, sorry.
-/
import Derived.Test.YtgmiekggdgmhkaaDoorChecked
import GoSem.PinnedTables
import GoSem.Claim
import GoSem.ClaimJoined
import GoSem.ClaimMapViews
import Derived.JoinedTies
import Derived.KernelRfl
namespace Go.Proofs.YtgmiekggdgmhkaaDoor
/- THE CELL 'sum', in the pinned program and in every row, IS THE sha256 OF THE DUMP (.gsa) THAT YtgmiekggdgmhkaaDoorProg.lean LOADS. Nothing in Lean hashes anything: it is a label: what it is worth is what the hold of that sum in a sandbox is worth. -/
noncomputable def Tryd.pinned : Pinned := { name := "ytgmiekggdgmhkaadoor", sum := "fde2fa4eac4b62ced2cc161443d1ae0206d345dc9d7eb655497c012ecfc61c0e", checked := Tryd.checked }
namespace Rows
def none {H : Type} : Left H := { results := [], args := [] }

/- WHAT THE LISTED PACKAGE-LEVEL VARIABLES READ AS WHEN THE CALL BEGINS. Each datum BY PROGRAM (the guide's laid-datum.mjs) off the statement by which the dump's own 'gosem.cut.vars' lays the variable. In a bare row this is a premise. The card (YtgmiekggdgmhkaaDoorCards.lean) ties it to the program's text. -/
def laid_unicode_utf8_acceptRanges {H : Type} : DataW H := .agg [.agg [.lit (.int .u8 128), .lit (.int .u8 191)], .agg [.lit (.int .u8 160), .lit (.int .u8 191)], .agg [.lit (.int .u8 128), .lit (.int .u8 159)], .agg [.lit (.int .u8 144), .lit (.int .u8 191)], .agg [.lit (.int .u8 128), .lit (.int .u8 143)], .agg [.lit (.int .u8 0), .lit (.int .u8 0)], .agg [.lit (.int .u8 0), .lit (.int .u8 0)], .agg [.lit (.int .u8 0), .lit (.int .u8 0)], .agg [.lit (.int .u8 0), .lit (.int .u8 0)], .agg [.lit (.int .u8 0), .lit (.int .u8 0)], .agg [.lit (.int .u8 0), .lit (.int .u8 0)], .agg [.lit (.int .u8 0), .lit (.int .u8 0)], .agg [.lit (.int .u8 0), .lit (.int .u8 0)], .agg [.lit (.int .u8 0), .lit (.int .u8 0)], .agg [.lit (.int .u8 0), .lit (.int .u8 0)], .agg [.lit (.int .u8 0), .lit (.int .u8 0)]]
/-- One of Go's own tables, pinned by name: the form's constant. -/
def laid_unicode_utf8_first : DataW Unit := Go.Pinned.utf8First

/-- 'mummerlaw04.DataChecks': WHATEVER THE INPUT: true; the input reads as it did. -/
def dataChecksSpec : ChangeSpec := { name := "dataChecks", fn := fun _ => fun
  | [d1, d2] => { results := [.lit (.bool true)], args := [d1, d2] }
  | _ => none }
def dataChecksRow : OpenClaim := { program := "ytgmiekggdgmhkaadoor", sum := "fde2fa4eac4b62ced2cc161443d1ae0206d345dc9d7eb655497c012ecfc61c0e", func := "mummer/mummerlaw04.DataChecks", spec := "dataChecks", inPlace := ["internal/bytealg.IndexByteString", "internal/bytealg.IndexString"], unfollowed := true, recurses := true, named := ["unicode/utf8.first", "unicode/utf8.acceptRanges", "internal/bytealg.MaxLen"], apart := false, laid := [("unicode/utf8.acceptRanges", laid_unicode_utf8_acceptRanges), ("unicode/utf8.first", laid_unicode_utf8_first)] }
def DataChecksSaid : Prop := dataChecksRow.holds Tryd.pinned (OpenSpec.ofChange dataChecksSpec)

/-- ITS FALSE NEIGHBOUR: 'it returns false'. Refute it at one input. -/
def dataChecksWrong : ChangeSpec := { name := "dataChecks", fn := fun _ => fun
  | [d1, d2] => { results := [.lit (.bool false)], args := [d1, d2] }
  | _ => none }
def DataChecksWrongFalsely : Prop := dataChecksRow.holds Tryd.pinned (OpenSpec.ofChange dataChecksWrong)

/-- 'mummerlaw04.DataShapes': WHATEVER THE INPUT: true; the input reads as it did. -/
def dataShapesSpec : ChangeSpec := { name := "dataShapes", fn := fun _ => fun
  | [d] => { results := [.lit (.bool true)], args := [d] }
  | _ => none }
def dataShapesRow : OpenClaim := { program := "ytgmiekggdgmhkaadoor", sum := "fde2fa4eac4b62ced2cc161443d1ae0206d345dc9d7eb655497c012ecfc61c0e", func := "mummer/mummerlaw04.DataShapes", spec := "dataShapes", inPlace := ["internal/bytealg.IndexByteString", "internal/bytealg.IndexString"], unfollowed := true, recurses := true, named := ["unicode/utf8.first", "unicode/utf8.acceptRanges", "internal/bytealg.MaxLen"], apart := false, laid := [("unicode/utf8.acceptRanges", laid_unicode_utf8_acceptRanges), ("unicode/utf8.first", laid_unicode_utf8_first)] }
def DataShapesSaid : Prop := dataShapesRow.holds Tryd.pinned (OpenSpec.ofChange dataShapesSpec)

/-- ITS FALSE NEIGHBOUR: 'it returns false'. Refute it at one input. -/
def dataShapesWrong : ChangeSpec := { name := "dataShapes", fn := fun _ => fun
  | [d] => { results := [.lit (.bool false)], args := [d] }
  | _ => none }
def DataShapesWrongFalsely : Prop := dataShapesRow.holds Tryd.pinned (OpenSpec.ofChange dataShapesWrong)

/-- 'mummerlaw04.DataPuts': WHATEVER THE INPUT: true; the input reads as it did. -/
def dataPutsSpec : ChangeSpec := { name := "dataPuts", fn := fun _ => fun
  | [d1, d2, d3] => { results := [.lit (.bool true)], args := [d1, d2, d3] }
  | _ => none }
def dataPutsRow : OpenClaim := { program := "ytgmiekggdgmhkaadoor", sum := "fde2fa4eac4b62ced2cc161443d1ae0206d345dc9d7eb655497c012ecfc61c0e", func := "mummer/mummerlaw04.DataPuts", spec := "dataPuts", inPlace := ["internal/bytealg.IndexByteString", "internal/bytealg.IndexString"], unfollowed := true, recurses := true, named := ["unicode/utf8.first", "unicode/utf8.acceptRanges", "internal/bytealg.MaxLen"], apart := false, laid := [("unicode/utf8.acceptRanges", laid_unicode_utf8_acceptRanges), ("unicode/utf8.first", laid_unicode_utf8_first)] }
def DataPutsSaid : Prop := dataPutsRow.holds Tryd.pinned (OpenSpec.ofChange dataPutsSpec)

/-- ITS FALSE NEIGHBOUR: 'it returns false'. Refute it at one input. -/
def dataPutsWrong : ChangeSpec := { name := "dataPuts", fn := fun _ => fun
  | [d1, d2, d3] => { results := [.lit (.bool false)], args := [d1, d2, d3] }
  | _ => none }
def DataPutsWrongFalsely : Prop := dataPutsRow.holds Tryd.pinned (OpenSpec.ofChange dataPutsWrong)

/-- 'mummerlaw04.DataParts': WHATEVER THE INPUT: true; the input reads as it did. -/
def dataPartsSpec : ChangeSpec := { name := "dataParts", fn := fun _ => fun
  | [d1, d2, d3] => { results := [.lit (.bool true)], args := [d1, d2, d3] }
  | _ => none }
def dataPartsRow : OpenClaim := { program := "ytgmiekggdgmhkaadoor", sum := "fde2fa4eac4b62ced2cc161443d1ae0206d345dc9d7eb655497c012ecfc61c0e", func := "mummer/mummerlaw04.DataParts", spec := "dataParts", inPlace := ["internal/bytealg.IndexByteString", "internal/bytealg.IndexString"], unfollowed := true, recurses := true, named := ["unicode/utf8.first", "unicode/utf8.acceptRanges", "internal/bytealg.MaxLen"], apart := false, laid := [("unicode/utf8.acceptRanges", laid_unicode_utf8_acceptRanges), ("unicode/utf8.first", laid_unicode_utf8_first)] }
def DataPartsSaid : Prop := dataPartsRow.holds Tryd.pinned (OpenSpec.ofChange dataPartsSpec)

/-- ITS FALSE NEIGHBOUR: 'it returns false'. Refute it at one input. -/
def dataPartsWrong : ChangeSpec := { name := "dataParts", fn := fun _ => fun
  | [d1, d2, d3] => { results := [.lit (.bool false)], args := [d1, d2, d3] }
  | _ => none }
def DataPartsWrongFalsely : Prop := dataPartsRow.holds Tryd.pinned (OpenSpec.ofChange dataPartsWrong)

/-- 'mummerlaw04.DataOrder': WHATEVER THE INPUT: true; the input reads as it did. -/
def dataOrderSpec : ChangeSpec := { name := "dataOrder", fn := fun _ => fun
  | [d1, d2, d3] => { results := [.lit (.bool true)], args := [d1, d2, d3] }
  | _ => none }
def dataOrderRow : OpenClaim := { program := "ytgmiekggdgmhkaadoor", sum := "fde2fa4eac4b62ced2cc161443d1ae0206d345dc9d7eb655497c012ecfc61c0e", func := "mummer/mummerlaw04.DataOrder", spec := "dataOrder", inPlace := ["internal/bytealg.IndexByteString", "internal/bytealg.IndexString"], unfollowed := true, recurses := true, named := ["unicode/utf8.first", "unicode/utf8.acceptRanges", "internal/bytealg.MaxLen"], apart := false, laid := [("unicode/utf8.acceptRanges", laid_unicode_utf8_acceptRanges), ("unicode/utf8.first", laid_unicode_utf8_first)] }
def DataOrderSaid : Prop := dataOrderRow.holds Tryd.pinned (OpenSpec.ofChange dataOrderSpec)

/-- ITS FALSE NEIGHBOUR: 'it returns false'. Refute it at one input. -/
def dataOrderWrong : ChangeSpec := { name := "dataOrder", fn := fun _ => fun
  | [d1, d2, d3] => { results := [.lit (.bool false)], args := [d1, d2, d3] }
  | _ => none }
def DataOrderWrongFalsely : Prop := dataOrderRow.holds Tryd.pinned (OpenSpec.ofChange dataOrderWrong)

/-- 'mummerlaw04.DataAsks': WHATEVER THE INPUT: true; the input reads as it did. -/
def dataAsksSpec : ChangeSpec := { name := "dataAsks", fn := fun _ => fun
  | [d1, d2, d3] => { results := [.lit (.bool true)], args := [d1, d2, d3] }
  | _ => none }
def dataAsksRow : OpenClaim := { program := "ytgmiekggdgmhkaadoor", sum := "fde2fa4eac4b62ced2cc161443d1ae0206d345dc9d7eb655497c012ecfc61c0e", func := "mummer/mummerlaw04.DataAsks", spec := "dataAsks", inPlace := ["internal/bytealg.IndexByteString", "internal/bytealg.IndexString"], unfollowed := true, recurses := true, named := ["unicode/utf8.first", "unicode/utf8.acceptRanges", "internal/bytealg.MaxLen"], apart := false, laid := [("unicode/utf8.acceptRanges", laid_unicode_utf8_acceptRanges), ("unicode/utf8.first", laid_unicode_utf8_first)] }
def DataAsksSaid : Prop := dataAsksRow.holds Tryd.pinned (OpenSpec.ofChange dataAsksSpec)

/-- ITS FALSE NEIGHBOUR: 'it returns false'. Refute it at one input. -/
def dataAsksWrong : ChangeSpec := { name := "dataAsks", fn := fun _ => fun
  | [d1, d2, d3] => { results := [.lit (.bool false)], args := [d1, d2, d3] }
  | _ => none }
def DataAsksWrongFalsely : Prop := dataAsksRow.holds Tryd.pinned (OpenSpec.ofChange dataAsksWrong)

/-- 'mummerlaw04.DataRound': WHATEVER THE INPUT: true; the input reads as it did. -/
def dataRoundSpec : ChangeSpec := { name := "dataRound", fn := fun _ => fun
  | [d1, d2] => { results := [.lit (.bool true)], args := [d1, d2] }
  | _ => none }
def dataRoundRow : OpenClaim := { program := "ytgmiekggdgmhkaadoor", sum := "fde2fa4eac4b62ced2cc161443d1ae0206d345dc9d7eb655497c012ecfc61c0e", func := "mummer/mummerlaw04.DataRound", spec := "dataRound", inPlace := ["internal/bytealg.IndexByteString", "internal/bytealg.IndexString"], unfollowed := true, recurses := true, named := ["unicode/utf8.first", "unicode/utf8.acceptRanges", "internal/bytealg.MaxLen"], apart := false, laid := [("unicode/utf8.acceptRanges", laid_unicode_utf8_acceptRanges), ("unicode/utf8.first", laid_unicode_utf8_first)] }
def DataRoundSaid : Prop := dataRoundRow.holds Tryd.pinned (OpenSpec.ofChange dataRoundSpec)

/-- ITS FALSE NEIGHBOUR: 'it returns false'. Refute it at one input. -/
def dataRoundWrong : ChangeSpec := { name := "dataRound", fn := fun _ => fun
  | [d1, d2] => { results := [.lit (.bool false)], args := [d1, d2] }
  | _ => none }
def DataRoundWrongFalsely : Prop := dataRoundRow.holds Tryd.pinned (OpenSpec.ofChange dataRoundWrong)

/-- 'mummerlaw04.DataBack': WHATEVER THE INPUT: true; the input reads as it did. -/
def dataBackSpec : ChangeSpec := { name := "dataBack", fn := fun _ => fun
  | [d1, d2] => { results := [.lit (.bool true)], args := [d1, d2] }
  | _ => none }
def dataBackRow : OpenClaim := { program := "ytgmiekggdgmhkaadoor", sum := "fde2fa4eac4b62ced2cc161443d1ae0206d345dc9d7eb655497c012ecfc61c0e", func := "mummer/mummerlaw04.DataBack", spec := "dataBack", inPlace := ["internal/bytealg.IndexByteString", "internal/bytealg.IndexString"], unfollowed := true, recurses := true, named := ["unicode/utf8.first", "unicode/utf8.acceptRanges", "internal/bytealg.MaxLen"], apart := false, laid := [("unicode/utf8.acceptRanges", laid_unicode_utf8_acceptRanges), ("unicode/utf8.first", laid_unicode_utf8_first)] }
def DataBackSaid : Prop := dataBackRow.holds Tryd.pinned (OpenSpec.ofChange dataBackSpec)

/-- ITS FALSE NEIGHBOUR: 'it returns false'. Refute it at one input. -/
def dataBackWrong : ChangeSpec := { name := "dataBack", fn := fun _ => fun
  | [d1, d2] => { results := [.lit (.bool false)], args := [d1, d2] }
  | _ => none }
def DataBackWrongFalsely : Prop := dataBackRow.holds Tryd.pinned (OpenSpec.ofChange dataBackWrong)

/-- 'mummerlaw04.DataKnown': WHATEVER THE INPUT: true; the input reads as it did. -/
def dataKnownSpec : ChangeSpec := { name := "dataKnown", fn := fun _ => fun
  | [] => { results := [.lit (.bool true)], args := [] }
  | _ => none }
def dataKnownRow : OpenClaim := { program := "ytgmiekggdgmhkaadoor", sum := "fde2fa4eac4b62ced2cc161443d1ae0206d345dc9d7eb655497c012ecfc61c0e", func := "mummer/mummerlaw04.DataKnown", spec := "dataKnown", inPlace := ["internal/bytealg.IndexByteString", "internal/bytealg.IndexString"], unfollowed := true, recurses := true, named := ["unicode/utf8.first", "unicode/utf8.acceptRanges", "internal/bytealg.MaxLen"], apart := false, laid := [("unicode/utf8.acceptRanges", laid_unicode_utf8_acceptRanges), ("unicode/utf8.first", laid_unicode_utf8_first)] }
def DataKnownSaid : Prop := dataKnownRow.holds Tryd.pinned (OpenSpec.ofChange dataKnownSpec)

/-- ITS FALSE NEIGHBOUR: 'it returns false'. Refute it at one input. -/
def dataKnownWrong : ChangeSpec := { name := "dataKnown", fn := fun _ => fun
  | [] => { results := [.lit (.bool false)], args := [] }
  | _ => none }
def DataKnownWrongFalsely : Prop := dataKnownRow.holds Tryd.pinned (OpenSpec.ofChange dataKnownWrong)

/- THE SECOND FORM. 'bulk': how many values and letters a reading holds, each counted each time it is reached (what is shared counts as often as it is met; a slice's spare places count too). A statement '..UptoSaid' is the law's where the arguments, and the package variables that the reading takes, are together of bulk at most 1048576: NARROWER than '..Said'. Prove '..Said' where nothing that the law and all that it calls make is longer than what came in: it says more and counts as full. Else prove '..UptoSaid'. A law counts once. -/
mutual
def uptoBulk {H : Type} : DataW H → Nat
  | .lit (.string bytes) => bytes.length + 1
  | .lit _ => 1
  | .nil => 1
  | .ptr d => uptoBulk d + 1
  | .slice elems spare => uptoBulkAll elems + uptoBulkAll spare + 1
  | .agg parts => uptoBulkAll parts + 1
  | .iface _ d => uptoBulk d + 1
  | .map entries => uptoBulkEntries entries + 1
  | .held _ => 1
def uptoBulkAll {H : Type} : List (DataW H) → Nat
  | [] => 0
  | d :: r => uptoBulk d + uptoBulkAll r
def uptoBulkEntries {H : Type} : List (Lit × DataW H) → Nat
  | [] => 0
  | x :: r => uptoBulkEntry x + uptoBulkEntries r
def uptoBulkEntry {H : Type} : Lit × DataW H → Nat
  | (.string bytes, d) => bytes.length + uptoBulk d + 1
  | (_, d) => uptoBulk d + 1
 end
def uptoSmall : (H : Type) → List (DataW H) → Bool := fun _ ds => decide (uptoBulkAll ds ≤ 1048576)
def OpenSpec.upto (s : _root_.Go.ChangeSpec) : _root_.Go.OpenSpec := { _root_.Go.OpenSpec.ofChange s with cond := some uptoSmall }

/-- 'mummerlaw04.DataChecks', WHERE WHAT IT READS IS OF BULK AT MOST 1048576: true; the input reads as it did. -/
def dataChecksUptoRow : OpenClaim := { program := "ytgmiekggdgmhkaadoor", sum := "fde2fa4eac4b62ced2cc161443d1ae0206d345dc9d7eb655497c012ecfc61c0e", func := "mummer/mummerlaw04.DataChecks", spec := "dataChecks", inPlace := ["internal/bytealg.IndexByteString", "internal/bytealg.IndexString"], unfollowed := true, recurses := true, named := ["unicode/utf8.first", "unicode/utf8.acceptRanges", "internal/bytealg.MaxLen"], apart := false, laid := [("unicode/utf8.acceptRanges", laid_unicode_utf8_acceptRanges), ("unicode/utf8.first", laid_unicode_utf8_first)], narrowed := true }
def DataChecksUptoSaid : Prop := dataChecksUptoRow.holds Tryd.pinned (OpenSpec.upto dataChecksSpec)

/-- 'mummerlaw04.DataShapes', WHERE WHAT IT READS IS OF BULK AT MOST 1048576: true; the input reads as it did. -/
def dataShapesUptoRow : OpenClaim := { program := "ytgmiekggdgmhkaadoor", sum := "fde2fa4eac4b62ced2cc161443d1ae0206d345dc9d7eb655497c012ecfc61c0e", func := "mummer/mummerlaw04.DataShapes", spec := "dataShapes", inPlace := ["internal/bytealg.IndexByteString", "internal/bytealg.IndexString"], unfollowed := true, recurses := true, named := ["unicode/utf8.first", "unicode/utf8.acceptRanges", "internal/bytealg.MaxLen"], apart := false, laid := [("unicode/utf8.acceptRanges", laid_unicode_utf8_acceptRanges), ("unicode/utf8.first", laid_unicode_utf8_first)], narrowed := true }
def DataShapesUptoSaid : Prop := dataShapesUptoRow.holds Tryd.pinned (OpenSpec.upto dataShapesSpec)

/-- 'mummerlaw04.DataPuts', WHERE WHAT IT READS IS OF BULK AT MOST 1048576: true; the input reads as it did. -/
def dataPutsUptoRow : OpenClaim := { program := "ytgmiekggdgmhkaadoor", sum := "fde2fa4eac4b62ced2cc161443d1ae0206d345dc9d7eb655497c012ecfc61c0e", func := "mummer/mummerlaw04.DataPuts", spec := "dataPuts", inPlace := ["internal/bytealg.IndexByteString", "internal/bytealg.IndexString"], unfollowed := true, recurses := true, named := ["unicode/utf8.first", "unicode/utf8.acceptRanges", "internal/bytealg.MaxLen"], apart := false, laid := [("unicode/utf8.acceptRanges", laid_unicode_utf8_acceptRanges), ("unicode/utf8.first", laid_unicode_utf8_first)], narrowed := true }
def DataPutsUptoSaid : Prop := dataPutsUptoRow.holds Tryd.pinned (OpenSpec.upto dataPutsSpec)

/-- 'mummerlaw04.DataParts', WHERE WHAT IT READS IS OF BULK AT MOST 1048576: true; the input reads as it did. -/
def dataPartsUptoRow : OpenClaim := { program := "ytgmiekggdgmhkaadoor", sum := "fde2fa4eac4b62ced2cc161443d1ae0206d345dc9d7eb655497c012ecfc61c0e", func := "mummer/mummerlaw04.DataParts", spec := "dataParts", inPlace := ["internal/bytealg.IndexByteString", "internal/bytealg.IndexString"], unfollowed := true, recurses := true, named := ["unicode/utf8.first", "unicode/utf8.acceptRanges", "internal/bytealg.MaxLen"], apart := false, laid := [("unicode/utf8.acceptRanges", laid_unicode_utf8_acceptRanges), ("unicode/utf8.first", laid_unicode_utf8_first)], narrowed := true }
def DataPartsUptoSaid : Prop := dataPartsUptoRow.holds Tryd.pinned (OpenSpec.upto dataPartsSpec)

/-- 'mummerlaw04.DataOrder', WHERE WHAT IT READS IS OF BULK AT MOST 1048576: true; the input reads as it did. -/
def dataOrderUptoRow : OpenClaim := { program := "ytgmiekggdgmhkaadoor", sum := "fde2fa4eac4b62ced2cc161443d1ae0206d345dc9d7eb655497c012ecfc61c0e", func := "mummer/mummerlaw04.DataOrder", spec := "dataOrder", inPlace := ["internal/bytealg.IndexByteString", "internal/bytealg.IndexString"], unfollowed := true, recurses := true, named := ["unicode/utf8.first", "unicode/utf8.acceptRanges", "internal/bytealg.MaxLen"], apart := false, laid := [("unicode/utf8.acceptRanges", laid_unicode_utf8_acceptRanges), ("unicode/utf8.first", laid_unicode_utf8_first)], narrowed := true }
def DataOrderUptoSaid : Prop := dataOrderUptoRow.holds Tryd.pinned (OpenSpec.upto dataOrderSpec)

/-- 'mummerlaw04.DataAsks', WHERE WHAT IT READS IS OF BULK AT MOST 1048576: true; the input reads as it did. -/
def dataAsksUptoRow : OpenClaim := { program := "ytgmiekggdgmhkaadoor", sum := "fde2fa4eac4b62ced2cc161443d1ae0206d345dc9d7eb655497c012ecfc61c0e", func := "mummer/mummerlaw04.DataAsks", spec := "dataAsks", inPlace := ["internal/bytealg.IndexByteString", "internal/bytealg.IndexString"], unfollowed := true, recurses := true, named := ["unicode/utf8.first", "unicode/utf8.acceptRanges", "internal/bytealg.MaxLen"], apart := false, laid := [("unicode/utf8.acceptRanges", laid_unicode_utf8_acceptRanges), ("unicode/utf8.first", laid_unicode_utf8_first)], narrowed := true }
def DataAsksUptoSaid : Prop := dataAsksUptoRow.holds Tryd.pinned (OpenSpec.upto dataAsksSpec)

/-- 'mummerlaw04.DataRound', WHERE WHAT IT READS IS OF BULK AT MOST 1048576: true; the input reads as it did. -/
def dataRoundUptoRow : OpenClaim := { program := "ytgmiekggdgmhkaadoor", sum := "fde2fa4eac4b62ced2cc161443d1ae0206d345dc9d7eb655497c012ecfc61c0e", func := "mummer/mummerlaw04.DataRound", spec := "dataRound", inPlace := ["internal/bytealg.IndexByteString", "internal/bytealg.IndexString"], unfollowed := true, recurses := true, named := ["unicode/utf8.first", "unicode/utf8.acceptRanges", "internal/bytealg.MaxLen"], apart := false, laid := [("unicode/utf8.acceptRanges", laid_unicode_utf8_acceptRanges), ("unicode/utf8.first", laid_unicode_utf8_first)], narrowed := true }
def DataRoundUptoSaid : Prop := dataRoundUptoRow.holds Tryd.pinned (OpenSpec.upto dataRoundSpec)

/-- 'mummerlaw04.DataBack', WHERE WHAT IT READS IS OF BULK AT MOST 1048576: true; the input reads as it did. -/
def dataBackUptoRow : OpenClaim := { program := "ytgmiekggdgmhkaadoor", sum := "fde2fa4eac4b62ced2cc161443d1ae0206d345dc9d7eb655497c012ecfc61c0e", func := "mummer/mummerlaw04.DataBack", spec := "dataBack", inPlace := ["internal/bytealg.IndexByteString", "internal/bytealg.IndexString"], unfollowed := true, recurses := true, named := ["unicode/utf8.first", "unicode/utf8.acceptRanges", "internal/bytealg.MaxLen"], apart := false, laid := [("unicode/utf8.acceptRanges", laid_unicode_utf8_acceptRanges), ("unicode/utf8.first", laid_unicode_utf8_first)], narrowed := true }
def DataBackUptoSaid : Prop := dataBackUptoRow.holds Tryd.pinned (OpenSpec.upto dataBackSpec)

/-- 'mummerlaw04.DataKnown', WHERE WHAT IT READS IS OF BULK AT MOST 1048576: true; the input reads as it did. -/
def dataKnownUptoRow : OpenClaim := { program := "ytgmiekggdgmhkaadoor", sum := "fde2fa4eac4b62ced2cc161443d1ae0206d345dc9d7eb655497c012ecfc61c0e", func := "mummer/mummerlaw04.DataKnown", spec := "dataKnown", inPlace := ["internal/bytealg.IndexByteString", "internal/bytealg.IndexString"], unfollowed := true, recurses := true, named := ["unicode/utf8.first", "unicode/utf8.acceptRanges", "internal/bytealg.MaxLen"], apart := false, laid := [("unicode/utf8.acceptRanges", laid_unicode_utf8_acceptRanges), ("unicode/utf8.first", laid_unicode_utf8_first)], narrowed := true }
def DataKnownUptoSaid : Prop := dataKnownUptoRow.holds Tryd.pinned (OpenSpec.upto dataKnownSpec)

end Rows
end Go.Proofs.YtgmiekggdgmhkaaDoor
