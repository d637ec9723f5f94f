/-
  No cell of these rows narrows 'for every input' (looked for: loops, veiled, ifaces, maps, wideKeys, modest, calm, conditions, laid).
  DERIVED. THE GIVEN ROWS OF THIS SEAT. 12 by the template 'for every input the law returns true; each argument reads behind the call as it read before'; 0 by the template 'total and deterministic' (their statements: YtlikohjiiakhkaaTotals.lean).
  GIVEN WITH THE SEED: the statements are not yours to turn. If you find one false, say at which input.
  Laid BY PROGRAM, IN A SANDBOX (cutbox-rows.mjs): the forced cells as the released guide's own fill.sh prints them over the translation 0a8c646b9281f0bb… (all of the seat's roots in one cut). By AI agents, Wed Nov 11 2026. No macro, syntax, notation, axiom, sorry.
-/
import Derived.Test.YtlikohjiiakhkaaChecked
import GoSem.Claim
import GoSem.ClaimJoined
import GoSem.ClaimMapViews
import Derived.JoinedTies
import Derived.KernelRfl
namespace Go.Proofs.Ytlikohjiiakhkaa
/- THE CELL 'sum', in the pinned program and in every row, IS THE sha256 OF THE DUMP (.gsa) THAT YtlikohjiiakhkaaProg.lean LOADS. Nothing in Lean hashes anything: it is a label: what it is worth is what the hold of that sum in a sandbox is worth. -/
noncomputable def Try.pinned : Pinned := { name := "ytlikohjiiakhkaa", sum := "0a8c646b9281f0bb4608b406efb982529777174f034a10f375f2ab2aa7692723", checked := Try.checked }
namespace Rows
def none {H : Type} : Left H := { results := [], args := [] }

/-- 'laws.FnExactIsCode': WHATEVER THE INPUT: true; the input reads as it did. -/
def fnExactIsCodeSpec : ChangeSpec := { name := "fnExactIsCode", fn := fun _ => fun
  | [d] => { results := [.lit (.bool true)], args := [d] }
  | _ => none }
def fnExactIsCodeRow : OpenClaim := { program := "ytlikohjiiakhkaa", sum := "0a8c646b9281f0bb4608b406efb982529777174f034a10f375f2ab2aa7692723", func := "loop.example/g00949/laws.FnExactIsCode", spec := "fnExactIsCode", inPlace := ["internal/bytealg.IndexByteString"], apart := false }
def FnExactIsCodeSaid : Prop := fnExactIsCodeRow.holds Try.pinned (OpenSpec.ofChange fnExactIsCodeSpec)

/-- ITS FALSE NEIGHBOUR: 'it returns false'. Refute it at one input. -/
def fnExactIsCodeWrong : ChangeSpec := { name := "fnExactIsCode", fn := fun _ => fun
  | [d] => { results := [.lit (.bool false)], args := [d] }
  | _ => none }
def FnExactIsCodeWrongFalsely : Prop := fnExactIsCodeRow.holds Try.pinned (OpenSpec.ofChange fnExactIsCodeWrong)

/-- 'laws.FnExactSkewScan': WHATEVER THE INPUT: true; the input reads as it did. -/
def fnExactSkewScanSpec : ChangeSpec := { name := "fnExactSkewScan", fn := fun _ => fun
  | [d1, d2] => { results := [.lit (.bool true)], args := [d1, d2] }
  | _ => none }
def fnExactSkewScanRow : OpenClaim := { program := "ytlikohjiiakhkaa", sum := "0a8c646b9281f0bb4608b406efb982529777174f034a10f375f2ab2aa7692723", func := "loop.example/g00949/laws.FnExactSkewScan", spec := "fnExactSkewScan", inPlace := ["internal/bytealg.IndexByteString"], unfollowed := true, recurses := true, apart := false }
def FnExactSkewScanSaid : Prop := fnExactSkewScanRow.holds Try.pinned (OpenSpec.ofChange fnExactSkewScanSpec)

/-- ITS FALSE NEIGHBOUR: 'it returns false'. Refute it at one input. -/
def fnExactSkewScanWrong : ChangeSpec := { name := "fnExactSkewScan", fn := fun _ => fun
  | [d1, d2] => { results := [.lit (.bool false)], args := [d1, d2] }
  | _ => none }
def FnExactSkewScanWrongFalsely : Prop := fnExactSkewScanRow.holds Try.pinned (OpenSpec.ofChange fnExactSkewScanWrong)

/-- 'laws.FnExactMeetScans': WHATEVER THE INPUT: true; the input reads as it did. -/
def fnExactMeetScansSpec : ChangeSpec := { name := "fnExactMeetScans", fn := fun _ => fun
  | [d1, d2] => { results := [.lit (.bool true)], args := [d1, d2] }
  | _ => none }
def fnExactMeetScansRow : OpenClaim := { program := "ytlikohjiiakhkaa", sum := "0a8c646b9281f0bb4608b406efb982529777174f034a10f375f2ab2aa7692723", func := "loop.example/g00949/laws.FnExactMeetScans", spec := "fnExactMeetScans", inPlace := ["internal/bytealg.IndexByteString"], unfollowed := true, recurses := true, apart := false }
def FnExactMeetScansSaid : Prop := fnExactMeetScansRow.holds Try.pinned (OpenSpec.ofChange fnExactMeetScansSpec)

/-- ITS FALSE NEIGHBOUR: 'it returns false'. Refute it at one input. -/
def fnExactMeetScansWrong : ChangeSpec := { name := "fnExactMeetScans", fn := fun _ => fun
  | [d1, d2] => { results := [.lit (.bool false)], args := [d1, d2] }
  | _ => none }
def FnExactMeetScansWrongFalsely : Prop := fnExactMeetScansRow.holds Try.pinned (OpenSpec.ofChange fnExactMeetScansWrong)

/-- 'laws.FnExactWrongMark': WHATEVER THE INPUT: true; the input reads as it did. -/
def fnExactWrongMarkSpec : ChangeSpec := { name := "fnExactWrongMark", fn := fun _ => fun
  | [d] => { results := [.lit (.bool true)], args := [d] }
  | _ => none }
def fnExactWrongMarkRow : OpenClaim := { program := "ytlikohjiiakhkaa", sum := "0a8c646b9281f0bb4608b406efb982529777174f034a10f375f2ab2aa7692723", func := "loop.example/g00949/laws.FnExactWrongMark", spec := "fnExactWrongMark", inPlace := ["internal/bytealg.IndexByteString"], apart := false }
def FnExactWrongMarkSaid : Prop := fnExactWrongMarkRow.holds Try.pinned (OpenSpec.ofChange fnExactWrongMarkSpec)

/-- ITS FALSE NEIGHBOUR: 'it returns false'. Refute it at one input. -/
def fnExactWrongMarkWrong : ChangeSpec := { name := "fnExactWrongMark", fn := fun _ => fun
  | [d] => { results := [.lit (.bool false)], args := [d] }
  | _ => none }
def FnExactWrongMarkWrongFalsely : Prop := fnExactWrongMarkRow.holds Try.pinned (OpenSpec.ofChange fnExactWrongMarkWrong)

/-- 'laws.FnExactBestSkew': WHATEVER THE INPUT: true; the input reads as it did. -/
def fnExactBestSkewSpec : ChangeSpec := { name := "fnExactBestSkew", fn := fun _ => fun
  | [d1, d2] => { results := [.lit (.bool true)], args := [d1, d2] }
  | _ => none }
def fnExactBestSkewRow : OpenClaim := { program := "ytlikohjiiakhkaa", sum := "0a8c646b9281f0bb4608b406efb982529777174f034a10f375f2ab2aa7692723", func := "loop.example/g00949/laws.FnExactBestSkew", spec := "fnExactBestSkew", inPlace := ["internal/bytealg.IndexByteString"], unfollowed := true, recurses := true, apart := false }
def FnExactBestSkewSaid : Prop := fnExactBestSkewRow.holds Try.pinned (OpenSpec.ofChange fnExactBestSkewSpec)

/-- ITS FALSE NEIGHBOUR: 'it returns false'. Refute it at one input. -/
def fnExactBestSkewWrong : ChangeSpec := { name := "fnExactBestSkew", fn := fun _ => fun
  | [d1, d2] => { results := [.lit (.bool false)], args := [d1, d2] }
  | _ => none }
def FnExactBestSkewWrongFalsely : Prop := fnExactBestSkewRow.holds Try.pinned (OpenSpec.ofChange fnExactBestSkewWrong)

/-- 'laws.FnExactEncodeBlock': WHATEVER THE INPUT: true; the input reads as it did. -/
def fnExactEncodeBlockSpec : ChangeSpec := { name := "fnExactEncodeBlock", fn := fun _ => fun
  | [d] => { results := [.lit (.bool true)], args := [d] }
  | _ => none }
def fnExactEncodeBlockRow : OpenClaim := { program := "ytlikohjiiakhkaa", sum := "0a8c646b9281f0bb4608b406efb982529777174f034a10f375f2ab2aa7692723", func := "loop.example/g00949/laws.FnExactEncodeBlock", spec := "fnExactEncodeBlock", inPlace := ["internal/bytealg.IndexByteString"], apart := false }
def FnExactEncodeBlockSaid : Prop := fnExactEncodeBlockRow.holds Try.pinned (OpenSpec.ofChange fnExactEncodeBlockSpec)

/-- ITS FALSE NEIGHBOUR: 'it returns false'. Refute it at one input. -/
def fnExactEncodeBlockWrong : ChangeSpec := { name := "fnExactEncodeBlock", fn := fun _ => fun
  | [d] => { results := [.lit (.bool false)], args := [d] }
  | _ => none }
def FnExactEncodeBlockWrongFalsely : Prop := fnExactEncodeBlockRow.holds Try.pinned (OpenSpec.ofChange fnExactEncodeBlockWrong)

/-- 'laws.FnExactDataOf': WHATEVER THE INPUT: true; the input reads as it did. -/
def fnExactDataOfSpec : ChangeSpec := { name := "fnExactDataOf", fn := fun _ => fun
  | [d] => { results := [.lit (.bool true)], args := [d] }
  | _ => none }
def fnExactDataOfRow : OpenClaim := { program := "ytlikohjiiakhkaa", sum := "0a8c646b9281f0bb4608b406efb982529777174f034a10f375f2ab2aa7692723", func := "loop.example/g00949/laws.FnExactDataOf", spec := "fnExactDataOf", inPlace := ["internal/bytealg.IndexByteString"], apart := false }
def FnExactDataOfSaid : Prop := fnExactDataOfRow.holds Try.pinned (OpenSpec.ofChange fnExactDataOfSpec)

/-- ITS FALSE NEIGHBOUR: 'it returns false'. Refute it at one input. -/
def fnExactDataOfWrong : ChangeSpec := { name := "fnExactDataOf", fn := fun _ => fun
  | [d] => { results := [.lit (.bool false)], args := [d] }
  | _ => none }
def FnExactDataOfWrongFalsely : Prop := fnExactDataOfRow.holds Try.pinned (OpenSpec.ofChange fnExactDataOfWrong)

/-- 'laws.FnExactIsPunchJob': WHATEVER THE INPUT: true; the input reads as it did. -/
def fnExactIsPunchJobSpec : ChangeSpec := { name := "fnExactIsPunchJob", fn := fun _ => fun
  | [d] => { results := [.lit (.bool true)], args := [d] }
  | _ => none }
def fnExactIsPunchJobRow : OpenClaim := { program := "ytlikohjiiakhkaa", sum := "0a8c646b9281f0bb4608b406efb982529777174f034a10f375f2ab2aa7692723", func := "loop.example/g00949/laws.FnExactIsPunchJob", spec := "fnExactIsPunchJob", apart := false }
def FnExactIsPunchJobSaid : Prop := fnExactIsPunchJobRow.holds Try.pinned (OpenSpec.ofChange fnExactIsPunchJobSpec)

/-- ITS FALSE NEIGHBOUR: 'it returns false'. Refute it at one input. -/
def fnExactIsPunchJobWrong : ChangeSpec := { name := "fnExactIsPunchJob", fn := fun _ => fun
  | [d] => { results := [.lit (.bool false)], args := [d] }
  | _ => none }
def FnExactIsPunchJobWrongFalsely : Prop := fnExactIsPunchJobRow.holds Try.pinned (OpenSpec.ofChange fnExactIsPunchJobWrong)

/-- 'laws.FnExactShortestOrder': WHATEVER THE INPUT: true; the input reads as it did. -/
def fnExactShortestOrderSpec : ChangeSpec := { name := "fnExactShortestOrder", fn := fun _ => fun
  | [d1, d2] => { results := [.lit (.bool true)], args := [d1, d2] }
  | _ => none }
def fnExactShortestOrderRow : OpenClaim := { program := "ytlikohjiiakhkaa", sum := "0a8c646b9281f0bb4608b406efb982529777174f034a10f375f2ab2aa7692723", func := "loop.example/g00949/laws.FnExactShortestOrder", spec := "fnExactShortestOrder", recurses := true, apart := false }
def FnExactShortestOrderSaid : Prop := fnExactShortestOrderRow.holds Try.pinned (OpenSpec.ofChange fnExactShortestOrderSpec)

/-- ITS FALSE NEIGHBOUR: 'it returns false'. Refute it at one input. -/
def fnExactShortestOrderWrong : ChangeSpec := { name := "fnExactShortestOrder", fn := fun _ => fun
  | [d1, d2] => { results := [.lit (.bool false)], args := [d1, d2] }
  | _ => none }
def FnExactShortestOrderWrongFalsely : Prop := fnExactShortestOrderRow.holds Try.pinned (OpenSpec.ofChange fnExactShortestOrderWrong)

/-- 'laws.FnExactStrokesLeft': WHATEVER THE INPUT: true; the input reads as it did. -/
def fnExactStrokesLeftSpec : ChangeSpec := { name := "fnExactStrokesLeft", fn := fun _ => fun
  | [d] => { results := [.lit (.bool true)], args := [d] }
  | _ => none }
def fnExactStrokesLeftRow : OpenClaim := { program := "ytlikohjiiakhkaa", sum := "0a8c646b9281f0bb4608b406efb982529777174f034a10f375f2ab2aa7692723", func := "loop.example/g00949/laws.FnExactStrokesLeft", spec := "fnExactStrokesLeft", apart := false }
def FnExactStrokesLeftSaid : Prop := fnExactStrokesLeftRow.holds Try.pinned (OpenSpec.ofChange fnExactStrokesLeftSpec)

/-- ITS FALSE NEIGHBOUR: 'it returns false'. Refute it at one input. -/
def fnExactStrokesLeftWrong : ChangeSpec := { name := "fnExactStrokesLeft", fn := fun _ => fun
  | [d] => { results := [.lit (.bool false)], args := [d] }
  | _ => none }
def FnExactStrokesLeftWrongFalsely : Prop := fnExactStrokesLeftRow.holds Try.pinned (OpenSpec.ofChange fnExactStrokesLeftWrong)

/-- 'laws.FnExactStrokesOf': WHATEVER THE INPUT: true; the input reads as it did. -/
def fnExactStrokesOfSpec : ChangeSpec := { name := "fnExactStrokesOf", fn := fun _ => fun
  | [d] => { results := [.lit (.bool true)], args := [d] }
  | _ => none }
def fnExactStrokesOfRow : OpenClaim := { program := "ytlikohjiiakhkaa", sum := "0a8c646b9281f0bb4608b406efb982529777174f034a10f375f2ab2aa7692723", func := "loop.example/g00949/laws.FnExactStrokesOf", spec := "fnExactStrokesOf", apart := false }
def FnExactStrokesOfSaid : Prop := fnExactStrokesOfRow.holds Try.pinned (OpenSpec.ofChange fnExactStrokesOfSpec)

/-- ITS FALSE NEIGHBOUR: 'it returns false'. Refute it at one input. -/
def fnExactStrokesOfWrong : ChangeSpec := { name := "fnExactStrokesOf", fn := fun _ => fun
  | [d] => { results := [.lit (.bool false)], args := [d] }
  | _ => none }
def FnExactStrokesOfWrongFalsely : Prop := fnExactStrokesOfRow.holds Try.pinned (OpenSpec.ofChange fnExactStrokesOfWrong)

/-- 'laws.FnExactCountStains': WHATEVER THE INPUT: true; the input reads as it did. -/
def fnExactCountStainsSpec : ChangeSpec := { name := "fnExactCountStains", fn := fun _ => fun
  | [d] => { results := [.lit (.bool true)], args := [d] }
  | _ => none }
def fnExactCountStainsRow : OpenClaim := { program := "ytlikohjiiakhkaa", sum := "0a8c646b9281f0bb4608b406efb982529777174f034a10f375f2ab2aa7692723", func := "loop.example/g00949/laws.FnExactCountStains", spec := "fnExactCountStains", inPlace := ["internal/bytealg.IndexByteString", "internal/bytealg.CountString", "internal/bytealg.IndexString"], named := ["internal/bytealg.MaxLen"], apart := false }
def FnExactCountStainsSaid : Prop := fnExactCountStainsRow.holds Try.pinned (OpenSpec.ofChange fnExactCountStainsSpec)

/-- ITS FALSE NEIGHBOUR: 'it returns false'. Refute it at one input. -/
def fnExactCountStainsWrong : ChangeSpec := { name := "fnExactCountStains", fn := fun _ => fun
  | [d] => { results := [.lit (.bool false)], args := [d] }
  | _ => none }
def FnExactCountStainsWrongFalsely : Prop := fnExactCountStainsRow.holds Try.pinned (OpenSpec.ofChange fnExactCountStainsWrong)

/- THE SECOND FORM. 'bulk': how many values and letters a reading holds, each counted each time it is reached (what is shared counts as often as it is met; a slice's spare places count too). A statement '..UptoSaid' is the law's where the arguments, and the package variables that the reading takes, are together of bulk at most 1048576: NARROWER than '..Said'. Prove '..Said' where nothing that the law and all that it calls make is longer than what came in: it says more and counts as full. Else prove '..UptoSaid'. A law counts once. -/
mutual
def uptoBulk {H : Type} : DataW H → Nat
  | .lit (.string bytes) => bytes.length + 1
  | .lit _ => 1
  | .nil => 1
  | .ptr d => uptoBulk d + 1
  | .slice elems spare => uptoBulkAll elems + uptoBulkAll spare + 1
  | .agg parts => uptoBulkAll parts + 1
  | .iface _ d => uptoBulk d + 1
  | .map entries => uptoBulkEntries entries + 1
  | .held _ => 1
def uptoBulkAll {H : Type} : List (DataW H) → Nat
  | [] => 0
  | d :: r => uptoBulk d + uptoBulkAll r
def uptoBulkEntries {H : Type} : List (Lit × DataW H) → Nat
  | [] => 0
  | x :: r => uptoBulkEntry x + uptoBulkEntries r
def uptoBulkEntry {H : Type} : Lit × DataW H → Nat
  | (.string bytes, d) => bytes.length + uptoBulk d + 1
  | (_, d) => uptoBulk d + 1
 end
def uptoSmall : (H : Type) → List (DataW H) → Bool := fun _ ds => decide (uptoBulkAll ds ≤ 1048576)
def OpenSpec.upto (s : _root_.Go.ChangeSpec) : _root_.Go.OpenSpec := { _root_.Go.OpenSpec.ofChange s with cond := some uptoSmall }

/-- 'laws.FnExactIsCode', WHERE WHAT IT READS IS OF BULK AT MOST 1048576: true; the input reads as it did. -/
def fnExactIsCodeUptoRow : OpenClaim := { program := "ytlikohjiiakhkaa", sum := "0a8c646b9281f0bb4608b406efb982529777174f034a10f375f2ab2aa7692723", func := "loop.example/g00949/laws.FnExactIsCode", spec := "fnExactIsCode", inPlace := ["internal/bytealg.IndexByteString"], apart := false, narrowed := true }
def FnExactIsCodeUptoSaid : Prop := fnExactIsCodeUptoRow.holds Try.pinned (OpenSpec.upto fnExactIsCodeSpec)

/-- 'laws.FnExactSkewScan', WHERE WHAT IT READS IS OF BULK AT MOST 1048576: true; the input reads as it did. -/
def fnExactSkewScanUptoRow : OpenClaim := { program := "ytlikohjiiakhkaa", sum := "0a8c646b9281f0bb4608b406efb982529777174f034a10f375f2ab2aa7692723", func := "loop.example/g00949/laws.FnExactSkewScan", spec := "fnExactSkewScan", inPlace := ["internal/bytealg.IndexByteString"], unfollowed := true, recurses := true, apart := false, narrowed := true }
def FnExactSkewScanUptoSaid : Prop := fnExactSkewScanUptoRow.holds Try.pinned (OpenSpec.upto fnExactSkewScanSpec)

/-- 'laws.FnExactMeetScans', WHERE WHAT IT READS IS OF BULK AT MOST 1048576: true; the input reads as it did. -/
def fnExactMeetScansUptoRow : OpenClaim := { program := "ytlikohjiiakhkaa", sum := "0a8c646b9281f0bb4608b406efb982529777174f034a10f375f2ab2aa7692723", func := "loop.example/g00949/laws.FnExactMeetScans", spec := "fnExactMeetScans", inPlace := ["internal/bytealg.IndexByteString"], unfollowed := true, recurses := true, apart := false, narrowed := true }
def FnExactMeetScansUptoSaid : Prop := fnExactMeetScansUptoRow.holds Try.pinned (OpenSpec.upto fnExactMeetScansSpec)

/-- 'laws.FnExactWrongMark', WHERE WHAT IT READS IS OF BULK AT MOST 1048576: true; the input reads as it did. -/
def fnExactWrongMarkUptoRow : OpenClaim := { program := "ytlikohjiiakhkaa", sum := "0a8c646b9281f0bb4608b406efb982529777174f034a10f375f2ab2aa7692723", func := "loop.example/g00949/laws.FnExactWrongMark", spec := "fnExactWrongMark", inPlace := ["internal/bytealg.IndexByteString"], apart := false, narrowed := true }
def FnExactWrongMarkUptoSaid : Prop := fnExactWrongMarkUptoRow.holds Try.pinned (OpenSpec.upto fnExactWrongMarkSpec)

/-- 'laws.FnExactBestSkew', WHERE WHAT IT READS IS OF BULK AT MOST 1048576: true; the input reads as it did. -/
def fnExactBestSkewUptoRow : OpenClaim := { program := "ytlikohjiiakhkaa", sum := "0a8c646b9281f0bb4608b406efb982529777174f034a10f375f2ab2aa7692723", func := "loop.example/g00949/laws.FnExactBestSkew", spec := "fnExactBestSkew", inPlace := ["internal/bytealg.IndexByteString"], unfollowed := true, recurses := true, apart := false, narrowed := true }
def FnExactBestSkewUptoSaid : Prop := fnExactBestSkewUptoRow.holds Try.pinned (OpenSpec.upto fnExactBestSkewSpec)

/-- 'laws.FnExactEncodeBlock', WHERE WHAT IT READS IS OF BULK AT MOST 1048576: true; the input reads as it did. -/
def fnExactEncodeBlockUptoRow : OpenClaim := { program := "ytlikohjiiakhkaa", sum := "0a8c646b9281f0bb4608b406efb982529777174f034a10f375f2ab2aa7692723", func := "loop.example/g00949/laws.FnExactEncodeBlock", spec := "fnExactEncodeBlock", inPlace := ["internal/bytealg.IndexByteString"], apart := false, narrowed := true }
def FnExactEncodeBlockUptoSaid : Prop := fnExactEncodeBlockUptoRow.holds Try.pinned (OpenSpec.upto fnExactEncodeBlockSpec)

/-- 'laws.FnExactDataOf', WHERE WHAT IT READS IS OF BULK AT MOST 1048576: true; the input reads as it did. -/
def fnExactDataOfUptoRow : OpenClaim := { program := "ytlikohjiiakhkaa", sum := "0a8c646b9281f0bb4608b406efb982529777174f034a10f375f2ab2aa7692723", func := "loop.example/g00949/laws.FnExactDataOf", spec := "fnExactDataOf", inPlace := ["internal/bytealg.IndexByteString"], apart := false, narrowed := true }
def FnExactDataOfUptoSaid : Prop := fnExactDataOfUptoRow.holds Try.pinned (OpenSpec.upto fnExactDataOfSpec)

/-- 'laws.FnExactIsPunchJob', WHERE WHAT IT READS IS OF BULK AT MOST 1048576: true; the input reads as it did. -/
def fnExactIsPunchJobUptoRow : OpenClaim := { program := "ytlikohjiiakhkaa", sum := "0a8c646b9281f0bb4608b406efb982529777174f034a10f375f2ab2aa7692723", func := "loop.example/g00949/laws.FnExactIsPunchJob", spec := "fnExactIsPunchJob", apart := false, narrowed := true }
def FnExactIsPunchJobUptoSaid : Prop := fnExactIsPunchJobUptoRow.holds Try.pinned (OpenSpec.upto fnExactIsPunchJobSpec)

/-- 'laws.FnExactShortestOrder', WHERE WHAT IT READS IS OF BULK AT MOST 1048576: true; the input reads as it did. -/
def fnExactShortestOrderUptoRow : OpenClaim := { program := "ytlikohjiiakhkaa", sum := "0a8c646b9281f0bb4608b406efb982529777174f034a10f375f2ab2aa7692723", func := "loop.example/g00949/laws.FnExactShortestOrder", spec := "fnExactShortestOrder", recurses := true, apart := false, narrowed := true }
def FnExactShortestOrderUptoSaid : Prop := fnExactShortestOrderUptoRow.holds Try.pinned (OpenSpec.upto fnExactShortestOrderSpec)

/-- 'laws.FnExactStrokesLeft', WHERE WHAT IT READS IS OF BULK AT MOST 1048576: true; the input reads as it did. -/
def fnExactStrokesLeftUptoRow : OpenClaim := { program := "ytlikohjiiakhkaa", sum := "0a8c646b9281f0bb4608b406efb982529777174f034a10f375f2ab2aa7692723", func := "loop.example/g00949/laws.FnExactStrokesLeft", spec := "fnExactStrokesLeft", apart := false, narrowed := true }
def FnExactStrokesLeftUptoSaid : Prop := fnExactStrokesLeftUptoRow.holds Try.pinned (OpenSpec.upto fnExactStrokesLeftSpec)

/-- 'laws.FnExactStrokesOf', WHERE WHAT IT READS IS OF BULK AT MOST 1048576: true; the input reads as it did. -/
def fnExactStrokesOfUptoRow : OpenClaim := { program := "ytlikohjiiakhkaa", sum := "0a8c646b9281f0bb4608b406efb982529777174f034a10f375f2ab2aa7692723", func := "loop.example/g00949/laws.FnExactStrokesOf", spec := "fnExactStrokesOf", apart := false, narrowed := true }
def FnExactStrokesOfUptoSaid : Prop := fnExactStrokesOfUptoRow.holds Try.pinned (OpenSpec.upto fnExactStrokesOfSpec)

/-- 'laws.FnExactCountStains', WHERE WHAT IT READS IS OF BULK AT MOST 1048576: true; the input reads as it did. -/
def fnExactCountStainsUptoRow : OpenClaim := { program := "ytlikohjiiakhkaa", sum := "0a8c646b9281f0bb4608b406efb982529777174f034a10f375f2ab2aa7692723", func := "loop.example/g00949/laws.FnExactCountStains", spec := "fnExactCountStains", inPlace := ["internal/bytealg.IndexByteString", "internal/bytealg.CountString", "internal/bytealg.IndexString"], named := ["internal/bytealg.MaxLen"], apart := false, narrowed := true }
def FnExactCountStainsUptoSaid : Prop := fnExactCountStainsUptoRow.holds Try.pinned (OpenSpec.upto fnExactCountStainsSpec)

end Rows
end Go.Proofs.Ytlikohjiiakhkaa
