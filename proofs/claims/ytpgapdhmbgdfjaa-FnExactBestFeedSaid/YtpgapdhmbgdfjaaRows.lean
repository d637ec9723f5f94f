/-
  No cell of these rows narrows 'for every input' (looked for: loops, veiled, ifaces, maps, wideKeys, modest, calm, conditions, laid).
  DERIVED. THE GIVEN ROWS OF THIS SEAT. 12 by the template 'for every input the law returns true; each argument reads behind the call as it read before'; 0 by the template 'total and deterministic' (their statements: YtpgapdhmbgdfjaaTotals.lean).
  GIVEN WITH THE SEED: the statements are not yours to turn. If you find one false, say at which input.
  Laid BY PROGRAM, IN A SANDBOX (cutbox-rows.mjs): the forced cells as the released guide's own fill.sh prints them over the translation 81cb0951d19a8e2b… (all of the seat's roots in one cut). By AI agents, Wed Nov 11 2026. No macro, syntax, notation, axiom, sorry.
-/
import Derived.Test.YtpgapdhmbgdfjaaChecked
import GoSem.Claim
import GoSem.ClaimJoined
import GoSem.ClaimMapViews
import Derived.JoinedTies
import Derived.KernelRfl
namespace Go.Proofs.Ytpgapdhmbgdfjaa
/- THE CELL 'sum', in the pinned program and in every row, IS THE sha256 OF THE DUMP (.gsa) THAT YtpgapdhmbgdfjaaProg.lean LOADS. Nothing in Lean hashes anything: it is a label: what it is worth is what the hold of that sum in a sandbox is worth. -/
noncomputable def Try.pinned : Pinned := { name := "ytpgapdhmbgdfjaa", sum := "81cb0951d19a8e2bb3c74709451704d7bf424b5628815368ccd2034f1bd748e4", checked := Try.checked }
namespace Rows
def none {H : Type} : Left H := { results := [], args := [] }

/-- 'laws.FnExactAreStrokes': WHATEVER THE INPUT: true; the input reads as it did. -/
def fnExactAreStrokesSpec : ChangeSpec := { name := "fnExactAreStrokes", fn := fun _ => fun
  | [d] => { results := [.lit (.bool true)], args := [d] }
  | _ => none }
def fnExactAreStrokesRow : OpenClaim := { program := "ytpgapdhmbgdfjaa", sum := "81cb0951d19a8e2bb3c74709451704d7bf424b5628815368ccd2034f1bd748e4", func := "loop.example/g00949/laws.FnExactAreStrokes", spec := "fnExactAreStrokes", apart := false }
def FnExactAreStrokesSaid : Prop := fnExactAreStrokesRow.holds Try.pinned (OpenSpec.ofChange fnExactAreStrokesSpec)

/-- ITS FALSE NEIGHBOUR: 'it returns false'. Refute it at one input. -/
def fnExactAreStrokesWrong : ChangeSpec := { name := "fnExactAreStrokes", fn := fun _ => fun
  | [d] => { results := [.lit (.bool false)], args := [d] }
  | _ => none }
def FnExactAreStrokesWrongFalsely : Prop := fnExactAreStrokesRow.holds Try.pinned (OpenSpec.ofChange fnExactAreStrokesWrong)

/-- 'laws.FnExactIsScan': WHATEVER THE INPUT: true; the input reads as it did. -/
def fnExactIsScanSpec : ChangeSpec := { name := "fnExactIsScan", fn := fun _ => fun
  | [d] => { results := [.lit (.bool true)], args := [d] }
  | _ => none }
def fnExactIsScanRow : OpenClaim := { program := "ytpgapdhmbgdfjaa", sum := "81cb0951d19a8e2bb3c74709451704d7bf424b5628815368ccd2034f1bd748e4", func := "loop.example/g00949/laws.FnExactIsScan", spec := "fnExactIsScan", inPlace := ["internal/bytealg.IndexByteString"], apart := false }
def FnExactIsScanSaid : Prop := fnExactIsScanRow.holds Try.pinned (OpenSpec.ofChange fnExactIsScanSpec)

/-- ITS FALSE NEIGHBOUR: 'it returns false'. Refute it at one input. -/
def fnExactIsScanWrong : ChangeSpec := { name := "fnExactIsScan", fn := fun _ => fun
  | [d] => { results := [.lit (.bool false)], args := [d] }
  | _ => none }
def FnExactIsScanWrongFalsely : Prop := fnExactIsScanRow.holds Try.pinned (OpenSpec.ofChange fnExactIsScanWrong)

/-- 'laws.FnExactIsBlock': WHATEVER THE INPUT: true; the input reads as it did. -/
def fnExactIsBlockSpec : ChangeSpec := { name := "fnExactIsBlock", fn := fun _ => fun
  | [d] => { results := [.lit (.bool true)], args := [d] }
  | _ => none }
def fnExactIsBlockRow : OpenClaim := { program := "ytpgapdhmbgdfjaa", sum := "81cb0951d19a8e2bb3c74709451704d7bf424b5628815368ccd2034f1bd748e4", func := "loop.example/g00949/laws.FnExactIsBlock", spec := "fnExactIsBlock", inPlace := ["internal/bytealg.IndexByteString"], apart := false }
def FnExactIsBlockSaid : Prop := fnExactIsBlockRow.holds Try.pinned (OpenSpec.ofChange fnExactIsBlockSpec)

/-- ITS FALSE NEIGHBOUR: 'it returns false'. Refute it at one input. -/
def fnExactIsBlockWrong : ChangeSpec := { name := "fnExactIsBlock", fn := fun _ => fun
  | [d] => { results := [.lit (.bool false)], args := [d] }
  | _ => none }
def FnExactIsBlockWrongFalsely : Prop := fnExactIsBlockRow.holds Try.pinned (OpenSpec.ofChange fnExactIsBlockWrong)

/-- 'laws.FnExactToolChanges': WHATEVER THE INPUT: true; the input reads as it did. -/
def fnExactToolChangesSpec : ChangeSpec := { name := "fnExactToolChanges", fn := fun _ => fun
  | [d1, d2] => { results := [.lit (.bool true)], args := [d1, d2] }
  | _ => none }
def fnExactToolChangesRow : OpenClaim := { program := "ytpgapdhmbgdfjaa", sum := "81cb0951d19a8e2bb3c74709451704d7bf424b5628815368ccd2034f1bd748e4", func := "loop.example/g00949/laws.FnExactToolChanges", spec := "fnExactToolChanges", apart := false }
def FnExactToolChangesSaid : Prop := fnExactToolChangesRow.holds Try.pinned (OpenSpec.ofChange fnExactToolChangesSpec)

/-- ITS FALSE NEIGHBOUR: 'it returns false'. Refute it at one input. -/
def fnExactToolChangesWrong : ChangeSpec := { name := "fnExactToolChanges", fn := fun _ => fun
  | [d1, d2] => { results := [.lit (.bool false)], args := [d1, d2] }
  | _ => none }
def FnExactToolChangesWrongFalsely : Prop := fnExactToolChangesRow.holds Try.pinned (OpenSpec.ofChange fnExactToolChangesWrong)

/-- 'laws.FnExactWayOfHead': WHATEVER THE INPUT: true; the input reads as it did. -/
def fnExactWayOfHeadSpec : ChangeSpec := { name := "fnExactWayOfHead", fn := fun _ => fun
  | [d1, d2] => { results := [.lit (.bool true)], args := [d1, d2] }
  | _ => none }
def fnExactWayOfHeadRow : OpenClaim := { program := "ytpgapdhmbgdfjaa", sum := "81cb0951d19a8e2bb3c74709451704d7bf424b5628815368ccd2034f1bd748e4", func := "loop.example/g00949/laws.FnExactWayOfHead", spec := "fnExactWayOfHead", apart := false }
def FnExactWayOfHeadSaid : Prop := fnExactWayOfHeadRow.holds Try.pinned (OpenSpec.ofChange fnExactWayOfHeadSpec)

/-- ITS FALSE NEIGHBOUR: 'it returns false'. Refute it at one input. -/
def fnExactWayOfHeadWrong : ChangeSpec := { name := "fnExactWayOfHead", fn := fun _ => fun
  | [d1, d2] => { results := [.lit (.bool false)], args := [d1, d2] }
  | _ => none }
def FnExactWayOfHeadWrongFalsely : Prop := fnExactWayOfHeadRow.holds Try.pinned (OpenSpec.ofChange fnExactWayOfHeadWrong)

/-- 'laws.FnExactAgreeScans': WHATEVER THE INPUT: true; the input reads as it did. -/
def fnExactAgreeScansSpec : ChangeSpec := { name := "fnExactAgreeScans", fn := fun _ => fun
  | [d1, d2] => { results := [.lit (.bool true)], args := [d1, d2] }
  | _ => none }
def fnExactAgreeScansRow : OpenClaim := { program := "ytpgapdhmbgdfjaa", sum := "81cb0951d19a8e2bb3c74709451704d7bf424b5628815368ccd2034f1bd748e4", func := "loop.example/g00949/laws.FnExactAgreeScans", spec := "fnExactAgreeScans", inPlace := ["internal/bytealg.IndexByteString"], apart := false }
def FnExactAgreeScansSaid : Prop := fnExactAgreeScansRow.holds Try.pinned (OpenSpec.ofChange fnExactAgreeScansSpec)

/-- ITS FALSE NEIGHBOUR: 'it returns false'. Refute it at one input. -/
def fnExactAgreeScansWrong : ChangeSpec := { name := "fnExactAgreeScans", fn := fun _ => fun
  | [d1, d2] => { results := [.lit (.bool false)], args := [d1, d2] }
  | _ => none }
def FnExactAgreeScansWrongFalsely : Prop := fnExactAgreeScansRow.holds Try.pinned (OpenSpec.ofChange fnExactAgreeScansWrong)

/-- 'laws.FnExactFeedErrors': WHATEVER THE INPUT: true; the input reads as it did. -/
def fnExactFeedErrorsSpec : ChangeSpec := { name := "fnExactFeedErrors", fn := fun _ => fun
  | [d1, d2, d3, d4] => { results := [.lit (.bool true)], args := [d1, d2, d3, d4] }
  | _ => none }
def fnExactFeedErrorsRow : OpenClaim := { program := "ytpgapdhmbgdfjaa", sum := "81cb0951d19a8e2bb3c74709451704d7bf424b5628815368ccd2034f1bd748e4", func := "loop.example/g00949/laws.FnExactFeedErrors", spec := "fnExactFeedErrors", inPlace := ["internal/bytealg.IndexByteString"], apart := false }
def FnExactFeedErrorsSaid : Prop := fnExactFeedErrorsRow.holds Try.pinned (OpenSpec.ofChange fnExactFeedErrorsSpec)

/-- ITS FALSE NEIGHBOUR: 'it returns false'. Refute it at one input. -/
def fnExactFeedErrorsWrong : ChangeSpec := { name := "fnExactFeedErrors", fn := fun _ => fun
  | [d1, d2, d3, d4] => { results := [.lit (.bool false)], args := [d1, d2, d3, d4] }
  | _ => none }
def FnExactFeedErrorsWrongFalsely : Prop := fnExactFeedErrorsRow.holds Try.pinned (OpenSpec.ofChange fnExactFeedErrorsWrong)

/-- 'laws.FnExactSwapGain': WHATEVER THE INPUT: true; the input reads as it did. -/
def fnExactSwapGainSpec : ChangeSpec := { name := "fnExactSwapGain", fn := fun _ => fun
  | [d1, d2, d3, d4] => { results := [.lit (.bool true)], args := [d1, d2, d3, d4] }
  | _ => none }
def fnExactSwapGainRow : OpenClaim := { program := "ytpgapdhmbgdfjaa", sum := "81cb0951d19a8e2bb3c74709451704d7bf424b5628815368ccd2034f1bd748e4", func := "loop.example/g00949/laws.FnExactSwapGain", spec := "fnExactSwapGain", apart := false }
def FnExactSwapGainSaid : Prop := fnExactSwapGainRow.holds Try.pinned (OpenSpec.ofChange fnExactSwapGainSpec)

/-- ITS FALSE NEIGHBOUR: 'it returns false'. Refute it at one input. -/
def fnExactSwapGainWrong : ChangeSpec := { name := "fnExactSwapGain", fn := fun _ => fun
  | [d1, d2, d3, d4] => { results := [.lit (.bool false)], args := [d1, d2, d3, d4] }
  | _ => none }
def FnExactSwapGainWrongFalsely : Prop := fnExactSwapGainRow.holds Try.pinned (OpenSpec.ofChange fnExactSwapGainWrong)

/-- 'laws.FnExactWearOf': WHATEVER THE INPUT: true; the input reads as it did. -/
def fnExactWearOfSpec : ChangeSpec := { name := "fnExactWearOf", fn := fun _ => fun
  | [d1, d2] => { results := [.lit (.bool true)], args := [d1, d2] }
  | _ => none }
def fnExactWearOfRow : OpenClaim := { program := "ytpgapdhmbgdfjaa", sum := "81cb0951d19a8e2bb3c74709451704d7bf424b5628815368ccd2034f1bd748e4", func := "loop.example/g00949/laws.FnExactWearOf", spec := "fnExactWearOf", apart := false }
def FnExactWearOfSaid : Prop := fnExactWearOfRow.holds Try.pinned (OpenSpec.ofChange fnExactWearOfSpec)

/-- ITS FALSE NEIGHBOUR: 'it returns false'. Refute it at one input. -/
def fnExactWearOfWrong : ChangeSpec := { name := "fnExactWearOf", fn := fun _ => fun
  | [d1, d2] => { results := [.lit (.bool false)], args := [d1, d2] }
  | _ => none }
def FnExactWearOfWrongFalsely : Prop := fnExactWearOfRow.holds Try.pinned (OpenSpec.ofChange fnExactWearOfWrong)

/-- 'laws.FnExactBestFeed': WHATEVER THE INPUT: true; the input reads as it did. -/
def fnExactBestFeedSpec : ChangeSpec := { name := "fnExactBestFeed", fn := fun _ => fun
  | [d1, d2, d3] => { results := [.lit (.bool true)], args := [d1, d2, d3] }
  | _ => none }
def fnExactBestFeedRow : OpenClaim := { program := "ytpgapdhmbgdfjaa", sum := "81cb0951d19a8e2bb3c74709451704d7bf424b5628815368ccd2034f1bd748e4", func := "loop.example/g00949/laws.FnExactBestFeed", spec := "fnExactBestFeed", inPlace := ["internal/bytealg.IndexByteString"], apart := false }
def FnExactBestFeedSaid : Prop := fnExactBestFeedRow.holds Try.pinned (OpenSpec.ofChange fnExactBestFeedSpec)

/-- ITS FALSE NEIGHBOUR: 'it returns false'. Refute it at one input. -/
def fnExactBestFeedWrong : ChangeSpec := { name := "fnExactBestFeed", fn := fun _ => fun
  | [d1, d2, d3] => { results := [.lit (.bool false)], args := [d1, d2, d3] }
  | _ => none }
def FnExactBestFeedWrongFalsely : Prop := fnExactBestFeedRow.holds Try.pinned (OpenSpec.ofChange fnExactBestFeedWrong)

/-- 'laws.FnExactSplitSheet': WHATEVER THE INPUT: true; the input reads as it did. -/
def fnExactSplitSheetSpec : ChangeSpec := { name := "fnExactSplitSheet", fn := fun _ => fun
  | [d1, d2] => { results := [.lit (.bool true)], args := [d1, d2] }
  | _ => none }
def fnExactSplitSheetRow : OpenClaim := { program := "ytpgapdhmbgdfjaa", sum := "81cb0951d19a8e2bb3c74709451704d7bf424b5628815368ccd2034f1bd748e4", func := "loop.example/g00949/laws.FnExactSplitSheet", spec := "fnExactSplitSheet", apart := false }
def FnExactSplitSheetSaid : Prop := fnExactSplitSheetRow.holds Try.pinned (OpenSpec.ofChange fnExactSplitSheetSpec)

/-- ITS FALSE NEIGHBOUR: 'it returns false'. Refute it at one input. -/
def fnExactSplitSheetWrong : ChangeSpec := { name := "fnExactSplitSheet", fn := fun _ => fun
  | [d1, d2] => { results := [.lit (.bool false)], args := [d1, d2] }
  | _ => none }
def FnExactSplitSheetWrongFalsely : Prop := fnExactSplitSheetRow.holds Try.pinned (OpenSpec.ofChange fnExactSplitSheetWrong)

/-- 'laws.FnExactStainScan': WHATEVER THE INPUT: true; the input reads as it did. -/
def fnExactStainScanSpec : ChangeSpec := { name := "fnExactStainScan", fn := fun _ => fun
  | [d1, d2, d3, d4] => { results := [.lit (.bool true)], args := [d1, d2, d3, d4] }
  | _ => none }
def fnExactStainScanRow : OpenClaim := { program := "ytpgapdhmbgdfjaa", sum := "81cb0951d19a8e2bb3c74709451704d7bf424b5628815368ccd2034f1bd748e4", func := "loop.example/g00949/laws.FnExactStainScan", spec := "fnExactStainScan", inPlace := ["internal/bytealg.IndexByteString"], unfollowed := true, recurses := true, apart := false }
def FnExactStainScanSaid : Prop := fnExactStainScanRow.holds Try.pinned (OpenSpec.ofChange fnExactStainScanSpec)

/-- ITS FALSE NEIGHBOUR: 'it returns false'. Refute it at one input. -/
def fnExactStainScanWrong : ChangeSpec := { name := "fnExactStainScan", fn := fun _ => fun
  | [d1, d2, d3, d4] => { results := [.lit (.bool false)], args := [d1, d2, d3, d4] }
  | _ => none }
def FnExactStainScanWrongFalsely : Prop := fnExactStainScanRow.holds Try.pinned (OpenSpec.ofChange fnExactStainScanWrong)

/- THE SECOND FORM. 'bulk': how many values and letters a reading holds, each counted each time it is reached (what is shared counts as often as it is met; a slice's spare places count too). A statement '..UptoSaid' is the law's where the arguments, and the package variables that the reading takes, are together of bulk at most 1048576: NARROWER than '..Said'. Prove '..Said' where nothing that the law and all that it calls make is longer than what came in: it says more and counts as full. Else prove '..UptoSaid'. A law counts once. -/
mutual
def uptoBulk {H : Type} : DataW H → Nat
  | .lit (.string bytes) => bytes.length + 1
  | .lit _ => 1
  | .nil => 1
  | .ptr d => uptoBulk d + 1
  | .slice elems spare => uptoBulkAll elems + uptoBulkAll spare + 1
  | .agg parts => uptoBulkAll parts + 1
  | .iface _ d => uptoBulk d + 1
  | .map entries => uptoBulkEntries entries + 1
  | .held _ => 1
def uptoBulkAll {H : Type} : List (DataW H) → Nat
  | [] => 0
  | d :: r => uptoBulk d + uptoBulkAll r
def uptoBulkEntries {H : Type} : List (Lit × DataW H) → Nat
  | [] => 0
  | x :: r => uptoBulkEntry x + uptoBulkEntries r
def uptoBulkEntry {H : Type} : Lit × DataW H → Nat
  | (.string bytes, d) => bytes.length + uptoBulk d + 1
  | (_, d) => uptoBulk d + 1
 end
def uptoSmall : (H : Type) → List (DataW H) → Bool := fun _ ds => decide (uptoBulkAll ds ≤ 1048576)
def OpenSpec.upto (s : _root_.Go.ChangeSpec) : _root_.Go.OpenSpec := { _root_.Go.OpenSpec.ofChange s with cond := some uptoSmall }

/-- 'laws.FnExactAreStrokes', WHERE WHAT IT READS IS OF BULK AT MOST 1048576: true; the input reads as it did. -/
def fnExactAreStrokesUptoRow : OpenClaim := { program := "ytpgapdhmbgdfjaa", sum := "81cb0951d19a8e2bb3c74709451704d7bf424b5628815368ccd2034f1bd748e4", func := "loop.example/g00949/laws.FnExactAreStrokes", spec := "fnExactAreStrokes", apart := false, narrowed := true }
def FnExactAreStrokesUptoSaid : Prop := fnExactAreStrokesUptoRow.holds Try.pinned (OpenSpec.upto fnExactAreStrokesSpec)

/-- 'laws.FnExactIsScan', WHERE WHAT IT READS IS OF BULK AT MOST 1048576: true; the input reads as it did. -/
def fnExactIsScanUptoRow : OpenClaim := { program := "ytpgapdhmbgdfjaa", sum := "81cb0951d19a8e2bb3c74709451704d7bf424b5628815368ccd2034f1bd748e4", func := "loop.example/g00949/laws.FnExactIsScan", spec := "fnExactIsScan", inPlace := ["internal/bytealg.IndexByteString"], apart := false, narrowed := true }
def FnExactIsScanUptoSaid : Prop := fnExactIsScanUptoRow.holds Try.pinned (OpenSpec.upto fnExactIsScanSpec)

/-- 'laws.FnExactIsBlock', WHERE WHAT IT READS IS OF BULK AT MOST 1048576: true; the input reads as it did. -/
def fnExactIsBlockUptoRow : OpenClaim := { program := "ytpgapdhmbgdfjaa", sum := "81cb0951d19a8e2bb3c74709451704d7bf424b5628815368ccd2034f1bd748e4", func := "loop.example/g00949/laws.FnExactIsBlock", spec := "fnExactIsBlock", inPlace := ["internal/bytealg.IndexByteString"], apart := false, narrowed := true }
def FnExactIsBlockUptoSaid : Prop := fnExactIsBlockUptoRow.holds Try.pinned (OpenSpec.upto fnExactIsBlockSpec)

/-- 'laws.FnExactToolChanges', WHERE WHAT IT READS IS OF BULK AT MOST 1048576: true; the input reads as it did. -/
def fnExactToolChangesUptoRow : OpenClaim := { program := "ytpgapdhmbgdfjaa", sum := "81cb0951d19a8e2bb3c74709451704d7bf424b5628815368ccd2034f1bd748e4", func := "loop.example/g00949/laws.FnExactToolChanges", spec := "fnExactToolChanges", apart := false, narrowed := true }
def FnExactToolChangesUptoSaid : Prop := fnExactToolChangesUptoRow.holds Try.pinned (OpenSpec.upto fnExactToolChangesSpec)

/-- 'laws.FnExactWayOfHead', WHERE WHAT IT READS IS OF BULK AT MOST 1048576: true; the input reads as it did. -/
def fnExactWayOfHeadUptoRow : OpenClaim := { program := "ytpgapdhmbgdfjaa", sum := "81cb0951d19a8e2bb3c74709451704d7bf424b5628815368ccd2034f1bd748e4", func := "loop.example/g00949/laws.FnExactWayOfHead", spec := "fnExactWayOfHead", apart := false, narrowed := true }
def FnExactWayOfHeadUptoSaid : Prop := fnExactWayOfHeadUptoRow.holds Try.pinned (OpenSpec.upto fnExactWayOfHeadSpec)

/-- 'laws.FnExactAgreeScans', WHERE WHAT IT READS IS OF BULK AT MOST 1048576: true; the input reads as it did. -/
def fnExactAgreeScansUptoRow : OpenClaim := { program := "ytpgapdhmbgdfjaa", sum := "81cb0951d19a8e2bb3c74709451704d7bf424b5628815368ccd2034f1bd748e4", func := "loop.example/g00949/laws.FnExactAgreeScans", spec := "fnExactAgreeScans", inPlace := ["internal/bytealg.IndexByteString"], apart := false, narrowed := true }
def FnExactAgreeScansUptoSaid : Prop := fnExactAgreeScansUptoRow.holds Try.pinned (OpenSpec.upto fnExactAgreeScansSpec)

/-- 'laws.FnExactFeedErrors', WHERE WHAT IT READS IS OF BULK AT MOST 1048576: true; the input reads as it did. -/
def fnExactFeedErrorsUptoRow : OpenClaim := { program := "ytpgapdhmbgdfjaa", sum := "81cb0951d19a8e2bb3c74709451704d7bf424b5628815368ccd2034f1bd748e4", func := "loop.example/g00949/laws.FnExactFeedErrors", spec := "fnExactFeedErrors", inPlace := ["internal/bytealg.IndexByteString"], apart := false, narrowed := true }
def FnExactFeedErrorsUptoSaid : Prop := fnExactFeedErrorsUptoRow.holds Try.pinned (OpenSpec.upto fnExactFeedErrorsSpec)

/-- 'laws.FnExactSwapGain', WHERE WHAT IT READS IS OF BULK AT MOST 1048576: true; the input reads as it did. -/
def fnExactSwapGainUptoRow : OpenClaim := { program := "ytpgapdhmbgdfjaa", sum := "81cb0951d19a8e2bb3c74709451704d7bf424b5628815368ccd2034f1bd748e4", func := "loop.example/g00949/laws.FnExactSwapGain", spec := "fnExactSwapGain", apart := false, narrowed := true }
def FnExactSwapGainUptoSaid : Prop := fnExactSwapGainUptoRow.holds Try.pinned (OpenSpec.upto fnExactSwapGainSpec)

/-- 'laws.FnExactWearOf', WHERE WHAT IT READS IS OF BULK AT MOST 1048576: true; the input reads as it did. -/
def fnExactWearOfUptoRow : OpenClaim := { program := "ytpgapdhmbgdfjaa", sum := "81cb0951d19a8e2bb3c74709451704d7bf424b5628815368ccd2034f1bd748e4", func := "loop.example/g00949/laws.FnExactWearOf", spec := "fnExactWearOf", apart := false, narrowed := true }
def FnExactWearOfUptoSaid : Prop := fnExactWearOfUptoRow.holds Try.pinned (OpenSpec.upto fnExactWearOfSpec)

/-- 'laws.FnExactBestFeed', WHERE WHAT IT READS IS OF BULK AT MOST 1048576: true; the input reads as it did. -/
def fnExactBestFeedUptoRow : OpenClaim := { program := "ytpgapdhmbgdfjaa", sum := "81cb0951d19a8e2bb3c74709451704d7bf424b5628815368ccd2034f1bd748e4", func := "loop.example/g00949/laws.FnExactBestFeed", spec := "fnExactBestFeed", inPlace := ["internal/bytealg.IndexByteString"], apart := false, narrowed := true }
def FnExactBestFeedUptoSaid : Prop := fnExactBestFeedUptoRow.holds Try.pinned (OpenSpec.upto fnExactBestFeedSpec)

/-- 'laws.FnExactSplitSheet', WHERE WHAT IT READS IS OF BULK AT MOST 1048576: true; the input reads as it did. -/
def fnExactSplitSheetUptoRow : OpenClaim := { program := "ytpgapdhmbgdfjaa", sum := "81cb0951d19a8e2bb3c74709451704d7bf424b5628815368ccd2034f1bd748e4", func := "loop.example/g00949/laws.FnExactSplitSheet", spec := "fnExactSplitSheet", apart := false, narrowed := true }
def FnExactSplitSheetUptoSaid : Prop := fnExactSplitSheetUptoRow.holds Try.pinned (OpenSpec.upto fnExactSplitSheetSpec)

/-- 'laws.FnExactStainScan', WHERE WHAT IT READS IS OF BULK AT MOST 1048576: true; the input reads as it did. -/
def fnExactStainScanUptoRow : OpenClaim := { program := "ytpgapdhmbgdfjaa", sum := "81cb0951d19a8e2bb3c74709451704d7bf424b5628815368ccd2034f1bd748e4", func := "loop.example/g00949/laws.FnExactStainScan", spec := "fnExactStainScan", inPlace := ["internal/bytealg.IndexByteString"], unfollowed := true, recurses := true, apart := false, narrowed := true }
def FnExactStainScanUptoSaid : Prop := fnExactStainScanUptoRow.holds Try.pinned (OpenSpec.upto fnExactStainScanSpec)

end Rows
end Go.Proofs.Ytpgapdhmbgdfjaa
