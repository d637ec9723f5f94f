/-
  No cell of these rows narrows 'for every input' (looked for: loops, veiled, ifaces, maps, wideKeys, modest, calm, conditions, laid).
  DERIVED. THE GIVEN ROWS OF THIS SEAT. 11 by the template 'for every input the law returns true; each argument reads behind the call as it read before'; 0 by the template 'total and deterministic' (their statements: YtjogodnkcjhdiaaTotals.lean).
  GIVEN WITH THE SEED: the statements are not yours to turn. If you find one false, say at which input.
  Laid BY PROGRAM, IN A SANDBOX (cutbox-rows.mjs): the forced cells as the released guide's own fill.sh prints them over the translation 7406c0028eea2bf8… (all of the seat's roots in one cut). By AI agents, Wed Nov 11 2026. No macro, syntax, notation, axiom, sorry.
-/
import Derived.Test.YtjogodnkcjhdiaaChecked
import GoSem.Claim
import GoSem.ClaimJoined
import GoSem.ClaimMapViews
import Derived.JoinedTies
import Derived.KernelRfl
namespace Go.Proofs.Ytjogodnkcjhdiaa
/- THE CELL 'sum', in the pinned program and in every row, IS THE sha256 OF THE DUMP (.gsa) THAT YtjogodnkcjhdiaaProg.lean LOADS. Nothing in Lean hashes anything: it is a label: what it is worth is what the hold of that sum in a sandbox is worth. -/
noncomputable def Try.pinned : Pinned := { name := "ytjogodnkcjhdiaa", sum := "7406c0028eea2bf808d014ddf531a12d26ebc1508883282530f429ffc596ed44", checked := Try.checked }
namespace Rows
def none {H : Type} : Left H := { results := [], args := [] }

/-- 'laws.FnExactRunWithStops': WHATEVER THE INPUT: true; the input reads as it did. -/
def fnExactRunWithStopsSpec : ChangeSpec := { name := "fnExactRunWithStops", fn := fun _ => fun
  | [d1, d2, d3] => { results := [.lit (.bool true)], args := [d1, d2, d3] }
  | _ => none }
def fnExactRunWithStopsRow : OpenClaim := { program := "ytjogodnkcjhdiaa", sum := "7406c0028eea2bf808d014ddf531a12d26ebc1508883282530f429ffc596ed44", func := "loop.example/g00949/laws.FnExactRunWithStops", spec := "fnExactRunWithStops", apart := false }
def FnExactRunWithStopsSaid : Prop := fnExactRunWithStopsRow.holds Try.pinned (OpenSpec.ofChange fnExactRunWithStopsSpec)

/-- ITS FALSE NEIGHBOUR: 'it returns false'. Refute it at one input. -/
def fnExactRunWithStopsWrong : ChangeSpec := { name := "fnExactRunWithStops", fn := fun _ => fun
  | [d1, d2, d3] => { results := [.lit (.bool false)], args := [d1, d2, d3] }
  | _ => none }
def FnExactRunWithStopsWrongFalsely : Prop := fnExactRunWithStopsRow.holds Try.pinned (OpenSpec.ofChange fnExactRunWithStopsWrong)

/-- 'laws.FnExactStainScan': WHATEVER THE INPUT: true; the input reads as it did. -/
def fnExactStainScanSpec : ChangeSpec := { name := "fnExactStainScan", fn := fun _ => fun
  | [d1, d2, d3, d4] => { results := [.lit (.bool true)], args := [d1, d2, d3, d4] }
  | _ => none }
def fnExactStainScanRow : OpenClaim := { program := "ytjogodnkcjhdiaa", sum := "7406c0028eea2bf808d014ddf531a12d26ebc1508883282530f429ffc596ed44", func := "loop.example/g00949/laws.FnExactStainScan", spec := "fnExactStainScan", inPlace := ["internal/bytealg.IndexByteString"], unfollowed := true, recurses := true, apart := false }
def FnExactStainScanSaid : Prop := fnExactStainScanRow.holds Try.pinned (OpenSpec.ofChange fnExactStainScanSpec)

/-- ITS FALSE NEIGHBOUR: 'it returns false'. Refute it at one input. -/
def fnExactStainScanWrong : ChangeSpec := { name := "fnExactStainScan", fn := fun _ => fun
  | [d1, d2, d3, d4] => { results := [.lit (.bool false)], args := [d1, d2, d3, d4] }
  | _ => none }
def FnExactStainScanWrongFalsely : Prop := fnExactStainScanRow.holds Try.pinned (OpenSpec.ofChange fnExactStainScanWrong)

/-- 'laws.FnExactSkewScan': WHATEVER THE INPUT: true; the input reads as it did. -/
def fnExactSkewScanSpec : ChangeSpec := { name := "fnExactSkewScan", fn := fun _ => fun
  | [d1, d2] => { results := [.lit (.bool true)], args := [d1, d2] }
  | _ => none }
def fnExactSkewScanRow : OpenClaim := { program := "ytjogodnkcjhdiaa", sum := "7406c0028eea2bf808d014ddf531a12d26ebc1508883282530f429ffc596ed44", func := "loop.example/g00949/laws.FnExactSkewScan", spec := "fnExactSkewScan", inPlace := ["internal/bytealg.IndexByteString"], unfollowed := true, recurses := true, apart := false }
def FnExactSkewScanSaid : Prop := fnExactSkewScanRow.holds Try.pinned (OpenSpec.ofChange fnExactSkewScanSpec)

/-- ITS FALSE NEIGHBOUR: 'it returns false'. Refute it at one input. -/
def fnExactSkewScanWrong : ChangeSpec := { name := "fnExactSkewScan", fn := fun _ => fun
  | [d1, d2] => { results := [.lit (.bool false)], args := [d1, d2] }
  | _ => none }
def FnExactSkewScanWrongFalsely : Prop := fnExactSkewScanRow.holds Try.pinned (OpenSpec.ofChange fnExactSkewScanWrong)

/-- 'laws.FnExactMeetScans': WHATEVER THE INPUT: true; the input reads as it did. -/
def fnExactMeetScansSpec : ChangeSpec := { name := "fnExactMeetScans", fn := fun _ => fun
  | [d1, d2] => { results := [.lit (.bool true)], args := [d1, d2] }
  | _ => none }
def fnExactMeetScansRow : OpenClaim := { program := "ytjogodnkcjhdiaa", sum := "7406c0028eea2bf808d014ddf531a12d26ebc1508883282530f429ffc596ed44", func := "loop.example/g00949/laws.FnExactMeetScans", spec := "fnExactMeetScans", inPlace := ["internal/bytealg.IndexByteString"], unfollowed := true, recurses := true, apart := false }
def FnExactMeetScansSaid : Prop := fnExactMeetScansRow.holds Try.pinned (OpenSpec.ofChange fnExactMeetScansSpec)

/-- ITS FALSE NEIGHBOUR: 'it returns false'. Refute it at one input. -/
def fnExactMeetScansWrong : ChangeSpec := { name := "fnExactMeetScans", fn := fun _ => fun
  | [d1, d2] => { results := [.lit (.bool false)], args := [d1, d2] }
  | _ => none }
def FnExactMeetScansWrongFalsely : Prop := fnExactMeetScansRow.holds Try.pinned (OpenSpec.ofChange fnExactMeetScansWrong)

/-- 'laws.FnExactScanOf': WHATEVER THE INPUT: true; the input reads as it did. -/
def fnExactScanOfSpec : ChangeSpec := { name := "fnExactScanOf", fn := fun _ => fun
  | [d1, d2, d3] => { results := [.lit (.bool true)], args := [d1, d2, d3] }
  | _ => none }
def fnExactScanOfRow : OpenClaim := { program := "ytjogodnkcjhdiaa", sum := "7406c0028eea2bf808d014ddf531a12d26ebc1508883282530f429ffc596ed44", func := "loop.example/g00949/laws.FnExactScanOf", spec := "fnExactScanOf", unfollowed := true, recurses := true, apart := false }
def FnExactScanOfSaid : Prop := fnExactScanOfRow.holds Try.pinned (OpenSpec.ofChange fnExactScanOfSpec)

/-- ITS FALSE NEIGHBOUR: 'it returns false'. Refute it at one input. -/
def fnExactScanOfWrong : ChangeSpec := { name := "fnExactScanOf", fn := fun _ => fun
  | [d1, d2, d3] => { results := [.lit (.bool false)], args := [d1, d2, d3] }
  | _ => none }
def FnExactScanOfWrongFalsely : Prop := fnExactScanOfRow.holds Try.pinned (OpenSpec.ofChange fnExactScanOfWrong)

/-- 'laws.FnExactBestSkew': WHATEVER THE INPUT: true; the input reads as it did. -/
def fnExactBestSkewSpec : ChangeSpec := { name := "fnExactBestSkew", fn := fun _ => fun
  | [d1, d2] => { results := [.lit (.bool true)], args := [d1, d2] }
  | _ => none }
def fnExactBestSkewRow : OpenClaim := { program := "ytjogodnkcjhdiaa", sum := "7406c0028eea2bf808d014ddf531a12d26ebc1508883282530f429ffc596ed44", func := "loop.example/g00949/laws.FnExactBestSkew", spec := "fnExactBestSkew", inPlace := ["internal/bytealg.IndexByteString"], unfollowed := true, recurses := true, apart := false }
def FnExactBestSkewSaid : Prop := fnExactBestSkewRow.holds Try.pinned (OpenSpec.ofChange fnExactBestSkewSpec)

/-- ITS FALSE NEIGHBOUR: 'it returns false'. Refute it at one input. -/
def fnExactBestSkewWrong : ChangeSpec := { name := "fnExactBestSkew", fn := fun _ => fun
  | [d1, d2] => { results := [.lit (.bool false)], args := [d1, d2] }
  | _ => none }
def FnExactBestSkewWrongFalsely : Prop := fnExactBestSkewRow.holds Try.pinned (OpenSpec.ofChange fnExactBestSkewWrong)

/-- 'laws.FnExactShortestOrder': WHATEVER THE INPUT: true; the input reads as it did. -/
def fnExactShortestOrderSpec : ChangeSpec := { name := "fnExactShortestOrder", fn := fun _ => fun
  | [d1, d2] => { results := [.lit (.bool true)], args := [d1, d2] }
  | _ => none }
def fnExactShortestOrderRow : OpenClaim := { program := "ytjogodnkcjhdiaa", sum := "7406c0028eea2bf808d014ddf531a12d26ebc1508883282530f429ffc596ed44", func := "loop.example/g00949/laws.FnExactShortestOrder", spec := "fnExactShortestOrder", recurses := true, apart := false }
def FnExactShortestOrderSaid : Prop := fnExactShortestOrderRow.holds Try.pinned (OpenSpec.ofChange fnExactShortestOrderSpec)

/-- ITS FALSE NEIGHBOUR: 'it returns false'. Refute it at one input. -/
def fnExactShortestOrderWrong : ChangeSpec := { name := "fnExactShortestOrder", fn := fun _ => fun
  | [d1, d2] => { results := [.lit (.bool false)], args := [d1, d2] }
  | _ => none }
def FnExactShortestOrderWrongFalsely : Prop := fnExactShortestOrderRow.holds Try.pinned (OpenSpec.ofChange fnExactShortestOrderWrong)

/-- 'laws.FnSpools': WHATEVER THE INPUT: true; the input reads as it did. -/
def fnSpoolsSpec : ChangeSpec := { name := "fnSpools", fn := fun _ => fun
  | [d1, d2] => { results := [.lit (.bool true)], args := [d1, d2] }
  | _ => none }
def fnSpoolsRow : OpenClaim := { program := "ytjogodnkcjhdiaa", sum := "7406c0028eea2bf808d014ddf531a12d26ebc1508883282530f429ffc596ed44", func := "loop.example/g00949/laws.FnSpools", spec := "fnSpools", apart := false }
def FnSpoolsSaid : Prop := fnSpoolsRow.holds Try.pinned (OpenSpec.ofChange fnSpoolsSpec)

/-- ITS FALSE NEIGHBOUR: 'it returns false'. Refute it at one input. -/
def fnSpoolsWrong : ChangeSpec := { name := "fnSpools", fn := fun _ => fun
  | [d1, d2] => { results := [.lit (.bool false)], args := [d1, d2] }
  | _ => none }
def FnSpoolsWrongFalsely : Prop := fnSpoolsRow.holds Try.pinned (OpenSpec.ofChange fnSpoolsWrong)

/-- 'laws.FnCores': WHATEVER THE INPUT: true; the input reads as it did. -/
def fnCoresSpec : ChangeSpec := { name := "fnCores", fn := fun _ => fun
  | [d1, d2] => { results := [.lit (.bool true)], args := [d1, d2] }
  | _ => none }
def fnCoresRow : OpenClaim := { program := "ytjogodnkcjhdiaa", sum := "7406c0028eea2bf808d014ddf531a12d26ebc1508883282530f429ffc596ed44", func := "loop.example/g00949/laws.FnCores", spec := "fnCores", apart := false }
def FnCoresSaid : Prop := fnCoresRow.holds Try.pinned (OpenSpec.ofChange fnCoresSpec)

/-- ITS FALSE NEIGHBOUR: 'it returns false'. Refute it at one input. -/
def fnCoresWrong : ChangeSpec := { name := "fnCores", fn := fun _ => fun
  | [d1, d2] => { results := [.lit (.bool false)], args := [d1, d2] }
  | _ => none }
def FnCoresWrongFalsely : Prop := fnCoresRow.holds Try.pinned (OpenSpec.ofChange fnCoresWrong)

/-- 'laws.FnStops': WHATEVER THE INPUT: true; the input reads as it did. -/
def fnStopsSpec : ChangeSpec := { name := "fnStops", fn := fun _ => fun
  | [d1, d2] => { results := [.lit (.bool true)], args := [d1, d2] }
  | _ => none }
def fnStopsRow : OpenClaim := { program := "ytjogodnkcjhdiaa", sum := "7406c0028eea2bf808d014ddf531a12d26ebc1508883282530f429ffc596ed44", func := "loop.example/g00949/laws.FnStops", spec := "fnStops", apart := false }
def FnStopsSaid : Prop := fnStopsRow.holds Try.pinned (OpenSpec.ofChange fnStopsSpec)

/-- ITS FALSE NEIGHBOUR: 'it returns false'. Refute it at one input. -/
def fnStopsWrong : ChangeSpec := { name := "fnStops", fn := fun _ => fun
  | [d1, d2] => { results := [.lit (.bool false)], args := [d1, d2] }
  | _ => none }
def FnStopsWrongFalsely : Prop := fnStopsRow.holds Try.pinned (OpenSpec.ofChange fnStopsWrong)

/-- 'laws.FnExactDecodingBits': WHATEVER THE INPUT: true; the input reads as it did. -/
def fnExactDecodingBitsSpec : ChangeSpec := { name := "fnExactDecodingBits", fn := fun _ => fun
  | [d] => { results := [.lit (.bool true)], args := [d] }
  | _ => none }
def fnExactDecodingBitsRow : OpenClaim := { program := "ytjogodnkcjhdiaa", sum := "7406c0028eea2bf808d014ddf531a12d26ebc1508883282530f429ffc596ed44", func := "loop.example/g00949/laws.FnExactDecodingBits", spec := "fnExactDecodingBits", inPlace := ["internal/bytealg.IndexByteString"], apart := false }
def FnExactDecodingBitsSaid : Prop := fnExactDecodingBitsRow.holds Try.pinned (OpenSpec.ofChange fnExactDecodingBitsSpec)

/-- ITS FALSE NEIGHBOUR: 'it returns false'. Refute it at one input. -/
def fnExactDecodingBitsWrong : ChangeSpec := { name := "fnExactDecodingBits", fn := fun _ => fun
  | [d] => { results := [.lit (.bool false)], args := [d] }
  | _ => none }
def FnExactDecodingBitsWrongFalsely : Prop := fnExactDecodingBitsRow.holds Try.pinned (OpenSpec.ofChange fnExactDecodingBitsWrong)

/- THE SECOND FORM. 'bulk': how many values and letters a reading holds, each counted each time it is reached (what is shared counts as often as it is met; a slice's spare places count too). A statement '..UptoSaid' is the law's where the arguments, and the package variables that the reading takes, are together of bulk at most 1048576: NARROWER than '..Said'. Prove '..Said' where nothing that the law and all that it calls make is longer than what came in: it says more and counts as full. Else prove '..UptoSaid'. A law counts once. -/
mutual
def uptoBulk {H : Type} : DataW H → Nat
  | .lit (.string bytes) => bytes.length + 1
  | .lit _ => 1
  | .nil => 1
  | .ptr d => uptoBulk d + 1
  | .slice elems spare => uptoBulkAll elems + uptoBulkAll spare + 1
  | .agg parts => uptoBulkAll parts + 1
  | .iface _ d => uptoBulk d + 1
  | .map entries => uptoBulkEntries entries + 1
  | .held _ => 1
def uptoBulkAll {H : Type} : List (DataW H) → Nat
  | [] => 0
  | d :: r => uptoBulk d + uptoBulkAll r
def uptoBulkEntries {H : Type} : List (Lit × DataW H) → Nat
  | [] => 0
  | x :: r => uptoBulkEntry x + uptoBulkEntries r
def uptoBulkEntry {H : Type} : Lit × DataW H → Nat
  | (.string bytes, d) => bytes.length + uptoBulk d + 1
  | (_, d) => uptoBulk d + 1
 end
def uptoSmall : (H : Type) → List (DataW H) → Bool := fun _ ds => decide (uptoBulkAll ds ≤ 1048576)
def OpenSpec.upto (s : _root_.Go.ChangeSpec) : _root_.Go.OpenSpec := { _root_.Go.OpenSpec.ofChange s with cond := some uptoSmall }

/-- 'laws.FnExactRunWithStops', WHERE WHAT IT READS IS OF BULK AT MOST 1048576: true; the input reads as it did. -/
def fnExactRunWithStopsUptoRow : OpenClaim := { program := "ytjogodnkcjhdiaa", sum := "7406c0028eea2bf808d014ddf531a12d26ebc1508883282530f429ffc596ed44", func := "loop.example/g00949/laws.FnExactRunWithStops", spec := "fnExactRunWithStops", apart := false, narrowed := true }
def FnExactRunWithStopsUptoSaid : Prop := fnExactRunWithStopsUptoRow.holds Try.pinned (OpenSpec.upto fnExactRunWithStopsSpec)

/-- 'laws.FnExactStainScan', WHERE WHAT IT READS IS OF BULK AT MOST 1048576: true; the input reads as it did. -/
def fnExactStainScanUptoRow : OpenClaim := { program := "ytjogodnkcjhdiaa", sum := "7406c0028eea2bf808d014ddf531a12d26ebc1508883282530f429ffc596ed44", func := "loop.example/g00949/laws.FnExactStainScan", spec := "fnExactStainScan", inPlace := ["internal/bytealg.IndexByteString"], unfollowed := true, recurses := true, apart := false, narrowed := true }
def FnExactStainScanUptoSaid : Prop := fnExactStainScanUptoRow.holds Try.pinned (OpenSpec.upto fnExactStainScanSpec)

/-- 'laws.FnExactSkewScan', WHERE WHAT IT READS IS OF BULK AT MOST 1048576: true; the input reads as it did. -/
def fnExactSkewScanUptoRow : OpenClaim := { program := "ytjogodnkcjhdiaa", sum := "7406c0028eea2bf808d014ddf531a12d26ebc1508883282530f429ffc596ed44", func := "loop.example/g00949/laws.FnExactSkewScan", spec := "fnExactSkewScan", inPlace := ["internal/bytealg.IndexByteString"], unfollowed := true, recurses := true, apart := false, narrowed := true }
def FnExactSkewScanUptoSaid : Prop := fnExactSkewScanUptoRow.holds Try.pinned (OpenSpec.upto fnExactSkewScanSpec)

/-- 'laws.FnExactMeetScans', WHERE WHAT IT READS IS OF BULK AT MOST 1048576: true; the input reads as it did. -/
def fnExactMeetScansUptoRow : OpenClaim := { program := "ytjogodnkcjhdiaa", sum := "7406c0028eea2bf808d014ddf531a12d26ebc1508883282530f429ffc596ed44", func := "loop.example/g00949/laws.FnExactMeetScans", spec := "fnExactMeetScans", inPlace := ["internal/bytealg.IndexByteString"], unfollowed := true, recurses := true, apart := false, narrowed := true }
def FnExactMeetScansUptoSaid : Prop := fnExactMeetScansUptoRow.holds Try.pinned (OpenSpec.upto fnExactMeetScansSpec)

/-- 'laws.FnExactScanOf', WHERE WHAT IT READS IS OF BULK AT MOST 1048576: true; the input reads as it did. -/
def fnExactScanOfUptoRow : OpenClaim := { program := "ytjogodnkcjhdiaa", sum := "7406c0028eea2bf808d014ddf531a12d26ebc1508883282530f429ffc596ed44", func := "loop.example/g00949/laws.FnExactScanOf", spec := "fnExactScanOf", unfollowed := true, recurses := true, apart := false, narrowed := true }
def FnExactScanOfUptoSaid : Prop := fnExactScanOfUptoRow.holds Try.pinned (OpenSpec.upto fnExactScanOfSpec)

/-- 'laws.FnExactBestSkew', WHERE WHAT IT READS IS OF BULK AT MOST 1048576: true; the input reads as it did. -/
def fnExactBestSkewUptoRow : OpenClaim := { program := "ytjogodnkcjhdiaa", sum := "7406c0028eea2bf808d014ddf531a12d26ebc1508883282530f429ffc596ed44", func := "loop.example/g00949/laws.FnExactBestSkew", spec := "fnExactBestSkew", inPlace := ["internal/bytealg.IndexByteString"], unfollowed := true, recurses := true, apart := false, narrowed := true }
def FnExactBestSkewUptoSaid : Prop := fnExactBestSkewUptoRow.holds Try.pinned (OpenSpec.upto fnExactBestSkewSpec)

/-- 'laws.FnExactShortestOrder', WHERE WHAT IT READS IS OF BULK AT MOST 1048576: true; the input reads as it did. -/
def fnExactShortestOrderUptoRow : OpenClaim := { program := "ytjogodnkcjhdiaa", sum := "7406c0028eea2bf808d014ddf531a12d26ebc1508883282530f429ffc596ed44", func := "loop.example/g00949/laws.FnExactShortestOrder", spec := "fnExactShortestOrder", recurses := true, apart := false, narrowed := true }
def FnExactShortestOrderUptoSaid : Prop := fnExactShortestOrderUptoRow.holds Try.pinned (OpenSpec.upto fnExactShortestOrderSpec)

/-- 'laws.FnSpools', WHERE WHAT IT READS IS OF BULK AT MOST 1048576: true; the input reads as it did. -/
def fnSpoolsUptoRow : OpenClaim := { program := "ytjogodnkcjhdiaa", sum := "7406c0028eea2bf808d014ddf531a12d26ebc1508883282530f429ffc596ed44", func := "loop.example/g00949/laws.FnSpools", spec := "fnSpools", apart := false, narrowed := true }
def FnSpoolsUptoSaid : Prop := fnSpoolsUptoRow.holds Try.pinned (OpenSpec.upto fnSpoolsSpec)

/-- 'laws.FnCores', WHERE WHAT IT READS IS OF BULK AT MOST 1048576: true; the input reads as it did. -/
def fnCoresUptoRow : OpenClaim := { program := "ytjogodnkcjhdiaa", sum := "7406c0028eea2bf808d014ddf531a12d26ebc1508883282530f429ffc596ed44", func := "loop.example/g00949/laws.FnCores", spec := "fnCores", apart := false, narrowed := true }
def FnCoresUptoSaid : Prop := fnCoresUptoRow.holds Try.pinned (OpenSpec.upto fnCoresSpec)

/-- 'laws.FnStops', WHERE WHAT IT READS IS OF BULK AT MOST 1048576: true; the input reads as it did. -/
def fnStopsUptoRow : OpenClaim := { program := "ytjogodnkcjhdiaa", sum := "7406c0028eea2bf808d014ddf531a12d26ebc1508883282530f429ffc596ed44", func := "loop.example/g00949/laws.FnStops", spec := "fnStops", apart := false, narrowed := true }
def FnStopsUptoSaid : Prop := fnStopsUptoRow.holds Try.pinned (OpenSpec.upto fnStopsSpec)

/-- 'laws.FnExactDecodingBits', WHERE WHAT IT READS IS OF BULK AT MOST 1048576: true; the input reads as it did. -/
def fnExactDecodingBitsUptoRow : OpenClaim := { program := "ytjogodnkcjhdiaa", sum := "7406c0028eea2bf808d014ddf531a12d26ebc1508883282530f429ffc596ed44", func := "loop.example/g00949/laws.FnExactDecodingBits", spec := "fnExactDecodingBits", inPlace := ["internal/bytealg.IndexByteString"], apart := false, narrowed := true }
def FnExactDecodingBitsUptoSaid : Prop := fnExactDecodingBitsUptoRow.holds Try.pinned (OpenSpec.upto fnExactDecodingBitsSpec)

end Rows
end Go.Proofs.Ytjogodnkcjhdiaa
