/-
  No cell of these rows narrows 'for every input' (looked for: loops, veiled, ifaces, maps, wideKeys, modest, calm, conditions, laid).
  DERIVED. THE GIVEN ROWS OF THIS SEAT. 12 by the template 'for every input the law returns true; each argument reads behind the call as it read before'; 0 by the template 'total and deterministic' (their statements: YtheecdeipmoihaaTotals.lean).
  GIVEN WITH THE SEED: the statements are not yours to turn. If you find one false, say at which input.
  Laid BY PROGRAM, IN A SANDBOX (cutbox-rows.mjs): the forced cells as the released guide's own fill.sh prints them over the translation a2b2ae22a7e11553… (all of the seat's roots in one cut). By AI agents, Wed Nov 11 2026. No macro, syntax, notation, axiom, sorry.
-/
import Derived.Test.YtheecdeipmoihaaChecked
import GoSem.Claim
import GoSem.ClaimJoined
import GoSem.ClaimMapViews
import Derived.JoinedTies
import Derived.KernelRfl
namespace Go.Proofs.Ytheecdeipmoihaa
/- THE CELL 'sum', in the pinned program and in every row, IS THE sha256 OF THE DUMP (.gsa) THAT YtheecdeipmoihaaProg.lean LOADS. Nothing in Lean hashes anything: it is a label: what it is worth is what the hold of that sum in a sandbox is worth. -/
noncomputable def Try.pinned : Pinned := { name := "ytheecdeipmoihaa", sum := "a2b2ae22a7e115530da59503459b365be4cdcb9f6c3d4bf5ccb06264fdc82cfc", checked := Try.checked }
namespace Rows
def none {H : Type} : Left H := { results := [], args := [] }

/-- 'laws.FnExactDecodingBits': WHATEVER THE INPUT: true; the input reads as it did. -/
def fnExactDecodingBitsSpec : ChangeSpec := { name := "fnExactDecodingBits", fn := fun _ => fun
  | [d] => { results := [.lit (.bool true)], args := [d] }
  | _ => none }
def fnExactDecodingBitsRow : OpenClaim := { program := "ytheecdeipmoihaa", sum := "a2b2ae22a7e115530da59503459b365be4cdcb9f6c3d4bf5ccb06264fdc82cfc", func := "loop.example/g00949/laws.FnExactDecodingBits", spec := "fnExactDecodingBits", inPlace := ["internal/bytealg.IndexByteString"], apart := false }
def FnExactDecodingBitsSaid : Prop := fnExactDecodingBitsRow.holds Try.pinned (OpenSpec.ofChange fnExactDecodingBitsSpec)

/-- ITS FALSE NEIGHBOUR: 'it returns false'. Refute it at one input. -/
def fnExactDecodingBitsWrong : ChangeSpec := { name := "fnExactDecodingBits", fn := fun _ => fun
  | [d] => { results := [.lit (.bool false)], args := [d] }
  | _ => none }
def FnExactDecodingBitsWrongFalsely : Prop := fnExactDecodingBitsRow.holds Try.pinned (OpenSpec.ofChange fnExactDecodingBitsWrong)

/-- 'laws.FnExactNewPunchJob': WHATEVER THE INPUT: true; the input reads as it did. -/
def fnExactNewPunchJobSpec : ChangeSpec := { name := "fnExactNewPunchJob", fn := fun _ => fun
  | [d] => { results := [.lit (.bool true)], args := [d] }
  | _ => none }
def fnExactNewPunchJobRow : OpenClaim := { program := "ytheecdeipmoihaa", sum := "a2b2ae22a7e115530da59503459b365be4cdcb9f6c3d4bf5ccb06264fdc82cfc", func := "loop.example/g00949/laws.FnExactNewPunchJob", spec := "fnExactNewPunchJob", apart := false }
def FnExactNewPunchJobSaid : Prop := fnExactNewPunchJobRow.holds Try.pinned (OpenSpec.ofChange fnExactNewPunchJobSpec)

/-- ITS FALSE NEIGHBOUR: 'it returns false'. Refute it at one input. -/
def fnExactNewPunchJobWrong : ChangeSpec := { name := "fnExactNewPunchJob", fn := fun _ => fun
  | [d] => { results := [.lit (.bool false)], args := [d] }
  | _ => none }
def FnExactNewPunchJobWrongFalsely : Prop := fnExactNewPunchJobRow.holds Try.pinned (OpenSpec.ofChange fnExactNewPunchJobWrong)

/-- 'laws.FnExactResumeAt': WHATEVER THE INPUT: true; the input reads as it did. -/
def fnExactResumeAtSpec : ChangeSpec := { name := "fnExactResumeAt", fn := fun _ => fun
  | [d1, d2] => { results := [.lit (.bool true)], args := [d1, d2] }
  | _ => none }
def fnExactResumeAtRow : OpenClaim := { program := "ytheecdeipmoihaa", sum := "a2b2ae22a7e115530da59503459b365be4cdcb9f6c3d4bf5ccb06264fdc82cfc", func := "loop.example/g00949/laws.FnExactResumeAt", spec := "fnExactResumeAt", apart := false }
def FnExactResumeAtSaid : Prop := fnExactResumeAtRow.holds Try.pinned (OpenSpec.ofChange fnExactResumeAtSpec)

/-- ITS FALSE NEIGHBOUR: 'it returns false'. Refute it at one input. -/
def fnExactResumeAtWrong : ChangeSpec := { name := "fnExactResumeAt", fn := fun _ => fun
  | [d1, d2] => { results := [.lit (.bool false)], args := [d1, d2] }
  | _ => none }
def FnExactResumeAtWrongFalsely : Prop := fnExactResumeAtRow.holds Try.pinned (OpenSpec.ofChange fnExactResumeAtWrong)

/-- 'laws.FnExactMakeStrokes': WHATEVER THE INPUT: true; the input reads as it did. -/
def fnExactMakeStrokesSpec : ChangeSpec := { name := "fnExactMakeStrokes", fn := fun _ => fun
  | [d1, d2] => { results := [.lit (.bool true)], args := [d1, d2] }
  | _ => none }
def fnExactMakeStrokesRow : OpenClaim := { program := "ytheecdeipmoihaa", sum := "a2b2ae22a7e115530da59503459b365be4cdcb9f6c3d4bf5ccb06264fdc82cfc", func := "loop.example/g00949/laws.FnExactMakeStrokes", spec := "fnExactMakeStrokes", apart := false }
def FnExactMakeStrokesSaid : Prop := fnExactMakeStrokesRow.holds Try.pinned (OpenSpec.ofChange fnExactMakeStrokesSpec)

/-- ITS FALSE NEIGHBOUR: 'it returns false'. Refute it at one input. -/
def fnExactMakeStrokesWrong : ChangeSpec := { name := "fnExactMakeStrokes", fn := fun _ => fun
  | [d1, d2] => { results := [.lit (.bool false)], args := [d1, d2] }
  | _ => none }
def FnExactMakeStrokesWrongFalsely : Prop := fnExactMakeStrokesRow.holds Try.pinned (OpenSpec.ofChange fnExactMakeStrokesWrong)

/-- 'laws.FnExactHolesDone': WHATEVER THE INPUT: true; the input reads as it did. -/
def fnExactHolesDoneSpec : ChangeSpec := { name := "fnExactHolesDone", fn := fun _ => fun
  | [d] => { results := [.lit (.bool true)], args := [d] }
  | _ => none }
def fnExactHolesDoneRow : OpenClaim := { program := "ytheecdeipmoihaa", sum := "a2b2ae22a7e115530da59503459b365be4cdcb9f6c3d4bf5ccb06264fdc82cfc", func := "loop.example/g00949/laws.FnExactHolesDone", spec := "fnExactHolesDone", apart := false }
def FnExactHolesDoneSaid : Prop := fnExactHolesDoneRow.holds Try.pinned (OpenSpec.ofChange fnExactHolesDoneSpec)

/-- ITS FALSE NEIGHBOUR: 'it returns false'. Refute it at one input. -/
def fnExactHolesDoneWrong : ChangeSpec := { name := "fnExactHolesDone", fn := fun _ => fun
  | [d] => { results := [.lit (.bool false)], args := [d] }
  | _ => none }
def FnExactHolesDoneWrongFalsely : Prop := fnExactHolesDoneRow.holds Try.pinned (OpenSpec.ofChange fnExactHolesDoneWrong)

/-- 'laws.FnExactRunWithStops': WHATEVER THE INPUT: true; the input reads as it did. -/
def fnExactRunWithStopsSpec : ChangeSpec := { name := "fnExactRunWithStops", fn := fun _ => fun
  | [d1, d2, d3] => { results := [.lit (.bool true)], args := [d1, d2, d3] }
  | _ => none }
def fnExactRunWithStopsRow : OpenClaim := { program := "ytheecdeipmoihaa", sum := "a2b2ae22a7e115530da59503459b365be4cdcb9f6c3d4bf5ccb06264fdc82cfc", func := "loop.example/g00949/laws.FnExactRunWithStops", spec := "fnExactRunWithStops", apart := false }
def FnExactRunWithStopsSaid : Prop := fnExactRunWithStopsRow.holds Try.pinned (OpenSpec.ofChange fnExactRunWithStopsSpec)

/-- ITS FALSE NEIGHBOUR: 'it returns false'. Refute it at one input. -/
def fnExactRunWithStopsWrong : ChangeSpec := { name := "fnExactRunWithStops", fn := fun _ => fun
  | [d1, d2, d3] => { results := [.lit (.bool false)], args := [d1, d2, d3] }
  | _ => none }
def FnExactRunWithStopsWrongFalsely : Prop := fnExactRunWithStopsRow.holds Try.pinned (OpenSpec.ofChange fnExactRunWithStopsWrong)

/-- 'laws.FnExactHolesIn': WHATEVER THE INPUT: true; the input reads as it did. -/
def fnExactHolesInSpec : ChangeSpec := { name := "fnExactHolesIn", fn := fun _ => fun
  | [d] => { results := [.lit (.bool true)], args := [d] }
  | _ => none }
def fnExactHolesInRow : OpenClaim := { program := "ytheecdeipmoihaa", sum := "a2b2ae22a7e115530da59503459b365be4cdcb9f6c3d4bf5ccb06264fdc82cfc", func := "loop.example/g00949/laws.FnExactHolesIn", spec := "fnExactHolesIn", inPlace := ["internal/bytealg.IndexByteString", "internal/bytealg.CountString", "internal/bytealg.IndexString", "internal/reflectlite.ValueOf", "internal/reflectlite.Swapper", "(internal/reflectlite.Value).Len"], unfollowed := true, recurses := true, named := ["internal/bytealg.MaxLen"], apart := false }
def FnExactHolesInSaid : Prop := fnExactHolesInRow.holds Try.pinned (OpenSpec.ofChange fnExactHolesInSpec)

/-- ITS FALSE NEIGHBOUR: 'it returns false'. Refute it at one input. -/
def fnExactHolesInWrong : ChangeSpec := { name := "fnExactHolesIn", fn := fun _ => fun
  | [d] => { results := [.lit (.bool false)], args := [d] }
  | _ => none }
def FnExactHolesInWrongFalsely : Prop := fnExactHolesInRow.holds Try.pinned (OpenSpec.ofChange fnExactHolesInWrong)

/-- 'laws.FnExactPunchedBy': WHATEVER THE INPUT: true; the input reads as it did. -/
def fnExactPunchedBySpec : ChangeSpec := { name := "fnExactPunchedBy", fn := fun _ => fun
  | [d] => { results := [.lit (.bool true)], args := [d] }
  | _ => none }
def fnExactPunchedByRow : OpenClaim := { program := "ytheecdeipmoihaa", sum := "a2b2ae22a7e115530da59503459b365be4cdcb9f6c3d4bf5ccb06264fdc82cfc", func := "loop.example/g00949/laws.FnExactPunchedBy", spec := "fnExactPunchedBy", inPlace := ["internal/reflectlite.ValueOf", "internal/reflectlite.Swapper", "(internal/reflectlite.Value).Len"], unfollowed := true, recurses := true, apart := false }
def FnExactPunchedBySaid : Prop := fnExactPunchedByRow.holds Try.pinned (OpenSpec.ofChange fnExactPunchedBySpec)

/-- ITS FALSE NEIGHBOUR: 'it returns false'. Refute it at one input. -/
def fnExactPunchedByWrong : ChangeSpec := { name := "fnExactPunchedBy", fn := fun _ => fun
  | [d] => { results := [.lit (.bool false)], args := [d] }
  | _ => none }
def FnExactPunchedByWrongFalsely : Prop := fnExactPunchedByRow.holds Try.pinned (OpenSpec.ofChange fnExactPunchedByWrong)

/-- 'laws.FnExactPunchedNow': WHATEVER THE INPUT: true; the input reads as it did. -/
def fnExactPunchedNowSpec : ChangeSpec := { name := "fnExactPunchedNow", fn := fun _ => fun
  | [d] => { results := [.lit (.bool true)], args := [d] }
  | _ => none }
def fnExactPunchedNowRow : OpenClaim := { program := "ytheecdeipmoihaa", sum := "a2b2ae22a7e115530da59503459b365be4cdcb9f6c3d4bf5ccb06264fdc82cfc", func := "loop.example/g00949/laws.FnExactPunchedNow", spec := "fnExactPunchedNow", inPlace := ["internal/reflectlite.ValueOf", "internal/reflectlite.Swapper", "(internal/reflectlite.Value).Len"], unfollowed := true, recurses := true, apart := false }
def FnExactPunchedNowSaid : Prop := fnExactPunchedNowRow.holds Try.pinned (OpenSpec.ofChange fnExactPunchedNowSpec)

/-- ITS FALSE NEIGHBOUR: 'it returns false'. Refute it at one input. -/
def fnExactPunchedNowWrong : ChangeSpec := { name := "fnExactPunchedNow", fn := fun _ => fun
  | [d] => { results := [.lit (.bool false)], args := [d] }
  | _ => none }
def FnExactPunchedNowWrongFalsely : Prop := fnExactPunchedNowRow.holds Try.pinned (OpenSpec.ofChange fnExactPunchedNowWrong)

/-- 'laws.FnSpools': WHATEVER THE INPUT: true; the input reads as it did. -/
def fnSpoolsSpec : ChangeSpec := { name := "fnSpools", fn := fun _ => fun
  | [d1, d2] => { results := [.lit (.bool true)], args := [d1, d2] }
  | _ => none }
def fnSpoolsRow : OpenClaim := { program := "ytheecdeipmoihaa", sum := "a2b2ae22a7e115530da59503459b365be4cdcb9f6c3d4bf5ccb06264fdc82cfc", func := "loop.example/g00949/laws.FnSpools", spec := "fnSpools", apart := false }
def FnSpoolsSaid : Prop := fnSpoolsRow.holds Try.pinned (OpenSpec.ofChange fnSpoolsSpec)

/-- ITS FALSE NEIGHBOUR: 'it returns false'. Refute it at one input. -/
def fnSpoolsWrong : ChangeSpec := { name := "fnSpools", fn := fun _ => fun
  | [d1, d2] => { results := [.lit (.bool false)], args := [d1, d2] }
  | _ => none }
def FnSpoolsWrongFalsely : Prop := fnSpoolsRow.holds Try.pinned (OpenSpec.ofChange fnSpoolsWrong)

/-- 'laws.FnCores': WHATEVER THE INPUT: true; the input reads as it did. -/
def fnCoresSpec : ChangeSpec := { name := "fnCores", fn := fun _ => fun
  | [d1, d2] => { results := [.lit (.bool true)], args := [d1, d2] }
  | _ => none }
def fnCoresRow : OpenClaim := { program := "ytheecdeipmoihaa", sum := "a2b2ae22a7e115530da59503459b365be4cdcb9f6c3d4bf5ccb06264fdc82cfc", func := "loop.example/g00949/laws.FnCores", spec := "fnCores", apart := false }
def FnCoresSaid : Prop := fnCoresRow.holds Try.pinned (OpenSpec.ofChange fnCoresSpec)

/-- ITS FALSE NEIGHBOUR: 'it returns false'. Refute it at one input. -/
def fnCoresWrong : ChangeSpec := { name := "fnCores", fn := fun _ => fun
  | [d1, d2] => { results := [.lit (.bool false)], args := [d1, d2] }
  | _ => none }
def FnCoresWrongFalsely : Prop := fnCoresRow.holds Try.pinned (OpenSpec.ofChange fnCoresWrong)

/-- 'laws.FnStops': WHATEVER THE INPUT: true; the input reads as it did. -/
def fnStopsSpec : ChangeSpec := { name := "fnStops", fn := fun _ => fun
  | [d1, d2] => { results := [.lit (.bool true)], args := [d1, d2] }
  | _ => none }
def fnStopsRow : OpenClaim := { program := "ytheecdeipmoihaa", sum := "a2b2ae22a7e115530da59503459b365be4cdcb9f6c3d4bf5ccb06264fdc82cfc", func := "loop.example/g00949/laws.FnStops", spec := "fnStops", apart := false }
def FnStopsSaid : Prop := fnStopsRow.holds Try.pinned (OpenSpec.ofChange fnStopsSpec)

/-- ITS FALSE NEIGHBOUR: 'it returns false'. Refute it at one input. -/
def fnStopsWrong : ChangeSpec := { name := "fnStops", fn := fun _ => fun
  | [d1, d2] => { results := [.lit (.bool false)], args := [d1, d2] }
  | _ => none }
def FnStopsWrongFalsely : Prop := fnStopsRow.holds Try.pinned (OpenSpec.ofChange fnStopsWrong)

/- THE SECOND FORM. 'bulk': how many values and letters a reading holds, each counted each time it is reached (what is shared counts as often as it is met; a slice's spare places count too). A statement '..UptoSaid' is the law's where the arguments, and the package variables that the reading takes, are together of bulk at most 1048576: NARROWER than '..Said'. Prove '..Said' where nothing that the law and all that it calls make is longer than what came in: it says more and counts as full. Else prove '..UptoSaid'. A law counts once. -/
mutual
def uptoBulk {H : Type} : DataW H → Nat
  | .lit (.string bytes) => bytes.length + 1
  | .lit _ => 1
  | .nil => 1
  | .ptr d => uptoBulk d + 1
  | .slice elems spare => uptoBulkAll elems + uptoBulkAll spare + 1
  | .agg parts => uptoBulkAll parts + 1
  | .iface _ d => uptoBulk d + 1
  | .map entries => uptoBulkEntries entries + 1
  | .held _ => 1
def uptoBulkAll {H : Type} : List (DataW H) → Nat
  | [] => 0
  | d :: r => uptoBulk d + uptoBulkAll r
def uptoBulkEntries {H : Type} : List (Lit × DataW H) → Nat
  | [] => 0
  | x :: r => uptoBulkEntry x + uptoBulkEntries r
def uptoBulkEntry {H : Type} : Lit × DataW H → Nat
  | (.string bytes, d) => bytes.length + uptoBulk d + 1
  | (_, d) => uptoBulk d + 1
 end
def uptoSmall : (H : Type) → List (DataW H) → Bool := fun _ ds => decide (uptoBulkAll ds ≤ 1048576)
def OpenSpec.upto (s : _root_.Go.ChangeSpec) : _root_.Go.OpenSpec := { _root_.Go.OpenSpec.ofChange s with cond := some uptoSmall }

/-- 'laws.FnExactDecodingBits', WHERE WHAT IT READS IS OF BULK AT MOST 1048576: true; the input reads as it did. -/
def fnExactDecodingBitsUptoRow : OpenClaim := { program := "ytheecdeipmoihaa", sum := "a2b2ae22a7e115530da59503459b365be4cdcb9f6c3d4bf5ccb06264fdc82cfc", func := "loop.example/g00949/laws.FnExactDecodingBits", spec := "fnExactDecodingBits", inPlace := ["internal/bytealg.IndexByteString"], apart := false, narrowed := true }
def FnExactDecodingBitsUptoSaid : Prop := fnExactDecodingBitsUptoRow.holds Try.pinned (OpenSpec.upto fnExactDecodingBitsSpec)

/-- 'laws.FnExactNewPunchJob', WHERE WHAT IT READS IS OF BULK AT MOST 1048576: true; the input reads as it did. -/
def fnExactNewPunchJobUptoRow : OpenClaim := { program := "ytheecdeipmoihaa", sum := "a2b2ae22a7e115530da59503459b365be4cdcb9f6c3d4bf5ccb06264fdc82cfc", func := "loop.example/g00949/laws.FnExactNewPunchJob", spec := "fnExactNewPunchJob", apart := false, narrowed := true }
def FnExactNewPunchJobUptoSaid : Prop := fnExactNewPunchJobUptoRow.holds Try.pinned (OpenSpec.upto fnExactNewPunchJobSpec)

/-- 'laws.FnExactResumeAt', WHERE WHAT IT READS IS OF BULK AT MOST 1048576: true; the input reads as it did. -/
def fnExactResumeAtUptoRow : OpenClaim := { program := "ytheecdeipmoihaa", sum := "a2b2ae22a7e115530da59503459b365be4cdcb9f6c3d4bf5ccb06264fdc82cfc", func := "loop.example/g00949/laws.FnExactResumeAt", spec := "fnExactResumeAt", apart := false, narrowed := true }
def FnExactResumeAtUptoSaid : Prop := fnExactResumeAtUptoRow.holds Try.pinned (OpenSpec.upto fnExactResumeAtSpec)

/-- 'laws.FnExactMakeStrokes', WHERE WHAT IT READS IS OF BULK AT MOST 1048576: true; the input reads as it did. -/
def fnExactMakeStrokesUptoRow : OpenClaim := { program := "ytheecdeipmoihaa", sum := "a2b2ae22a7e115530da59503459b365be4cdcb9f6c3d4bf5ccb06264fdc82cfc", func := "loop.example/g00949/laws.FnExactMakeStrokes", spec := "fnExactMakeStrokes", apart := false, narrowed := true }
def FnExactMakeStrokesUptoSaid : Prop := fnExactMakeStrokesUptoRow.holds Try.pinned (OpenSpec.upto fnExactMakeStrokesSpec)

/-- 'laws.FnExactHolesDone', WHERE WHAT IT READS IS OF BULK AT MOST 1048576: true; the input reads as it did. -/
def fnExactHolesDoneUptoRow : OpenClaim := { program := "ytheecdeipmoihaa", sum := "a2b2ae22a7e115530da59503459b365be4cdcb9f6c3d4bf5ccb06264fdc82cfc", func := "loop.example/g00949/laws.FnExactHolesDone", spec := "fnExactHolesDone", apart := false, narrowed := true }
def FnExactHolesDoneUptoSaid : Prop := fnExactHolesDoneUptoRow.holds Try.pinned (OpenSpec.upto fnExactHolesDoneSpec)

/-- 'laws.FnExactRunWithStops', WHERE WHAT IT READS IS OF BULK AT MOST 1048576: true; the input reads as it did. -/
def fnExactRunWithStopsUptoRow : OpenClaim := { program := "ytheecdeipmoihaa", sum := "a2b2ae22a7e115530da59503459b365be4cdcb9f6c3d4bf5ccb06264fdc82cfc", func := "loop.example/g00949/laws.FnExactRunWithStops", spec := "fnExactRunWithStops", apart := false, narrowed := true }
def FnExactRunWithStopsUptoSaid : Prop := fnExactRunWithStopsUptoRow.holds Try.pinned (OpenSpec.upto fnExactRunWithStopsSpec)

/-- 'laws.FnExactHolesIn', WHERE WHAT IT READS IS OF BULK AT MOST 1048576: true; the input reads as it did. -/
def fnExactHolesInUptoRow : OpenClaim := { program := "ytheecdeipmoihaa", sum := "a2b2ae22a7e115530da59503459b365be4cdcb9f6c3d4bf5ccb06264fdc82cfc", func := "loop.example/g00949/laws.FnExactHolesIn", spec := "fnExactHolesIn", inPlace := ["internal/bytealg.IndexByteString", "internal/bytealg.CountString", "internal/bytealg.IndexString", "internal/reflectlite.ValueOf", "internal/reflectlite.Swapper", "(internal/reflectlite.Value).Len"], unfollowed := true, recurses := true, named := ["internal/bytealg.MaxLen"], apart := false, narrowed := true }
def FnExactHolesInUptoSaid : Prop := fnExactHolesInUptoRow.holds Try.pinned (OpenSpec.upto fnExactHolesInSpec)

/-- 'laws.FnExactPunchedBy', WHERE WHAT IT READS IS OF BULK AT MOST 1048576: true; the input reads as it did. -/
def fnExactPunchedByUptoRow : OpenClaim := { program := "ytheecdeipmoihaa", sum := "a2b2ae22a7e115530da59503459b365be4cdcb9f6c3d4bf5ccb06264fdc82cfc", func := "loop.example/g00949/laws.FnExactPunchedBy", spec := "fnExactPunchedBy", inPlace := ["internal/reflectlite.ValueOf", "internal/reflectlite.Swapper", "(internal/reflectlite.Value).Len"], unfollowed := true, recurses := true, apart := false, narrowed := true }
def FnExactPunchedByUptoSaid : Prop := fnExactPunchedByUptoRow.holds Try.pinned (OpenSpec.upto fnExactPunchedBySpec)

/-- 'laws.FnExactPunchedNow', WHERE WHAT IT READS IS OF BULK AT MOST 1048576: true; the input reads as it did. -/
def fnExactPunchedNowUptoRow : OpenClaim := { program := "ytheecdeipmoihaa", sum := "a2b2ae22a7e115530da59503459b365be4cdcb9f6c3d4bf5ccb06264fdc82cfc", func := "loop.example/g00949/laws.FnExactPunchedNow", spec := "fnExactPunchedNow", inPlace := ["internal/reflectlite.ValueOf", "internal/reflectlite.Swapper", "(internal/reflectlite.Value).Len"], unfollowed := true, recurses := true, apart := false, narrowed := true }
def FnExactPunchedNowUptoSaid : Prop := fnExactPunchedNowUptoRow.holds Try.pinned (OpenSpec.upto fnExactPunchedNowSpec)

/-- 'laws.FnSpools', WHERE WHAT IT READS IS OF BULK AT MOST 1048576: true; the input reads as it did. -/
def fnSpoolsUptoRow : OpenClaim := { program := "ytheecdeipmoihaa", sum := "a2b2ae22a7e115530da59503459b365be4cdcb9f6c3d4bf5ccb06264fdc82cfc", func := "loop.example/g00949/laws.FnSpools", spec := "fnSpools", apart := false, narrowed := true }
def FnSpoolsUptoSaid : Prop := fnSpoolsUptoRow.holds Try.pinned (OpenSpec.upto fnSpoolsSpec)

/-- 'laws.FnCores', WHERE WHAT IT READS IS OF BULK AT MOST 1048576: true; the input reads as it did. -/
def fnCoresUptoRow : OpenClaim := { program := "ytheecdeipmoihaa", sum := "a2b2ae22a7e115530da59503459b365be4cdcb9f6c3d4bf5ccb06264fdc82cfc", func := "loop.example/g00949/laws.FnCores", spec := "fnCores", apart := false, narrowed := true }
def FnCoresUptoSaid : Prop := fnCoresUptoRow.holds Try.pinned (OpenSpec.upto fnCoresSpec)

/-- 'laws.FnStops', WHERE WHAT IT READS IS OF BULK AT MOST 1048576: true; the input reads as it did. -/
def fnStopsUptoRow : OpenClaim := { program := "ytheecdeipmoihaa", sum := "a2b2ae22a7e115530da59503459b365be4cdcb9f6c3d4bf5ccb06264fdc82cfc", func := "loop.example/g00949/laws.FnStops", spec := "fnStops", apart := false, narrowed := true }
def FnStopsUptoSaid : Prop := fnStopsUptoRow.holds Try.pinned (OpenSpec.upto fnStopsSpec)

end Rows
end Go.Proofs.Ytheecdeipmoihaa
