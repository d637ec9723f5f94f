/-
  No cell of these rows narrows 'for every input' (looked for: loops, veiled, ifaces, maps, wideKeys, modest, calm, conditions, laid).
  DERIVED. THE GIVEN ROWS OF THIS SEAT. 12 by the template 'for every input the law returns true; each argument reads behind the call as it read before'; 0 by the template 'total and deterministic' (their statements: YtnjmoldagecniaaTotals.lean).
  GIVEN WITH THE SEED: the statements are not yours to turn. If you find one false, say at which input.
  Laid BY PROGRAM, IN A SANDBOX (cutbox-rows.mjs): the forced cells as the released guide's own fill.sh prints them over the translation 9db1ae232955a6a3… (all of the seat's roots in one cut). By AI agents, Wed Nov 11 2026. No macro, syntax, notation, axiom, sorry.
-/
import Derived.Test.YtnjmoldagecniaaChecked
import GoSem.Claim
import GoSem.ClaimJoined
import GoSem.ClaimMapViews
import Derived.JoinedTies
import Derived.KernelRfl
namespace Go.Proofs.Ytnjmoldagecniaa
/- THE CELL 'sum', in the pinned program and in every row, IS THE sha256 OF THE DUMP (.gsa) THAT YtnjmoldagecniaaProg.lean LOADS. Nothing in Lean hashes anything: it is a label: what it is worth is what the hold of that sum in a sandbox is worth. -/
noncomputable def Try.pinned : Pinned := { name := "ytnjmoldagecniaa", sum := "9db1ae232955a6a37af8e08b6582b449191565d4b1ace779c1952ed942fb17ec", checked := Try.checked }
namespace Rows
def none {H : Type} : Left H := { results := [], args := [] }

/-- 'laws.FnExactIsSpool': WHATEVER THE INPUT: true; the input reads as it did. -/
def fnExactIsSpoolSpec : ChangeSpec := { name := "fnExactIsSpool", fn := fun _ => fun
  | [d] => { results := [.lit (.bool true)], args := [d] }
  | _ => none }
def fnExactIsSpoolRow : OpenClaim := { program := "ytnjmoldagecniaa", sum := "9db1ae232955a6a37af8e08b6582b449191565d4b1ace779c1952ed942fb17ec", func := "loop.example/g00949/laws.FnExactIsSpool", spec := "fnExactIsSpool", apart := false }
def FnExactIsSpoolSaid : Prop := fnExactIsSpoolRow.holds Try.pinned (OpenSpec.ofChange fnExactIsSpoolSpec)

/-- ITS FALSE NEIGHBOUR: 'it returns false'. Refute it at one input. -/
def fnExactIsSpoolWrong : ChangeSpec := { name := "fnExactIsSpool", fn := fun _ => fun
  | [d] => { results := [.lit (.bool false)], args := [d] }
  | _ => none }
def FnExactIsSpoolWrongFalsely : Prop := fnExactIsSpoolRow.holds Try.pinned (OpenSpec.ofChange fnExactIsSpoolWrong)

/-- 'laws.FnExactBestMark': WHATEVER THE INPUT: true; the input reads as it did. -/
def fnExactBestMarkSpec : ChangeSpec := { name := "fnExactBestMark", fn := fun _ => fun
  | [d1, d2, d3] => { results := [.lit (.bool true)], args := [d1, d2, d3] }
  | _ => none }
def fnExactBestMarkRow : OpenClaim := { program := "ytnjmoldagecniaa", sum := "9db1ae232955a6a37af8e08b6582b449191565d4b1ace779c1952ed942fb17ec", func := "loop.example/g00949/laws.FnExactBestMark", spec := "fnExactBestMark", apart := false }
def FnExactBestMarkSaid : Prop := fnExactBestMarkRow.holds Try.pinned (OpenSpec.ofChange fnExactBestMarkSpec)

/-- ITS FALSE NEIGHBOUR: 'it returns false'. Refute it at one input. -/
def fnExactBestMarkWrong : ChangeSpec := { name := "fnExactBestMark", fn := fun _ => fun
  | [d1, d2, d3] => { results := [.lit (.bool false)], args := [d1, d2, d3] }
  | _ => none }
def FnExactBestMarkWrongFalsely : Prop := fnExactBestMarkRow.holds Try.pinned (OpenSpec.ofChange fnExactBestMarkWrong)

/-- 'laws.FnExactTurnLength': WHATEVER THE INPUT: true; the input reads as it did. -/
def fnExactTurnLengthSpec : ChangeSpec := { name := "fnExactTurnLength", fn := fun _ => fun
  | [d1, d2] => { results := [.lit (.bool true)], args := [d1, d2] }
  | _ => none }
def fnExactTurnLengthRow : OpenClaim := { program := "ytnjmoldagecniaa", sum := "9db1ae232955a6a37af8e08b6582b449191565d4b1ace779c1952ed942fb17ec", func := "loop.example/g00949/laws.FnExactTurnLength", spec := "fnExactTurnLength", apart := false }
def FnExactTurnLengthSaid : Prop := fnExactTurnLengthRow.holds Try.pinned (OpenSpec.ofChange fnExactTurnLengthSpec)

/-- ITS FALSE NEIGHBOUR: 'it returns false'. Refute it at one input. -/
def fnExactTurnLengthWrong : ChangeSpec := { name := "fnExactTurnLength", fn := fun _ => fun
  | [d1, d2] => { results := [.lit (.bool false)], args := [d1, d2] }
  | _ => none }
def FnExactTurnLengthWrongFalsely : Prop := fnExactTurnLengthRow.holds Try.pinned (OpenSpec.ofChange fnExactTurnLengthWrong)

/-- 'laws.FnExactLengthOf': WHATEVER THE INPUT: true; the input reads as it did. -/
def fnExactLengthOfSpec : ChangeSpec := { name := "fnExactLengthOf", fn := fun _ => fun
  | [d] => { results := [.lit (.bool true)], args := [d] }
  | _ => none }
def fnExactLengthOfRow : OpenClaim := { program := "ytnjmoldagecniaa", sum := "9db1ae232955a6a37af8e08b6582b449191565d4b1ace779c1952ed942fb17ec", func := "loop.example/g00949/laws.FnExactLengthOf", spec := "fnExactLengthOf", apart := false }
def FnExactLengthOfSaid : Prop := fnExactLengthOfRow.holds Try.pinned (OpenSpec.ofChange fnExactLengthOfSpec)

/-- ITS FALSE NEIGHBOUR: 'it returns false'. Refute it at one input. -/
def fnExactLengthOfWrong : ChangeSpec := { name := "fnExactLengthOf", fn := fun _ => fun
  | [d] => { results := [.lit (.bool false)], args := [d] }
  | _ => none }
def FnExactLengthOfWrongFalsely : Prop := fnExactLengthOfRow.holds Try.pinned (OpenSpec.ofChange fnExactLengthOfWrong)

/-- 'laws.FnExactLeastCore': WHATEVER THE INPUT: true; the input reads as it did. -/
def fnExactLeastCoreSpec : ChangeSpec := { name := "fnExactLeastCore", fn := fun _ => fun
  | [d1, d2, d3] => { results := [.lit (.bool true)], args := [d1, d2, d3] }
  | _ => none }
def fnExactLeastCoreRow : OpenClaim := { program := "ytnjmoldagecniaa", sum := "9db1ae232955a6a37af8e08b6582b449191565d4b1ace779c1952ed942fb17ec", func := "loop.example/g00949/laws.FnExactLeastCore", spec := "fnExactLeastCore", apart := false }
def FnExactLeastCoreSaid : Prop := fnExactLeastCoreRow.holds Try.pinned (OpenSpec.ofChange fnExactLeastCoreSpec)

/-- ITS FALSE NEIGHBOUR: 'it returns false'. Refute it at one input. -/
def fnExactLeastCoreWrong : ChangeSpec := { name := "fnExactLeastCore", fn := fun _ => fun
  | [d1, d2, d3] => { results := [.lit (.bool false)], args := [d1, d2, d3] }
  | _ => none }
def FnExactLeastCoreWrongFalsely : Prop := fnExactLeastCoreRow.holds Try.pinned (OpenSpec.ofChange fnExactLeastCoreWrong)

/-- 'laws.FnExactLengthWound': WHATEVER THE INPUT: true; the input reads as it did. -/
def fnExactLengthWoundSpec : ChangeSpec := { name := "fnExactLengthWound", fn := fun _ => fun
  | [d1, d2] => { results := [.lit (.bool true)], args := [d1, d2] }
  | _ => none }
def fnExactLengthWoundRow : OpenClaim := { program := "ytnjmoldagecniaa", sum := "9db1ae232955a6a37af8e08b6582b449191565d4b1ace779c1952ed942fb17ec", func := "loop.example/g00949/laws.FnExactLengthWound", spec := "fnExactLengthWound", apart := false }
def FnExactLengthWoundSaid : Prop := fnExactLengthWoundRow.holds Try.pinned (OpenSpec.ofChange fnExactLengthWoundSpec)

/-- ITS FALSE NEIGHBOUR: 'it returns false'. Refute it at one input. -/
def fnExactLengthWoundWrong : ChangeSpec := { name := "fnExactLengthWound", fn := fun _ => fun
  | [d1, d2] => { results := [.lit (.bool false)], args := [d1, d2] }
  | _ => none }
def FnExactLengthWoundWrongFalsely : Prop := fnExactLengthWoundRow.holds Try.pinned (OpenSpec.ofChange fnExactLengthWoundWrong)

/-- 'laws.FnExactSpeedRatio': WHATEVER THE INPUT: true; the input reads as it did. -/
def fnExactSpeedRatioSpec : ChangeSpec := { name := "fnExactSpeedRatio", fn := fun _ => fun
  | [d1, d2] => { results := [.lit (.bool true)], args := [d1, d2] }
  | _ => none }
def fnExactSpeedRatioRow : OpenClaim := { program := "ytnjmoldagecniaa", sum := "9db1ae232955a6a37af8e08b6582b449191565d4b1ace779c1952ed942fb17ec", func := "loop.example/g00949/laws.FnExactSpeedRatio", spec := "fnExactSpeedRatio", apart := false }
def FnExactSpeedRatioSaid : Prop := fnExactSpeedRatioRow.holds Try.pinned (OpenSpec.ofChange fnExactSpeedRatioSpec)

/-- ITS FALSE NEIGHBOUR: 'it returns false'. Refute it at one input. -/
def fnExactSpeedRatioWrong : ChangeSpec := { name := "fnExactSpeedRatio", fn := fun _ => fun
  | [d1, d2] => { results := [.lit (.bool false)], args := [d1, d2] }
  | _ => none }
def FnExactSpeedRatioWrongFalsely : Prop := fnExactSpeedRatioRow.holds Try.pinned (OpenSpec.ofChange fnExactSpeedRatioWrong)

/-- 'laws.FnExactTurnsFor': WHATEVER THE INPUT: true; the input reads as it did. -/
def fnExactTurnsForSpec : ChangeSpec := { name := "fnExactTurnsFor", fn := fun _ => fun
  | [d1, d2] => { results := [.lit (.bool true)], args := [d1, d2] }
  | _ => none }
def fnExactTurnsForRow : OpenClaim := { program := "ytnjmoldagecniaa", sum := "9db1ae232955a6a37af8e08b6582b449191565d4b1ace779c1952ed942fb17ec", func := "loop.example/g00949/laws.FnExactTurnsFor", spec := "fnExactTurnsFor", apart := false }
def FnExactTurnsForSaid : Prop := fnExactTurnsForRow.holds Try.pinned (OpenSpec.ofChange fnExactTurnsForSpec)

/-- ITS FALSE NEIGHBOUR: 'it returns false'. Refute it at one input. -/
def fnExactTurnsForWrong : ChangeSpec := { name := "fnExactTurnsFor", fn := fun _ => fun
  | [d1, d2] => { results := [.lit (.bool false)], args := [d1, d2] }
  | _ => none }
def FnExactTurnsForWrongFalsely : Prop := fnExactTurnsForRow.holds Try.pinned (OpenSpec.ofChange fnExactTurnsForWrong)

/-- 'laws.FnExactCompareSpools': WHATEVER THE INPUT: true; the input reads as it did. -/
def fnExactCompareSpoolsSpec : ChangeSpec := { name := "fnExactCompareSpools", fn := fun _ => fun
  | [d1, d2] => { results := [.lit (.bool true)], args := [d1, d2] }
  | _ => none }
def fnExactCompareSpoolsRow : OpenClaim := { program := "ytnjmoldagecniaa", sum := "9db1ae232955a6a37af8e08b6582b449191565d4b1ace779c1952ed942fb17ec", func := "loop.example/g00949/laws.FnExactCompareSpools", spec := "fnExactCompareSpools", apart := false }
def FnExactCompareSpoolsSaid : Prop := fnExactCompareSpoolsRow.holds Try.pinned (OpenSpec.ofChange fnExactCompareSpoolsSpec)

/-- ITS FALSE NEIGHBOUR: 'it returns false'. Refute it at one input. -/
def fnExactCompareSpoolsWrong : ChangeSpec := { name := "fnExactCompareSpools", fn := fun _ => fun
  | [d1, d2] => { results := [.lit (.bool false)], args := [d1, d2] }
  | _ => none }
def FnExactCompareSpoolsWrongFalsely : Prop := fnExactCompareSpoolsRow.holds Try.pinned (OpenSpec.ofChange fnExactCompareSpoolsWrong)

/-- 'laws.FnExactEighthsFor': WHATEVER THE INPUT: true; the input reads as it did. -/
def fnExactEighthsForSpec : ChangeSpec := { name := "fnExactEighthsFor", fn := fun _ => fun
  | [d1, d2] => { results := [.lit (.bool true)], args := [d1, d2] }
  | _ => none }
def fnExactEighthsForRow : OpenClaim := { program := "ytnjmoldagecniaa", sum := "9db1ae232955a6a37af8e08b6582b449191565d4b1ace779c1952ed942fb17ec", func := "loop.example/g00949/laws.FnExactEighthsFor", spec := "fnExactEighthsFor", apart := false }
def FnExactEighthsForSaid : Prop := fnExactEighthsForRow.holds Try.pinned (OpenSpec.ofChange fnExactEighthsForSpec)

/-- ITS FALSE NEIGHBOUR: 'it returns false'. Refute it at one input. -/
def fnExactEighthsForWrong : ChangeSpec := { name := "fnExactEighthsFor", fn := fun _ => fun
  | [d1, d2] => { results := [.lit (.bool false)], args := [d1, d2] }
  | _ => none }
def FnExactEighthsForWrongFalsely : Prop := fnExactEighthsForRow.holds Try.pinned (OpenSpec.ofChange fnExactEighthsForWrong)

/-- 'laws.FnExactRewindEighths': WHATEVER THE INPUT: true; the input reads as it did. -/
def fnExactRewindEighthsSpec : ChangeSpec := { name := "fnExactRewindEighths", fn := fun _ => fun
  | [d1, d2, d3] => { results := [.lit (.bool true)], args := [d1, d2, d3] }
  | _ => none }
def fnExactRewindEighthsRow : OpenClaim := { program := "ytnjmoldagecniaa", sum := "9db1ae232955a6a37af8e08b6582b449191565d4b1ace779c1952ed942fb17ec", func := "loop.example/g00949/laws.FnExactRewindEighths", spec := "fnExactRewindEighths", apart := false }
def FnExactRewindEighthsSaid : Prop := fnExactRewindEighthsRow.holds Try.pinned (OpenSpec.ofChange fnExactRewindEighthsSpec)

/-- ITS FALSE NEIGHBOUR: 'it returns false'. Refute it at one input. -/
def fnExactRewindEighthsWrong : ChangeSpec := { name := "fnExactRewindEighths", fn := fun _ => fun
  | [d1, d2, d3] => { results := [.lit (.bool false)], args := [d1, d2, d3] }
  | _ => none }
def FnExactRewindEighthsWrongFalsely : Prop := fnExactRewindEighthsRow.holds Try.pinned (OpenSpec.ofChange fnExactRewindEighthsWrong)

/-- 'laws.FnExactPiecesOn': WHATEVER THE INPUT: true; the input reads as it did. -/
def fnExactPiecesOnSpec : ChangeSpec := { name := "fnExactPiecesOn", fn := fun _ => fun
  | [d1, d2] => { results := [.lit (.bool true)], args := [d1, d2] }
  | _ => none }
def fnExactPiecesOnRow : OpenClaim := { program := "ytnjmoldagecniaa", sum := "9db1ae232955a6a37af8e08b6582b449191565d4b1ace779c1952ed942fb17ec", func := "loop.example/g00949/laws.FnExactPiecesOn", spec := "fnExactPiecesOn", apart := false }
def FnExactPiecesOnSaid : Prop := fnExactPiecesOnRow.holds Try.pinned (OpenSpec.ofChange fnExactPiecesOnSpec)

/-- ITS FALSE NEIGHBOUR: 'it returns false'. Refute it at one input. -/
def fnExactPiecesOnWrong : ChangeSpec := { name := "fnExactPiecesOn", fn := fun _ => fun
  | [d1, d2] => { results := [.lit (.bool false)], args := [d1, d2] }
  | _ => none }
def FnExactPiecesOnWrongFalsely : Prop := fnExactPiecesOnRow.holds Try.pinned (OpenSpec.ofChange fnExactPiecesOnWrong)

/- THE SECOND FORM. 'bulk': how many values and letters a reading holds, each counted each time it is reached (what is shared counts as often as it is met; a slice's spare places count too). A statement '..UptoSaid' is the law's where the arguments, and the package variables that the reading takes, are together of bulk at most 1048576: NARROWER than '..Said'. Prove '..Said' where nothing that the law and all that it calls make is longer than what came in: it says more and counts as full. Else prove '..UptoSaid'. A law counts once. -/
mutual
def uptoBulk {H : Type} : DataW H → Nat
  | .lit (.string bytes) => bytes.length + 1
  | .lit _ => 1
  | .nil => 1
  | .ptr d => uptoBulk d + 1
  | .slice elems spare => uptoBulkAll elems + uptoBulkAll spare + 1
  | .agg parts => uptoBulkAll parts + 1
  | .iface _ d => uptoBulk d + 1
  | .map entries => uptoBulkEntries entries + 1
  | .held _ => 1
def uptoBulkAll {H : Type} : List (DataW H) → Nat
  | [] => 0
  | d :: r => uptoBulk d + uptoBulkAll r
def uptoBulkEntries {H : Type} : List (Lit × DataW H) → Nat
  | [] => 0
  | x :: r => uptoBulkEntry x + uptoBulkEntries r
def uptoBulkEntry {H : Type} : Lit × DataW H → Nat
  | (.string bytes, d) => bytes.length + uptoBulk d + 1
  | (_, d) => uptoBulk d + 1
 end
def uptoSmall : (H : Type) → List (DataW H) → Bool := fun _ ds => decide (uptoBulkAll ds ≤ 1048576)
def OpenSpec.upto (s : _root_.Go.ChangeSpec) : _root_.Go.OpenSpec := { _root_.Go.OpenSpec.ofChange s with cond := some uptoSmall }

/-- 'laws.FnExactIsSpool', WHERE WHAT IT READS IS OF BULK AT MOST 1048576: true; the input reads as it did. -/
def fnExactIsSpoolUptoRow : OpenClaim := { program := "ytnjmoldagecniaa", sum := "9db1ae232955a6a37af8e08b6582b449191565d4b1ace779c1952ed942fb17ec", func := "loop.example/g00949/laws.FnExactIsSpool", spec := "fnExactIsSpool", apart := false, narrowed := true }
def FnExactIsSpoolUptoSaid : Prop := fnExactIsSpoolUptoRow.holds Try.pinned (OpenSpec.upto fnExactIsSpoolSpec)

/-- 'laws.FnExactBestMark', WHERE WHAT IT READS IS OF BULK AT MOST 1048576: true; the input reads as it did. -/
def fnExactBestMarkUptoRow : OpenClaim := { program := "ytnjmoldagecniaa", sum := "9db1ae232955a6a37af8e08b6582b449191565d4b1ace779c1952ed942fb17ec", func := "loop.example/g00949/laws.FnExactBestMark", spec := "fnExactBestMark", apart := false, narrowed := true }
def FnExactBestMarkUptoSaid : Prop := fnExactBestMarkUptoRow.holds Try.pinned (OpenSpec.upto fnExactBestMarkSpec)

/-- 'laws.FnExactTurnLength', WHERE WHAT IT READS IS OF BULK AT MOST 1048576: true; the input reads as it did. -/
def fnExactTurnLengthUptoRow : OpenClaim := { program := "ytnjmoldagecniaa", sum := "9db1ae232955a6a37af8e08b6582b449191565d4b1ace779c1952ed942fb17ec", func := "loop.example/g00949/laws.FnExactTurnLength", spec := "fnExactTurnLength", apart := false, narrowed := true }
def FnExactTurnLengthUptoSaid : Prop := fnExactTurnLengthUptoRow.holds Try.pinned (OpenSpec.upto fnExactTurnLengthSpec)

/-- 'laws.FnExactLengthOf', WHERE WHAT IT READS IS OF BULK AT MOST 1048576: true; the input reads as it did. -/
def fnExactLengthOfUptoRow : OpenClaim := { program := "ytnjmoldagecniaa", sum := "9db1ae232955a6a37af8e08b6582b449191565d4b1ace779c1952ed942fb17ec", func := "loop.example/g00949/laws.FnExactLengthOf", spec := "fnExactLengthOf", apart := false, narrowed := true }
def FnExactLengthOfUptoSaid : Prop := fnExactLengthOfUptoRow.holds Try.pinned (OpenSpec.upto fnExactLengthOfSpec)

/-- 'laws.FnExactLeastCore', WHERE WHAT IT READS IS OF BULK AT MOST 1048576: true; the input reads as it did. -/
def fnExactLeastCoreUptoRow : OpenClaim := { program := "ytnjmoldagecniaa", sum := "9db1ae232955a6a37af8e08b6582b449191565d4b1ace779c1952ed942fb17ec", func := "loop.example/g00949/laws.FnExactLeastCore", spec := "fnExactLeastCore", apart := false, narrowed := true }
def FnExactLeastCoreUptoSaid : Prop := fnExactLeastCoreUptoRow.holds Try.pinned (OpenSpec.upto fnExactLeastCoreSpec)

/-- 'laws.FnExactLengthWound', WHERE WHAT IT READS IS OF BULK AT MOST 1048576: true; the input reads as it did. -/
def fnExactLengthWoundUptoRow : OpenClaim := { program := "ytnjmoldagecniaa", sum := "9db1ae232955a6a37af8e08b6582b449191565d4b1ace779c1952ed942fb17ec", func := "loop.example/g00949/laws.FnExactLengthWound", spec := "fnExactLengthWound", apart := false, narrowed := true }
def FnExactLengthWoundUptoSaid : Prop := fnExactLengthWoundUptoRow.holds Try.pinned (OpenSpec.upto fnExactLengthWoundSpec)

/-- 'laws.FnExactSpeedRatio', WHERE WHAT IT READS IS OF BULK AT MOST 1048576: true; the input reads as it did. -/
def fnExactSpeedRatioUptoRow : OpenClaim := { program := "ytnjmoldagecniaa", sum := "9db1ae232955a6a37af8e08b6582b449191565d4b1ace779c1952ed942fb17ec", func := "loop.example/g00949/laws.FnExactSpeedRatio", spec := "fnExactSpeedRatio", apart := false, narrowed := true }
def FnExactSpeedRatioUptoSaid : Prop := fnExactSpeedRatioUptoRow.holds Try.pinned (OpenSpec.upto fnExactSpeedRatioSpec)

/-- 'laws.FnExactTurnsFor', WHERE WHAT IT READS IS OF BULK AT MOST 1048576: true; the input reads as it did. -/
def fnExactTurnsForUptoRow : OpenClaim := { program := "ytnjmoldagecniaa", sum := "9db1ae232955a6a37af8e08b6582b449191565d4b1ace779c1952ed942fb17ec", func := "loop.example/g00949/laws.FnExactTurnsFor", spec := "fnExactTurnsFor", apart := false, narrowed := true }
def FnExactTurnsForUptoSaid : Prop := fnExactTurnsForUptoRow.holds Try.pinned (OpenSpec.upto fnExactTurnsForSpec)

/-- 'laws.FnExactCompareSpools', WHERE WHAT IT READS IS OF BULK AT MOST 1048576: true; the input reads as it did. -/
def fnExactCompareSpoolsUptoRow : OpenClaim := { program := "ytnjmoldagecniaa", sum := "9db1ae232955a6a37af8e08b6582b449191565d4b1ace779c1952ed942fb17ec", func := "loop.example/g00949/laws.FnExactCompareSpools", spec := "fnExactCompareSpools", apart := false, narrowed := true }
def FnExactCompareSpoolsUptoSaid : Prop := fnExactCompareSpoolsUptoRow.holds Try.pinned (OpenSpec.upto fnExactCompareSpoolsSpec)

/-- 'laws.FnExactEighthsFor', WHERE WHAT IT READS IS OF BULK AT MOST 1048576: true; the input reads as it did. -/
def fnExactEighthsForUptoRow : OpenClaim := { program := "ytnjmoldagecniaa", sum := "9db1ae232955a6a37af8e08b6582b449191565d4b1ace779c1952ed942fb17ec", func := "loop.example/g00949/laws.FnExactEighthsFor", spec := "fnExactEighthsFor", apart := false, narrowed := true }
def FnExactEighthsForUptoSaid : Prop := fnExactEighthsForUptoRow.holds Try.pinned (OpenSpec.upto fnExactEighthsForSpec)

/-- 'laws.FnExactRewindEighths', WHERE WHAT IT READS IS OF BULK AT MOST 1048576: true; the input reads as it did. -/
def fnExactRewindEighthsUptoRow : OpenClaim := { program := "ytnjmoldagecniaa", sum := "9db1ae232955a6a37af8e08b6582b449191565d4b1ace779c1952ed942fb17ec", func := "loop.example/g00949/laws.FnExactRewindEighths", spec := "fnExactRewindEighths", apart := false, narrowed := true }
def FnExactRewindEighthsUptoSaid : Prop := fnExactRewindEighthsUptoRow.holds Try.pinned (OpenSpec.upto fnExactRewindEighthsSpec)

/-- 'laws.FnExactPiecesOn', WHERE WHAT IT READS IS OF BULK AT MOST 1048576: true; the input reads as it did. -/
def fnExactPiecesOnUptoRow : OpenClaim := { program := "ytnjmoldagecniaa", sum := "9db1ae232955a6a37af8e08b6582b449191565d4b1ace779c1952ed942fb17ec", func := "loop.example/g00949/laws.FnExactPiecesOn", spec := "fnExactPiecesOn", apart := false, narrowed := true }
def FnExactPiecesOnUptoSaid : Prop := fnExactPiecesOnUptoRow.holds Try.pinned (OpenSpec.upto fnExactPiecesOnSpec)

end Rows
end Go.Proofs.Ytnjmoldagecniaa
