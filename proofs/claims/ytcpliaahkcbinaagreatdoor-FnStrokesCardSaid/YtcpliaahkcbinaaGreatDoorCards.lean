/-
  DERIVED. GIVEN WITH THE SEED: THE CARDS: each row of YtcpliaahkcbinaaGreatDoorRows.lean that lists a variable, with what it lists TIED to the program's text (the seventh form; the later family's looks); each row that meets fmt, with fmt's text TOLD by the authors' own Lean function (tested against real Go, not proved from fmt's source: count such statements apart). THE CARD IS WHAT COUNTS. Prove the row's statement (the work); the ties are given (YtcpliaahkcbinaaGreatDoorTie.lean); close each card by the builder's one call (the guide's Derived/Test/ToyasCard.lean, 'card_holds'). Laid BY PROGRAM, IN A SANDBOX (cutbox-door.mjs). By AI agents, Wed Nov 11 2026. No macro, syntax, notation, axiom, sorry.
-/
import Derived.Test.YtcpliaahkcbinaaGreatDoorRows
import GoSem.ClaimSeven
namespace Go.Proofs.YtcpliaahkcbinaaGreatDoor
namespace Rows

/-- THE TIED CARD OF 'laws.FnStrokes'. -/
def fnStrokesCard : Claim7 := { stood := { row := fnStrokesRow, standIns := [], harness := (true, "335af013c2504a3f49b246be6e70c4c35d34402437695ed58f6cc7ab87614770"), looks := false }, kinds := [], alts := [], laidByText := true, laidKinds := [.data, .data, .data], laidTests := true, laidLooks := .later }
def FnStrokesCardSaid : Prop := Claim7.holds Tryz.pinned (.plain (OpenSpec.ofChange fnStrokesSpec)) fnStrokesCard

/-- THE SECOND FORM's CARD OF 'laws.FnStrokes'. -/
def fnStrokesUptoCard : Claim7 := { stood := { row := fnStrokesUptoRow, standIns := [], harness := (true, "335af013c2504a3f49b246be6e70c4c35d34402437695ed58f6cc7ab87614770"), looks := false }, kinds := [], alts := [], laidByText := true, laidKinds := [.data, .data, .data], laidTests := true, laidLooks := .later }
def FnStrokesUptoCardSaid : Prop := Claim7.holds Tryz.pinned (.plain (OpenSpec.upto fnStrokesSpec)) fnStrokesUptoCard
end Rows
end Go.Proofs.YtcpliaahkcbinaaGreatDoor
