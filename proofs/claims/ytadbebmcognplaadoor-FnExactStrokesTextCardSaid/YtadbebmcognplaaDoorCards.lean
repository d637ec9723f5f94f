/-
  DERIVED. GIVEN WITH THE SEED: THE CARDS: each row of YtadbebmcognplaaDoorRows.lean that lists a variable, with what it lists TIED to the program's text (the seventh form; the later family's looks); each row that meets fmt, with fmt's text TOLD by the authors' own Lean function (tested against real Go, not proved from fmt's source: count such statements apart). THE CARD IS WHAT COUNTS. Prove the row's statement (the work); the ties are given (YtadbebmcognplaaDoorTie.lean); close each card by the builder's one call (the guide's Derived/Test/ToyasCard.lean, 'card_holds'). Laid BY PROGRAM, IN A SANDBOX (cutbox-door.mjs). By AI agents, Wed Nov 11 2026. No macro, syntax, notation, axiom, sorry.
-/
import Derived.Test.YtadbebmcognplaaDoorRows
import GoSem.ClaimSeven
namespace Go.Proofs.YtadbebmcognplaaDoor
namespace Rows

/-- THE TIED CARD OF 'laws.FnExactStrokesText'. -/
def fnExactStrokesTextCard : Claim7 := { stood := { row := fnExactStrokesTextRow, standIns := [], harness := (true, "ec0543396e5c289abe2560331f8209c439243081b112670095e052961d53364e"), looks := false }, kinds := [], alts := [], laidByText := true, laidKinds := [.data, .data, .data], laidTests := true, laidLooks := .later }
def FnExactStrokesTextCardSaid : Prop := Claim7.holds Tryd.pinned (.plain (OpenSpec.ofChange fnExactStrokesTextSpec)) fnExactStrokesTextCard

/-- THE TIED CARD OF 'laws.FnExactLeastHoles'. -/
def fnExactLeastHolesCard : Claim7 := { stood := { row := fnExactLeastHolesRow, standIns := [], harness := (true, "ec0543396e5c289abe2560331f8209c439243081b112670095e052961d53364e"), looks := false }, kinds := [], alts := [], laidByText := true, laidKinds := [.data, .pinned], laidTests := true, laidLooks := .later }
def FnExactLeastHolesCardSaid : Prop := Claim7.holds Tryd.pinned (.plain (OpenSpec.ofChange fnExactLeastHolesSpec)) fnExactLeastHolesCard

/-- THE TIED CARD OF 'laws.FnExactMostHoles'. -/
def fnExactMostHolesCard : Claim7 := { stood := { row := fnExactMostHolesRow, standIns := [], harness := (true, "ec0543396e5c289abe2560331f8209c439243081b112670095e052961d53364e"), looks := false }, kinds := [], alts := [], laidByText := true, laidKinds := [.data, .pinned], laidTests := true, laidLooks := .later }
def FnExactMostHolesCardSaid : Prop := Claim7.holds Tryd.pinned (.plain (OpenSpec.ofChange fnExactMostHolesSpec)) fnExactMostHolesCard

/-- THE SECOND FORM's CARD OF 'laws.FnExactStrokesText'. -/
def fnExactStrokesTextUptoCard : Claim7 := { stood := { row := fnExactStrokesTextUptoRow, standIns := [], harness := (true, "ec0543396e5c289abe2560331f8209c439243081b112670095e052961d53364e"), looks := false }, kinds := [], alts := [], laidByText := true, laidKinds := [.data, .data, .data], laidTests := true, laidLooks := .later }
def FnExactStrokesTextUptoCardSaid : Prop := Claim7.holds Tryd.pinned (.plain (OpenSpec.upto fnExactStrokesTextSpec)) fnExactStrokesTextUptoCard

/-- THE SECOND FORM's CARD OF 'laws.FnExactLeastHoles'. -/
def fnExactLeastHolesUptoCard : Claim7 := { stood := { row := fnExactLeastHolesUptoRow, standIns := [], harness := (true, "ec0543396e5c289abe2560331f8209c439243081b112670095e052961d53364e"), looks := false }, kinds := [], alts := [], laidByText := true, laidKinds := [.data, .pinned], laidTests := true, laidLooks := .later }
def FnExactLeastHolesUptoCardSaid : Prop := Claim7.holds Tryd.pinned (.plain (OpenSpec.upto fnExactLeastHolesSpec)) fnExactLeastHolesUptoCard

/-- THE SECOND FORM's CARD OF 'laws.FnExactMostHoles'. -/
def fnExactMostHolesUptoCard : Claim7 := { stood := { row := fnExactMostHolesUptoRow, standIns := [], harness := (true, "ec0543396e5c289abe2560331f8209c439243081b112670095e052961d53364e"), looks := false }, kinds := [], alts := [], laidByText := true, laidKinds := [.data, .pinned], laidTests := true, laidLooks := .later }
def FnExactMostHolesUptoCardSaid : Prop := Claim7.holds Tryd.pinned (.plain (OpenSpec.upto fnExactMostHolesSpec)) fnExactMostHolesUptoCard
end Rows
end Go.Proofs.YtadbebmcognplaaDoor
