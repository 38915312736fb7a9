/-
  DERIVED. GIVEN WITH THE SEED: THE CARDS: each row of YtcmmdchjppaimaaGreatDoorRows.lean that lists a variable, with what it lists TIED to the program's text (the seventh form; the later family's looks); each row that meets fmt, with fmt's text TOLD by the authors' own Lean function (tested against real Go, not proved from fmt's source: count such statements apart). THE CARD IS WHAT COUNTS. Prove the row's statement (the work); the ties are given (YtcmmdchjppaimaaGreatDoorTie.lean); close each card by the builder's one call (the guide's Derived/Test/ToyasCard.lean, 'card_holds'). Laid BY PROGRAM, IN A SANDBOX (cutbox-door.mjs). By AI agents, Wed Nov 11 2026. No macro, syntax, notation, axiom, sorry.
-/
import Derived.Test.YtcmmdchjppaimaaGreatDoorRows
import GoSem.ClaimSeven
namespace Go.Proofs.YtcmmdchjppaimaaGreatDoor
namespace Rows

/-- THE TIED CARD OF 'laws.FnExactCompileProgram'. -/
def fnExactCompileProgramCard : Claim7 := { stood := { row := fnExactCompileProgramRow, standIns := [], harness := (true, "9a7043c2a9a7b97ad3365273c18a515755a56195f53d3d989b2bcd51204fbe81"), looks := false }, kinds := [], alts := [], laidByText := true, laidKinds := [.listed, .data], laidTests := true, laidLooks := .later }
def FnExactCompileProgramCardSaid : Prop := Claim7.holds Tryz.pinned (.plain (OpenSpec.ofChange fnExactCompileProgramSpec)) fnExactCompileProgramCard

/-- THE TIED CARD OF 'laws.FnExactLowerUnit'. -/
def fnExactLowerUnitCard : Claim7 := { stood := { row := fnExactLowerUnitRow, standIns := [], harness := (true, "9a7043c2a9a7b97ad3365273c18a515755a56195f53d3d989b2bcd51204fbe81"), looks := false }, kinds := [], alts := [], laidByText := true, laidKinds := [.listed, .data], laidTests := true, laidLooks := .later }
def FnExactLowerUnitCardSaid : Prop := Claim7.holds Tryz.pinned (.plain (OpenSpec.ofChange fnExactLowerUnitSpec)) fnExactLowerUnitCard

/-- THE SECOND FORM's CARD OF 'laws.FnExactCompileProgram'. -/
def fnExactCompileProgramUptoCard : Claim7 := { stood := { row := fnExactCompileProgramUptoRow, standIns := [], harness := (true, "9a7043c2a9a7b97ad3365273c18a515755a56195f53d3d989b2bcd51204fbe81"), looks := false }, kinds := [], alts := [], laidByText := true, laidKinds := [.listed, .data], laidTests := true, laidLooks := .later }
def FnExactCompileProgramUptoCardSaid : Prop := Claim7.holds Tryz.pinned (.plain (OpenSpec.upto fnExactCompileProgramSpec)) fnExactCompileProgramUptoCard

/-- THE SECOND FORM's CARD OF 'laws.FnExactLowerUnit'. -/
def fnExactLowerUnitUptoCard : Claim7 := { stood := { row := fnExactLowerUnitUptoRow, standIns := [], harness := (true, "9a7043c2a9a7b97ad3365273c18a515755a56195f53d3d989b2bcd51204fbe81"), looks := false }, kinds := [], alts := [], laidByText := true, laidKinds := [.listed, .data], laidTests := true, laidLooks := .later }
def FnExactLowerUnitUptoCardSaid : Prop := Claim7.holds Tryz.pinned (.plain (OpenSpec.upto fnExactLowerUnitSpec)) fnExactLowerUnitUptoCard
end Rows
end Go.Proofs.YtcmmdchjppaimaaGreatDoor
