/-
  DERIVED. GIVEN WITH THE SEED: THE CARDS: each row of YtggoeidgmbplfaaDoorRows.lean that lists a variable, with what it lists TIED to the program's text (the seventh form; the later family's looks); each row that meets fmt, with fmt's text TOLD by the authors' own Lean function (tested against real Go, not proved from fmt's source: count such statements apart). THE CARD IS WHAT COUNTS. Prove the row's statement (the work); the ties are given (YtggoeidgmbplfaaDoorTie.lean); close each card by the builder's one call (the guide's Derived/Test/ToyasCard.lean, 'card_holds'). Laid BY PROGRAM, IN A SANDBOX (cutbox-door.mjs). By AI agents, Wed Nov 11 2026. No macro, syntax, notation, axiom, sorry.
-/
import Derived.Test.YtggoeidgmbplfaaDoorRows
import GoSem.ClaimSeven
namespace Go.Proofs.YtggoeidgmbplfaaDoor
namespace Rows

/-- THE TIED CARD OF 'laws.FnExactFormatInstr'. -/
def fnExactFormatInstrCard : Claim7 := { stood := { row := fnExactFormatInstrRow, standIns := [], harness := (true, "afd214faae7ffb3559853d5b95fe9f9a960f346da9f5059f661c53b9126e405d"), looks := false }, kinds := [], alts := [], laidByText := true, laidKinds := [.data, .data, .data, .listed, .data], laidTests := true, laidLooks := .later }
def FnExactFormatInstrCardSaid : Prop := Claim7.holds Tryd.pinned (.plain (OpenSpec.ofChange fnExactFormatInstrSpec)) fnExactFormatInstrCard

/-- THE SECOND FORM's CARD OF 'laws.FnExactFormatInstr'. -/
def fnExactFormatInstrUptoCard : Claim7 := { stood := { row := fnExactFormatInstrUptoRow, standIns := [], harness := (true, "afd214faae7ffb3559853d5b95fe9f9a960f346da9f5059f661c53b9126e405d"), looks := false }, kinds := [], alts := [], laidByText := true, laidKinds := [.data, .data, .data, .listed, .data], laidTests := true, laidLooks := .later }
def FnExactFormatInstrUptoCardSaid : Prop := Claim7.holds Tryd.pinned (.plain (OpenSpec.upto fnExactFormatInstrSpec)) fnExactFormatInstrUptoCard
end Rows
end Go.Proofs.YtggoeidgmbplfaaDoor
