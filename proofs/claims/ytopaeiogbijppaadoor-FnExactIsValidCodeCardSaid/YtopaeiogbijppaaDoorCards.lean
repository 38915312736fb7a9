/-
  DERIVED. GIVEN WITH THE SEED: THE CARDS: each row of YtopaeiogbijppaaDoorRows.lean that lists a variable, with what it lists TIED to the program's text (the seventh form; the later family's looks); each row that meets fmt, with fmt's text TOLD by the authors' own Lean function (tested against real Go, not proved from fmt's source: count such statements apart). THE CARD IS WHAT COUNTS. Prove the row's statement (the work); the ties are given (YtopaeiogbijppaaDoorTie.lean); close each card by the builder's one call (the guide's Derived/Test/ToyasCard.lean, 'card_holds'). Laid BY PROGRAM, IN A SANDBOX (cutbox-door.mjs). By AI agents, Wed Nov 11 2026. No macro, syntax, notation, axiom, sorry.
-/
import Derived.Test.YtopaeiogbijppaaDoorRows
import GoSem.ClaimSeven
namespace Go.Proofs.YtopaeiogbijppaaDoor
namespace Rows

/-- THE TIED CARD OF 'laws.FnExactParseInstr'. -/
def fnExactParseInstrCard : Claim7 := { stood := { row := fnExactParseInstrRow, standIns := [], harness := (true, "09e9d69f8d82e21e8da022e1a800f20f419b5851730e49662a35f87983bbb977"), looks := false }, kinds := [], alts := [], laidByText := true, laidKinds := [.data, .data, .data, .data, .listed, .data, .pinned], laidTests := true, laidLooks := .later }
def FnExactParseInstrCardSaid : Prop := Claim7.holds Tryd.pinned (.plain (OpenSpec.ofChange fnExactParseInstrSpec)) fnExactParseInstrCard

/-- THE TIED CARD OF 'laws.FnExactIsValidCode'. -/
def fnExactIsValidCodeCard : Claim7 := { stood := { row := fnExactIsValidCodeRow, standIns := [], harness := (true, "09e9d69f8d82e21e8da022e1a800f20f419b5851730e49662a35f87983bbb977"), looks := false }, kinds := [], alts := [], laidByText := true, laidKinds := [.listed, .data], laidTests := true, laidLooks := .later }
def FnExactIsValidCodeCardSaid : Prop := Claim7.holds Tryd.pinned (.plain (OpenSpec.ofChange fnExactIsValidCodeSpec)) fnExactIsValidCodeCard

/-- THE SECOND FORM's CARD OF 'laws.FnExactParseInstr'. -/
def fnExactParseInstrUptoCard : Claim7 := { stood := { row := fnExactParseInstrUptoRow, standIns := [], harness := (true, "09e9d69f8d82e21e8da022e1a800f20f419b5851730e49662a35f87983bbb977"), looks := false }, kinds := [], alts := [], laidByText := true, laidKinds := [.data, .data, .data, .data, .listed, .data, .pinned], laidTests := true, laidLooks := .later }
def FnExactParseInstrUptoCardSaid : Prop := Claim7.holds Tryd.pinned (.plain (OpenSpec.upto fnExactParseInstrSpec)) fnExactParseInstrUptoCard

/-- THE SECOND FORM's CARD OF 'laws.FnExactIsValidCode'. -/
def fnExactIsValidCodeUptoCard : Claim7 := { stood := { row := fnExactIsValidCodeUptoRow, standIns := [], harness := (true, "09e9d69f8d82e21e8da022e1a800f20f419b5851730e49662a35f87983bbb977"), looks := false }, kinds := [], alts := [], laidByText := true, laidKinds := [.listed, .data], laidTests := true, laidLooks := .later }
def FnExactIsValidCodeUptoCardSaid : Prop := Claim7.holds Tryd.pinned (.plain (OpenSpec.upto fnExactIsValidCodeSpec)) fnExactIsValidCodeUptoCard
end Rows
end Go.Proofs.YtopaeiogbijppaaDoor
