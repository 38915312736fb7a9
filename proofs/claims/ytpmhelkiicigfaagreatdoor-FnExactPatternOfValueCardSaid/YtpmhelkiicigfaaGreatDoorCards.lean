/-
  DERIVED. GIVEN WITH THE SEED: THE CARDS: each row of YtpmhelkiicigfaaGreatDoorRows.lean that lists a variable, with what it lists TIED to the program's text (the seventh form; the later family's looks); each row that meets fmt, with fmt's text TOLD by the authors' own Lean function (tested against real Go, not proved from fmt's source: count such statements apart). THE CARD IS WHAT COUNTS. Prove the row's statement (the work); the ties are given (YtpmhelkiicigfaaGreatDoorTie.lean); close each card by the builder's one call (the guide's Derived/Test/ToyasCard.lean, 'card_holds'). Laid BY PROGRAM, IN A SANDBOX (cutbox-door.mjs). By AI agents, Wed Nov 11 2026. No macro, syntax, notation, axiom, sorry.
-/
import Derived.Test.YtpmhelkiicigfaaGreatDoorRows
import GoSem.ClaimSeven
namespace Go.Proofs.YtpmhelkiicigfaaGreatDoor
namespace Rows

/-- THE TIED CARD OF 'laws.FnElements'. -/
def fnElementsCard : Claim7 := { stood := { row := fnElementsRow, standIns := [], harness := (true, "1d7074f8927ab58d0a5ec2bae6a794f7413ce1b3ef3dd8d26c2faf8920054893"), looks := false }, kinds := [], alts := [], laidByText := true, laidKinds := [.data, .data, .data, .listed, .data], laidTests := true, laidLooks := .later }
def FnElementsCardSaid : Prop := Claim7.holds Tryz.pinned (.plain (OpenSpec.ofChange fnElementsSpec)) fnElementsCard

/-- THE TIED CARD OF 'laws.FnExactPatternOfValue'. -/
def fnExactPatternOfValueCard : Claim7 := { stood := { row := fnExactPatternOfValueRow, standIns := [], harness := (true, "1d7074f8927ab58d0a5ec2bae6a794f7413ce1b3ef3dd8d26c2faf8920054893"), looks := false }, kinds := [], alts := [], laidByText := true, laidKinds := [.data, .data, .data, .listed, .data], laidTests := true, laidLooks := .later }
def FnExactPatternOfValueCardSaid : Prop := Claim7.holds Tryz.pinned (.plain (OpenSpec.ofChange fnExactPatternOfValueSpec)) fnExactPatternOfValueCard

/-- THE TIED CARD OF 'laws.FnExactIndexValue'. -/
def fnExactIndexValueCard : Claim7 := { stood := { row := fnExactIndexValueRow, standIns := [], harness := (true, "1d7074f8927ab58d0a5ec2bae6a794f7413ce1b3ef3dd8d26c2faf8920054893"), looks := false }, kinds := [], alts := [], laidByText := true, laidKinds := [.data, .data, .data, .listed, .data], laidTests := true, laidLooks := .later }
def FnExactIndexValueCardSaid : Prop := Claim7.holds Tryz.pinned (.plain (OpenSpec.ofChange fnExactIndexValueSpec)) fnExactIndexValueCard

/-- THE TIED CARD OF 'laws.FnExactElementOfValue'. -/
def fnExactElementOfValueCard : Claim7 := { stood := { row := fnExactElementOfValueRow, standIns := [], harness := (true, "1d7074f8927ab58d0a5ec2bae6a794f7413ce1b3ef3dd8d26c2faf8920054893"), looks := false }, kinds := [], alts := [], laidByText := true, laidKinds := [.data, .data, .data, .listed, .data], laidTests := true, laidLooks := .later }
def FnExactElementOfValueCardSaid : Prop := Claim7.holds Tryz.pinned (.plain (OpenSpec.ofChange fnExactElementOfValueSpec)) fnExactElementOfValueCard

/-- THE SECOND FORM's CARD OF 'laws.FnElements'. -/
def fnElementsUptoCard : Claim7 := { stood := { row := fnElementsUptoRow, standIns := [], harness := (true, "1d7074f8927ab58d0a5ec2bae6a794f7413ce1b3ef3dd8d26c2faf8920054893"), looks := false }, kinds := [], alts := [], laidByText := true, laidKinds := [.data, .data, .data, .listed, .data], laidTests := true, laidLooks := .later }
def FnElementsUptoCardSaid : Prop := Claim7.holds Tryz.pinned (.plain (OpenSpec.upto fnElementsSpec)) fnElementsUptoCard

/-- THE SECOND FORM's CARD OF 'laws.FnExactPatternOfValue'. -/
def fnExactPatternOfValueUptoCard : Claim7 := { stood := { row := fnExactPatternOfValueUptoRow, standIns := [], harness := (true, "1d7074f8927ab58d0a5ec2bae6a794f7413ce1b3ef3dd8d26c2faf8920054893"), looks := false }, kinds := [], alts := [], laidByText := true, laidKinds := [.data, .data, .data, .listed, .data], laidTests := true, laidLooks := .later }
def FnExactPatternOfValueUptoCardSaid : Prop := Claim7.holds Tryz.pinned (.plain (OpenSpec.upto fnExactPatternOfValueSpec)) fnExactPatternOfValueUptoCard

/-- THE SECOND FORM's CARD OF 'laws.FnExactIndexValue'. -/
def fnExactIndexValueUptoCard : Claim7 := { stood := { row := fnExactIndexValueUptoRow, standIns := [], harness := (true, "1d7074f8927ab58d0a5ec2bae6a794f7413ce1b3ef3dd8d26c2faf8920054893"), looks := false }, kinds := [], alts := [], laidByText := true, laidKinds := [.data, .data, .data, .listed, .data], laidTests := true, laidLooks := .later }
def FnExactIndexValueUptoCardSaid : Prop := Claim7.holds Tryz.pinned (.plain (OpenSpec.upto fnExactIndexValueSpec)) fnExactIndexValueUptoCard

/-- THE SECOND FORM's CARD OF 'laws.FnExactElementOfValue'. -/
def fnExactElementOfValueUptoCard : Claim7 := { stood := { row := fnExactElementOfValueUptoRow, standIns := [], harness := (true, "1d7074f8927ab58d0a5ec2bae6a794f7413ce1b3ef3dd8d26c2faf8920054893"), looks := false }, kinds := [], alts := [], laidByText := true, laidKinds := [.data, .data, .data, .listed, .data], laidTests := true, laidLooks := .later }
def FnExactElementOfValueUptoCardSaid : Prop := Claim7.holds Tryz.pinned (.plain (OpenSpec.upto fnExactElementOfValueSpec)) fnExactElementOfValueUptoCard
end Rows
end Go.Proofs.YtpmhelkiicigfaaGreatDoor
