/-
  NARROWER THAN 'FOR EVERY INPUT', by the rows' own cells (each row's printed sentence says how): FnExactMatchPattern: loops · FnExactSearchPattern: loops · FnExactPrunedSearch: loops.
  DERIVED. THE GIVEN ROWS OF THIS SEAT. 6 by the template 'for every input the law returns true; each argument reads behind the call as it read before'; 0 by the template 'total and deterministic' (their statements: YtndefbecoahfhaaTotals.lean).
  GIVEN WITH THE SEED: the statements are not yours to turn. If you find one false, say at which input.
  Laid BY PROGRAM, IN A SANDBOX (cutbox-rows.mjs): the forced cells as the released guide's own fill.sh prints them over the translation 635ca4a17b927b4b… (all of the seat's roots in one cut). By AI agents, Wed Nov 11 2026. No macro, syntax, notation, axiom, sorry.
-/
import Derived.Test.YtndefbecoahfhaaChecked
import GoSem.Claim
import GoSem.ClaimJoined
import GoSem.ClaimMapViews
import Derived.JoinedTies
import Derived.KernelRfl
namespace Go.Proofs.Ytndefbecoahfhaa
/- THE CELL 'sum', in the pinned program and in every row, IS THE sha256 OF THE DUMP (.gsa) THAT YtndefbecoahfhaaProg.lean LOADS. Nothing in Lean hashes anything: it is a label: what it is worth is what the hold of that sum in a sandbox is worth. -/
noncomputable def Try.pinned : Pinned := { name := "ytndefbecoahfhaa", sum := "635ca4a17b927b4b266d1e5eff82143f8b1ec796a78bf0d73471c71743b23fb3", checked := Try.checked }
namespace Rows
def none {H : Type} : Left H := { results := [], args := [] }

/-- 'laws.FnFuel': WHATEVER THE INPUT: true; the input reads as it did. -/
def fnFuelSpec : ChangeSpec := { name := "fnFuel", fn := fun _ => fun
  | [d] => { results := [.lit (.bool true)], args := [d] }
  | _ => none }
def fnFuelRow : OpenClaim := { program := "ytndefbecoahfhaa", sum := "635ca4a17b927b4b266d1e5eff82143f8b1ec796a78bf0d73471c71743b23fb3", func := "loop.example/g03106/laws.FnFuel", spec := "fnFuel", recurses := true, apart := false }
def FnFuelSaid : Prop := fnFuelRow.holds Try.pinned (OpenSpec.ofChange fnFuelSpec)

/-- ITS FALSE NEIGHBOUR: 'it returns false'. Refute it at one input. -/
def fnFuelWrong : ChangeSpec := { name := "fnFuel", fn := fun _ => fun
  | [d] => { results := [.lit (.bool false)], args := [d] }
  | _ => none }
def FnFuelWrongFalsely : Prop := fnFuelRow.holds Try.pinned (OpenSpec.ofChange fnFuelWrong)

/-- 'laws.FnExactMatchPattern': WHATEVER THE INPUT: true; the input reads as it did. -/
def fnExactMatchPatternSpec : ChangeSpec := { name := "fnExactMatchPattern", fn := fun _ => fun
  | [d1, d2, d3, d4, d5] => { results := [.lit (.bool true)], args := [d1, d2, d3, d4, d5] }
  | _ => none }
def fnExactMatchPatternRow : OpenClaim := { program := "ytndefbecoahfhaa", sum := "635ca4a17b927b4b266d1e5eff82143f8b1ec796a78bf0d73471c71743b23fb3", func := "loop.example/g03106/laws.FnExactMatchPattern", spec := "fnExactMatchPattern", recurses := true, loops := true, apart := false }
def FnExactMatchPatternSaid : Prop := fnExactMatchPatternRow.holds Try.pinned (OpenSpec.ofChange fnExactMatchPatternSpec)

/-- ITS FALSE NEIGHBOUR: 'it returns false'. Refute it at one input. -/
def fnExactMatchPatternWrong : ChangeSpec := { name := "fnExactMatchPattern", fn := fun _ => fun
  | [d1, d2, d3, d4, d5] => { results := [.lit (.bool false)], args := [d1, d2, d3, d4, d5] }
  | _ => none }
def FnExactMatchPatternWrongFalsely : Prop := fnExactMatchPatternRow.holds Try.pinned (OpenSpec.ofChange fnExactMatchPatternWrong)

/-- 'laws.FnExactSearchPattern': WHATEVER THE INPUT: true; the input reads as it did. -/
def fnExactSearchPatternSpec : ChangeSpec := { name := "fnExactSearchPattern", fn := fun _ => fun
  | [d1, d2, d3, d4] => { results := [.lit (.bool true)], args := [d1, d2, d3, d4] }
  | _ => none }
def fnExactSearchPatternRow : OpenClaim := { program := "ytndefbecoahfhaa", sum := "635ca4a17b927b4b266d1e5eff82143f8b1ec796a78bf0d73471c71743b23fb3", func := "loop.example/g03106/laws.FnExactSearchPattern", spec := "fnExactSearchPattern", unfollowed := true, recurses := true, loops := true, apart := false }
def FnExactSearchPatternSaid : Prop := fnExactSearchPatternRow.holds Try.pinned (OpenSpec.ofChange fnExactSearchPatternSpec)

/-- ITS FALSE NEIGHBOUR: 'it returns false'. Refute it at one input. -/
def fnExactSearchPatternWrong : ChangeSpec := { name := "fnExactSearchPattern", fn := fun _ => fun
  | [d1, d2, d3, d4] => { results := [.lit (.bool false)], args := [d1, d2, d3, d4] }
  | _ => none }
def FnExactSearchPatternWrongFalsely : Prop := fnExactSearchPatternRow.holds Try.pinned (OpenSpec.ofChange fnExactSearchPatternWrong)

/-- 'laws.FnPrunedMatches': WHATEVER THE INPUT: true; the input reads as it did. -/
def fnPrunedMatchesSpec : ChangeSpec := { name := "fnPrunedMatches", fn := fun _ => fun
  | [d] => { results := [.lit (.bool true)], args := [d] }
  | _ => none }
def fnPrunedMatchesRow : OpenClaim := { program := "ytndefbecoahfhaa", sum := "635ca4a17b927b4b266d1e5eff82143f8b1ec796a78bf0d73471c71743b23fb3", func := "loop.example/g03106/laws.FnPrunedMatches", spec := "fnPrunedMatches", unfollowed := true, recurses := true, apart := false }
def FnPrunedMatchesSaid : Prop := fnPrunedMatchesRow.holds Try.pinned (OpenSpec.ofChange fnPrunedMatchesSpec)

/-- ITS FALSE NEIGHBOUR: 'it returns false'. Refute it at one input. -/
def fnPrunedMatchesWrong : ChangeSpec := { name := "fnPrunedMatches", fn := fun _ => fun
  | [d] => { results := [.lit (.bool false)], args := [d] }
  | _ => none }
def FnPrunedMatchesWrongFalsely : Prop := fnPrunedMatchesRow.holds Try.pinned (OpenSpec.ofChange fnPrunedMatchesWrong)

/-- 'laws.FnPatternFirst': WHATEVER THE INPUT: true; the input reads as it did. -/
def fnPatternFirstSpec : ChangeSpec := { name := "fnPatternFirst", fn := fun _ => fun
  | [d] => { results := [.lit (.bool true)], args := [d] }
  | _ => none }
def fnPatternFirstRow : OpenClaim := { program := "ytndefbecoahfhaa", sum := "635ca4a17b927b4b266d1e5eff82143f8b1ec796a78bf0d73471c71743b23fb3", func := "loop.example/g03106/laws.FnPatternFirst", spec := "fnPatternFirst", recurses := true, apart := false }
def FnPatternFirstSaid : Prop := fnPatternFirstRow.holds Try.pinned (OpenSpec.ofChange fnPatternFirstSpec)

/-- ITS FALSE NEIGHBOUR: 'it returns false'. Refute it at one input. -/
def fnPatternFirstWrong : ChangeSpec := { name := "fnPatternFirst", fn := fun _ => fun
  | [d] => { results := [.lit (.bool false)], args := [d] }
  | _ => none }
def FnPatternFirstWrongFalsely : Prop := fnPatternFirstRow.holds Try.pinned (OpenSpec.ofChange fnPatternFirstWrong)

/-- 'laws.FnExactPrunedSearch': WHATEVER THE INPUT: true; the input reads as it did. -/
def fnExactPrunedSearchSpec : ChangeSpec := { name := "fnExactPrunedSearch", fn := fun _ => fun
  | [d1, d2, d3, d4] => { results := [.lit (.bool true)], args := [d1, d2, d3, d4] }
  | _ => none }
def fnExactPrunedSearchRow : OpenClaim := { program := "ytndefbecoahfhaa", sum := "635ca4a17b927b4b266d1e5eff82143f8b1ec796a78bf0d73471c71743b23fb3", func := "loop.example/g03106/laws.FnExactPrunedSearch", spec := "fnExactPrunedSearch", unfollowed := true, recurses := true, loops := true, apart := false }
def FnExactPrunedSearchSaid : Prop := fnExactPrunedSearchRow.holds Try.pinned (OpenSpec.ofChange fnExactPrunedSearchSpec)

/-- ITS FALSE NEIGHBOUR: 'it returns false'. Refute it at one input. -/
def fnExactPrunedSearchWrong : ChangeSpec := { name := "fnExactPrunedSearch", fn := fun _ => fun
  | [d1, d2, d3, d4] => { results := [.lit (.bool false)], args := [d1, d2, d3, d4] }
  | _ => none }
def FnExactPrunedSearchWrongFalsely : Prop := fnExactPrunedSearchRow.holds Try.pinned (OpenSpec.ofChange fnExactPrunedSearchWrong)

/- THE SECOND FORM. 'bulk': how many values and letters a reading holds, each counted each time it is reached (what is shared counts as often as it is met; a slice's spare places count too). A statement '..UptoSaid' is the law's where the arguments, and the package variables that the reading takes, are together of bulk at most 1048576: NARROWER than '..Said'. Prove '..Said' where nothing that the law and all that it calls make is longer than what came in: it says more and counts as full. Else prove '..UptoSaid'. A law counts once. -/
mutual
def uptoBulk {H : Type} : DataW H → Nat
  | .lit (.string bytes) => bytes.length + 1
  | .lit _ => 1
  | .nil => 1
  | .ptr d => uptoBulk d + 1
  | .slice elems spare => uptoBulkAll elems + uptoBulkAll spare + 1
  | .agg parts => uptoBulkAll parts + 1
  | .iface _ d => uptoBulk d + 1
  | .map entries => uptoBulkEntries entries + 1
  | .held _ => 1
def uptoBulkAll {H : Type} : List (DataW H) → Nat
  | [] => 0
  | d :: r => uptoBulk d + uptoBulkAll r
def uptoBulkEntries {H : Type} : List (Lit × DataW H) → Nat
  | [] => 0
  | x :: r => uptoBulkEntry x + uptoBulkEntries r
def uptoBulkEntry {H : Type} : Lit × DataW H → Nat
  | (.string bytes, d) => bytes.length + uptoBulk d + 1
  | (_, d) => uptoBulk d + 1
 end
def uptoSmall : (H : Type) → List (DataW H) → Bool := fun _ ds => decide (uptoBulkAll ds ≤ 1048576)
def OpenSpec.upto (s : _root_.Go.ChangeSpec) : _root_.Go.OpenSpec := { _root_.Go.OpenSpec.ofChange s with cond := some uptoSmall }

/-- 'laws.FnFuel', WHERE WHAT IT READS IS OF BULK AT MOST 1048576: true; the input reads as it did. -/
def fnFuelUptoRow : OpenClaim := { program := "ytndefbecoahfhaa", sum := "635ca4a17b927b4b266d1e5eff82143f8b1ec796a78bf0d73471c71743b23fb3", func := "loop.example/g03106/laws.FnFuel", spec := "fnFuel", recurses := true, apart := false, narrowed := true }
def FnFuelUptoSaid : Prop := fnFuelUptoRow.holds Try.pinned (OpenSpec.upto fnFuelSpec)

/-- 'laws.FnExactMatchPattern', WHERE WHAT IT READS IS OF BULK AT MOST 1048576: true; the input reads as it did. -/
def fnExactMatchPatternUptoRow : OpenClaim := { program := "ytndefbecoahfhaa", sum := "635ca4a17b927b4b266d1e5eff82143f8b1ec796a78bf0d73471c71743b23fb3", func := "loop.example/g03106/laws.FnExactMatchPattern", spec := "fnExactMatchPattern", recurses := true, loops := true, apart := false, narrowed := true }
def FnExactMatchPatternUptoSaid : Prop := fnExactMatchPatternUptoRow.holds Try.pinned (OpenSpec.upto fnExactMatchPatternSpec)

/-- 'laws.FnExactSearchPattern', WHERE WHAT IT READS IS OF BULK AT MOST 1048576: true; the input reads as it did. -/
def fnExactSearchPatternUptoRow : OpenClaim := { program := "ytndefbecoahfhaa", sum := "635ca4a17b927b4b266d1e5eff82143f8b1ec796a78bf0d73471c71743b23fb3", func := "loop.example/g03106/laws.FnExactSearchPattern", spec := "fnExactSearchPattern", unfollowed := true, recurses := true, loops := true, apart := false, narrowed := true }
def FnExactSearchPatternUptoSaid : Prop := fnExactSearchPatternUptoRow.holds Try.pinned (OpenSpec.upto fnExactSearchPatternSpec)

/-- 'laws.FnPrunedMatches', WHERE WHAT IT READS IS OF BULK AT MOST 1048576: true; the input reads as it did. -/
def fnPrunedMatchesUptoRow : OpenClaim := { program := "ytndefbecoahfhaa", sum := "635ca4a17b927b4b266d1e5eff82143f8b1ec796a78bf0d73471c71743b23fb3", func := "loop.example/g03106/laws.FnPrunedMatches", spec := "fnPrunedMatches", unfollowed := true, recurses := true, apart := false, narrowed := true }
def FnPrunedMatchesUptoSaid : Prop := fnPrunedMatchesUptoRow.holds Try.pinned (OpenSpec.upto fnPrunedMatchesSpec)

/-- 'laws.FnPatternFirst', WHERE WHAT IT READS IS OF BULK AT MOST 1048576: true; the input reads as it did. -/
def fnPatternFirstUptoRow : OpenClaim := { program := "ytndefbecoahfhaa", sum := "635ca4a17b927b4b266d1e5eff82143f8b1ec796a78bf0d73471c71743b23fb3", func := "loop.example/g03106/laws.FnPatternFirst", spec := "fnPatternFirst", recurses := true, apart := false, narrowed := true }
def FnPatternFirstUptoSaid : Prop := fnPatternFirstUptoRow.holds Try.pinned (OpenSpec.upto fnPatternFirstSpec)

/-- 'laws.FnExactPrunedSearch', WHERE WHAT IT READS IS OF BULK AT MOST 1048576: true; the input reads as it did. -/
def fnExactPrunedSearchUptoRow : OpenClaim := { program := "ytndefbecoahfhaa", sum := "635ca4a17b927b4b266d1e5eff82143f8b1ec796a78bf0d73471c71743b23fb3", func := "loop.example/g03106/laws.FnExactPrunedSearch", spec := "fnExactPrunedSearch", unfollowed := true, recurses := true, loops := true, apart := false, narrowed := true }
def FnExactPrunedSearchUptoSaid : Prop := fnExactPrunedSearchUptoRow.holds Try.pinned (OpenSpec.upto fnExactPrunedSearchSpec)

end Rows
end Go.Proofs.Ytndefbecoahfhaa
