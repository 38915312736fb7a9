/- OWN THEOREM: a guarded operation that is not wanted, in a drawn region walked in one order. -/
import Derived.Test.YtopaeiogbijppaaDoorRegion2
namespace Go.Proofs.YtopaeiogbijppaaDoor
open Go.RowKit
variable {P : Program} {ops : Array Oper} {Q : Exit → Act → World → Prop}
/-- Operation i is passed over. -/
theorem wpU_skip (i : Nat) (d : Option Tmp) {L U : List Nat} {oi : Oper} {fuel : Nat} {listed : Array Bool} {a : Act} {w : World} (hi : ops[i]? = some oi) (hd : oi.dst = d)
    (hB : takeU ops L listed i = true)
    (hQ : ∀ c a w, Q (.panic c) (a.put d undef) w → Q (.panic c) a w)
    (hw : Region.wanted oi (yielded ops a.tmps) = false)
    (h : wpU P ops Q L U fuel (listed.setIfInBounds i true) (a.put d undef) w) : wpU P ops Q L U (fuel + 1) listed a w := by
  subst hd
  simp only [takeU, Bool.and_eq_true] at hB
  obtain ⟨⟨⟨⟨hs, hf⟩, hr⟩, hc⟩, ht⟩ := hB
  refine wpAnyU_first hi (Region.noSelect_spec hs) hQ (fun j _ htj => ?_) fuel listed a w (Region.free_spec hi hf) (closed_of hc) (by simpa using hr) (.inr ⟨hw, rfl⟩) (Later.refl w) h
  simp only [tlOf, Bool.or_eq_true] at htj
  rcases htj with h1 | h1
  · exact .inr (List.all_eq_true.1 ht j (by simpa using h1))
  · exact .inl h1
end Go.Proofs.YtopaeiogbijppaaDoor
