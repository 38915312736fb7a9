/- The walk of a drawn region under a fact S of the worlds, where either of two operations may come next. -/
import Derived.Test.YtopaeiogbijppaaDoorRegion3
namespace Go.Proofs.YtopaeiogbijppaaDoor
open Go.RowKit

section
variable {P : Program} {ops : Array Oper} {Q : Exit → Act → World → Prop} {S : World → Prop}
theorem wpV_now {i : Nat} {L U : List Nat} {o : Oper} {fuel : Nat} {listed : Array Bool} {a : Act} {w : World} (hu : U.contains i = false) (ho : ops[i]? = some o)
    (h : wpList P ops (StepV Q S (fun a' w' => wpV P ops Q L U S fuel (listed.setIfInBounds i true) a' w')) [o] a w) :
    wpOp P ops Q i (fun a' w' => ((tlOf L U i = false → S w') ∧ (puOf U i = true → w' = w)) ∧ wpAnyU P .any ops Q (tlOf L U) (puOf U) S fuel (listed.setIfInBounds i true) a' w') a w := by
  unfold wpList at h
  unfold wpOp
  rw [ho]
  have hK : ∀ a' w', wpList P ops (StepV Q S (fun a' w' => wpV P ops Q L U S fuel (listed.setIfInBounds i true) a' w')) [] a' w' →
      (((tlOf L U i = false → S w') ∧ (puOf U i = true → w' = w)) ∧ wpAnyU P .any ops Q (tlOf L U) (puOf U) S fuel (listed.setIfInBounds i true) a' w') := fun a' w' h' =>
    ⟨⟨fun _ => h'.1, fun h0 => (by unfold puOf at h0; rw [hu] at h0; cases h0)⟩, h'.2⟩
  have hup : o.wp P a w (wpList P ops (StepV Q S (fun a' w' => wpV P ops Q L U S fuel (listed.setIfInBounds i true) a' w')) []) (StepV Q S (fun a' w' => wpV P ops Q L U S fuel (listed.setIfInBounds i true) a' w')) →
      o.wp P a w (wpList P ops (StepV Q S (fun a' w' => wpV P ops Q L U S fuel (listed.setIfInBounds i true) a' w')) []) Q := fun h' => by
    unfold Oper.wp at *
    generalize (execOp a.eval o).run P w = r at *
    cases r with
    | ok n w' => cases n <;> exact h'
    | halt x w' => cases x <;> exact h'
  show if Region.wanted o (yielded ops a.tmps) = true then _ else _
  split
  · rename_i hw
    rw [if_pos hw] at h
    rcases h with h | ⟨h1, h2⟩
    · exact .inl (Oper.wp_mono hK (hup h))
    · exact .inr ⟨h1, h2⟩
  · rename_i hw
    rw [if_neg hw] at h
    exact hK _ _ h
/-- Either of two comes next. -/
theorem wpV_two (i j : Nat) {L U : List Nat} {oi oj : Oper} {fuel : Nat} {listed : Array Bool} {a : Act} {w : World} (hr : Region.ready .any ops listed = [i, j]) (hui : U.contains i = false) (huj : U.contains j = false) (hoi : ops[i]? = some oi) (hoj : ops[j]? = some oj)
    (h1 : wpList P ops (StepV Q S (fun a' w' => wpV P ops Q L U S fuel (listed.setIfInBounds i true) a' w')) [oi] a w)
    (h2 : wpList P ops (StepV Q S (fun a' w' => wpV P ops Q L U S fuel (listed.setIfInBounds j true) a' w')) [oj] a w) : wpV P ops Q L U S (fuel + 1) listed a w := by
  refine ⟨fun h0 => (by rw [hr] at h0; cases h0), fun k hk => ?_⟩
  rw [hr] at hk
  simp only [List.mem_cons, List.not_mem_nil, or_false] at hk
  rcases hk with rfl | rfl
  · exact wpV_now hui hoi h1
  · exact wpV_now huj hoj h2
end
end Go.Proofs.YtopaeiogbijppaaDoor
