/- The walk of a drawn region in one order, where what stays is a fact S of the worlds (not 'only new blocks'). -/
import Derived.Test.YtopaeiogbijppaaDoorRegion2
namespace Go.Proofs.YtopaeiogbijppaaDoor
open Go.RowKit

section
variable {P : Program} {ops : Array Oper} {Q : Exit → Act → World → Prop} {S : World → Prop}

/-- The state of the walk: S holds here and behind each operation that is not among the last ones. -/
def wpV (P : Program) (ops : Array Oper) (Q : Exit → Act → World → Prop) (L U : List Nat) (S : World → Prop) (fuel : Nat) (listed : Array Bool) (a : Act) (w : World) : Prop :=
  wpAnyU P .any ops Q (tlOf L U) (puOf U) S fuel listed a w

theorem wpV_begin (L U : List Nat) (S : World → Prop) {id : Nat} {a : Act} {w : World} (hm : P.follows .mixedOrders = true)
    (h : ∀ w1, w1 = w.drew → wpV P ops Q L U S ops.size (Array.replicate ops.size false) a w1) : (Code.region id ops true).wp P Q a w :=
  wp_region_any hm (wpAny_of_U _ _ _ _ (h w.drew rfl))

theorem wpV_take (i : Nat) (d : Option Tmp) {L U : List Nat} {oi : Oper} {v : Value} {fuel : Nat} {listed : Array Bool} {a : Act} {w : World} (hi : ops[i]? = some oi) (hd : oi.dst = d)
    (hB : takeU ops L listed i = true)
    (hQ : ∀ c a w, Q (.panic c) (a.put d v) w → Q (.panic c) a w)
    (hw : Region.wanted oi (yielded ops a.tmps) = true) (hS : S w) (hy : ∀ x, S x → (execOp a.eval oi).run P x = .ok (.value v) x)
    (h : wpV P ops Q L U S fuel (listed.setIfInBounds i true) (a.put d v) w) : wpV P ops Q L U S (fuel + 1) listed a w := by
  subst hd
  simp only [takeU, Bool.and_eq_true] at hB
  obtain ⟨⟨⟨⟨hs, hf⟩, hr⟩, hc⟩, ht⟩ := hB
  refine wpAnyU_first hi (Region.noSelect_spec hs) hQ (fun j _ htj => ?_) fuel listed a w (Region.free_spec hi hf) (closed_of hc) (by simpa using hr) (.inl ⟨hw, hy⟩) hS h
  simp only [tlOf, Bool.or_eq_true] at htj
  rcases htj with h1 | h1
  · exact .inr (List.all_eq_true.1 ht j (by simpa using h1))
  · exact .inl h1

theorem wpV_pure (i : Nat) (d : Option Tmp) {L U : List Nat} {oi : Oper} {v : Value} {fuel : Nat} {listed : Array Bool} {a : Act} {w : World} (hi : ops[i]? = some oi) (hd : oi.dst = d)
    (hB : pureU ops U listed i = true)
    (hQ : ∀ c a w, Q (.panic c) (a.put d v) w → Q (.panic c) a w)
    (hw : Region.wanted oi (yielded ops a.tmps) = true) (hy : ∀ x, (execOp a.eval oi).run P x = .ok (.value v) x)
    (h : wpV P ops Q L U S fuel (listed.setIfInBounds i true) (a.put d v) w) : wpV P ops Q L U S (fuel + 1) listed a w := by
  subst hd
  simp only [pureU, Bool.and_eq_true] at hB
  obtain ⟨⟨⟨hs, hf⟩, hr⟩, hu⟩ := hB
  exact wpAnyU_pure hi (Region.noSelect_spec hs) hQ (by simp only [tlOf, Bool.or_eq_true]; exact .inr hu) fuel listed a w (Region.free_spec hi hf) (by simpa using hr) (.inl ⟨hw, fun x _ => hy x⟩) h

/-- The post of one operation that comes up alone. -/
def StepV (Q : Exit → Act → World → Prop) (S : World → Prop) (K : Act → World → Prop) : Exit → Act → World → Prop
  | .normal, a', w' => S w' ∧ K a' w'
  | e, a', w' => Q e a' w'

theorem wpV_step (i : Nat) {L U : List Nat} {o : Oper} {fuel : Nat} {listed : Array Bool} {a : Act} {w : World} (hr : Region.ready .any ops listed = [i]) (hu : U.contains i = false) (ho : ops[i]? = some o)
    (h : wpList P ops (StepV Q S (fun a' w' => wpV P ops Q L U S fuel (listed.setIfInBounds i true) a' w')) [o] a w) : wpV P ops Q L U S (fuel + 1) listed a w := by
  refine ⟨fun h0 => (by rw [hr] at h0; cases h0), fun j hj => ?_⟩
  rw [hr] at hj
  obtain rfl : j = i := by simpa using hj
  unfold wpList at h
  unfold wpOp
  rw [ho]
  have hK : ∀ a' w', wpList P ops (StepV Q S (fun a' w' => wpV P ops Q L U S fuel (listed.setIfInBounds j true) a' w')) [] a' w' →
      (((tlOf L U j = false → S w') ∧ (puOf U j = true → w' = w)) ∧ wpAnyU P .any ops Q (tlOf L U) (puOf U) S fuel (listed.setIfInBounds j true) a' w') := fun a' w' h' =>
    ⟨⟨fun _ => h'.1, fun h0 => (by unfold puOf at h0; rw [hu] at h0; cases h0)⟩, h'.2⟩
  have hup : o.wp P a w (wpList P ops (StepV Q S (fun a' w' => wpV P ops Q L U S fuel (listed.setIfInBounds j true) a' w')) []) (StepV Q S (fun a' w' => wpV P ops Q L U S fuel (listed.setIfInBounds j true) a' w')) →
      o.wp P a w (wpList P ops (StepV Q S (fun a' w' => wpV P ops Q L U S fuel (listed.setIfInBounds j true) a' w')) []) Q := fun h' => by
    unfold Oper.wp at *
    generalize (execOp a.eval o).run P w = r at *
    cases r with
    | ok n w' => cases n <;> exact h'
    | halt x w' => cases x <;> exact h'
  show if Region.wanted o (yielded ops a.tmps) = true then _ else _
  split
  · rename_i hw
    rw [if_pos hw] at h
    rcases h with h | ⟨h1, h2⟩
    · exact .inl (Oper.wp_mono hK (hup h))
    · exact .inr ⟨h1, h2⟩
  · rename_i hw
    rw [if_neg hw] at h
    exact hK _ _ h

theorem wpV_last {L U : List Nat} (os : List Oper) {n : Nat} {listed : Array Bool} {a : Act} {w : World} (hB : lastB ops L U listed = true) (hn : L.length = n) (hos : L.map (ops[·]?) = os.map some)
    (h : wpList P ops Q os a w) : wpV P ops Q L U S n listed a w := by
  subst hn
  simp only [lastB, Bool.and_eq_true] at hB
  exact wpU_chain L L os listed a w hB.1 (fun i hi => ⟨by simpa using hi, by simpa using List.all_eq_true.1 hB.2 i hi⟩) hos h
end
end Go.Proofs.YtopaeiogbijppaaDoor
