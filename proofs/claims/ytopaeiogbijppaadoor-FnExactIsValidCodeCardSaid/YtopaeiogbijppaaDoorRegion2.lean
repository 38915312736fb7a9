/- The walk of a drawn region in one order, more: operations that read no memory may be left unordered with the last ones; the last ones are any list. -/
import Derived.Test.YtopaeiogbijppaaDoorRegion
namespace Go.Proofs.YtopaeiogbijppaaDoor
open Go.RowKit

section
variable {P : Program} {ops : Array Oper} {Q : Exit → Act → World → Prop} {md : Region.Mode} {tl pu : Nat → Bool} {S S' : World → Prop}

/-- Whatever order is picked from here on; behind every operation that is not among the last ones S holds; a pure one leaves the world. -/
def wpAnyU (P : Program) (md : Region.Mode) (ops : Array Oper) (Q : Exit → Act → World → Prop) (tl pu : Nat → Bool) (S : World → Prop) : Nat → Array Bool → Act → World → Prop
  | 0, listed, a, w => Region.ready md ops listed = [] ∧ Q .normal a w
  | fuel + 1, listed, a, w =>
    (Region.ready md ops listed = [] → Q .normal a w) ∧
    ∀ i ∈ Region.ready md ops listed, wpOp P ops Q i (fun a' w' => ((tl i = false → S w') ∧ (pu i = true → w' = w)) ∧ wpAnyU P md ops Q tl pu S fuel (listed.setIfInBounds i true) a' w') a w

theorem wpAny_of_U : ∀ (fuel : Nat) (listed : Array Bool) (a : Act) (w : World), wpAnyU P md ops Q tl pu S fuel listed a w → wpAny P md ops Q fuel listed a w
  | 0, _, _, _, h => h
  | fuel + 1, _, _, _, h => ⟨h.1, fun i hi => wpOp_mono (fun a' w' h' => wpAny_of_U fuel _ a' w' h'.2) (h.2 i hi)⟩

theorem wpAnyU_mono (hs : ∀ w, S' w → S w) : ∀ (fuel : Nat) (listed : Array Bool) (a : Act) (w : World), wpAnyU P md ops Q tl pu S' fuel listed a w → wpAnyU P md ops Q tl pu S fuel listed a w
  | 0, _, _, _, h => h
  | fuel + 1, _, _, _, h => ⟨h.1, fun i hi => wpOp_mono (fun a' w' h' => ⟨⟨fun ht => hs _ (h'.1.1 ht), h'.1.2⟩, wpAnyU_mono hs fuel _ a' w' h'.2⟩) (h.2 i hi)⟩

theorem wpAnyU_first {i : Nat} {oi : Oper} {v : Value} (hi : ops[i]? = some oi) (hsel : ∀ (j : Nat) (o : Oper) cs b, ops[j]? = some o → o.op ≠ .select cs b)
    (hQ : ∀ c a w, Q (.panic c) (a.put oi.dst v) w → Q (.panic c) a w) (htl : ∀ j, j < ops.size → tl j = true → pu j = true ∨ reach md ops ops.size j i = true) :
    ∀ (fuel : Nat) (listed : Array Bool) (a : Act) (w : World),
      (∀ j oj, ops[j]? = some oj → j ≠ i → listed.getD j true = false → (∀ e ∈ oj.after, Region.binds md e = true → e.on ≠ i) → oi.apart ops oj = true) → closed md ops listed →
      i ∈ Region.ready md ops listed → YieldsIf P ops S oi v a → S w →
      wpAnyU P md ops Q tl pu S fuel (listed.setIfInBounds i true) (a.put oi.dst v) w → wpAnyU P md ops Q tl pu S (fuel + 1) listed a w := by
  intro fuel
  induction fuel with
  | zero =>
    intro listed a w _ _ hr hy hS H
    refine ⟨fun h => (by rw [h] at hr; cases hr), fun j hj => ?_⟩
    by_cases hji : j = i
    · subst hji; exact hy.wpOp hi hS ⟨⟨fun _ => hS, fun _ => rfl⟩, H⟩
    · have := ready_mono hj hji
      rw [H.1] at this
      cases this
  | succ fuel ih =>
    intro listed a w hfree hcl hr hy hS H
    refine ⟨fun h => (by rw [h] at hr; cases hr), fun j hj => ?_⟩
    by_cases hji : j = i
    · subst hji; exact hy.wpOp hi hS ⟨⟨fun _ => hS, fun _ => rfl⟩, H⟩
    · have h1 := H.2 j (ready_mono hj hji)
      obtain ⟨hjun, oj, hoj, hall⟩ := mem_ready.1 hj
      have hiun : listed.getD i false = true → False := fun h1 => by
        have h0 := (mem_ready.1 hr).1
        rcases Nat.lt_or_ge i listed.size with h' | h'
        · simp [h'] at h0 h1; rw [h0] at h1; cases h1
        · simp [Array.getElem?_eq_none h'] at h1
      have hnot : ∀ e ∈ oj.after, Region.binds md e = true → e.on ≠ i := fun e he hb heq => hiun (by rw [← heq]; exact hall e he hb)
      have hSj : ∀ w', ((tl j = false → S w') ∧ (pu j = true → w' = w)) → S w' := fun w' hw' => by
        cases ht : tl j with
        | false => exact hw'.1 ht
        | true =>
          rcases htl j (Array.getElem?_eq_some_iff.1 hoj).1 ht with h | h
          · rw [hw'.2 h]; exact hS
          · exact (hiun (listed_of_reach hcl _ j i oj hoj hall h)).elim
      have h2 := wpOp_putIf hoj (hfree j oj hoj hji hjun hnot) (fun cs b => hsel i oi cs b hi) (fun cs b => hsel j oj cs b hoj) hQ hy h1
      have hfree' : ∀ k ok, ops[k]? = some ok → k ≠ i → (listed.setIfInBounds j true).getD k true = false →
          (∀ e ∈ ok.after, Region.binds md e = true → e.on ≠ i) → oi.apart ops ok = true := fun k ok hk hki hun hno => by
        refine hfree k ok hk hki ?_ hno
        by_cases hjk : j = k
        · subst hjk; exact hjun
        · rw [getD_set_ne true hjk] at hun; exact hun
      refine wpOp_mono (fun a' w' h3 => ⟨h3.2.1, ih (listed.setIfInBounds j true) a' w' hfree' (closed_set hcl hj) (ready_mono hr (Ne.symm hji)) h3.1 (hSj w' h3.2.1) ?_⟩) h2
      rw [Array.setIfInBounds_comm _ _ hji]
      exact h3.2.2

theorem wpAnyU_pure {i : Nat} {oi : Oper} {v : Value} (hi : ops[i]? = some oi) (hsel : ∀ (j : Nat) (o : Oper) cs b, ops[j]? = some o → o.op ≠ .select cs b)
    (hQ : ∀ c a w, Q (.panic c) (a.put oi.dst v) w → Q (.panic c) a w) (hti : tl i = true) :
    ∀ (fuel : Nat) (listed : Array Bool) (a : Act) (w : World),
      (∀ j oj, ops[j]? = some oj → j ≠ i → listed.getD j true = false → (∀ e ∈ oj.after, Region.binds md e = true → e.on ≠ i) → oi.apart ops oj = true) →
      i ∈ Region.ready md ops listed → YieldsIf P ops (fun _ => True) oi v a →
      wpAnyU P md ops Q tl pu S fuel (listed.setIfInBounds i true) (a.put oi.dst v) w → wpAnyU P md ops Q tl pu S (fuel + 1) listed a w := by
  intro fuel
  induction fuel with
  | zero =>
    intro listed a w _ hr hy H
    refine ⟨fun h => (by rw [h] at hr; cases hr), fun j hj => ?_⟩
    by_cases hji : j = i
    · subst hji; exact hy.wpOp hi trivial ⟨⟨fun h => (by rw [hti] at h; cases h), fun _ => rfl⟩, H⟩
    · have := ready_mono hj hji
      rw [H.1] at this
      cases this
  | succ fuel ih =>
    intro listed a w hfree hr hy H
    refine ⟨fun h => (by rw [h] at hr; cases hr), fun j hj => ?_⟩
    by_cases hji : j = i
    · subst hji; exact hy.wpOp hi trivial ⟨⟨fun h => (by rw [hti] at h; cases h), fun _ => rfl⟩, H⟩
    · have h1 := H.2 j (ready_mono hj hji)
      obtain ⟨hjun, oj, hoj, hall⟩ := mem_ready.1 hj
      have hiun : listed.getD i false = true → False := fun h1 => by
        have h0 := (mem_ready.1 hr).1
        rcases Nat.lt_or_ge i listed.size with h' | h'
        · simp [h'] at h0 h1; rw [h0] at h1; cases h1
        · simp [Array.getElem?_eq_none h'] at h1
      have hnot : ∀ e ∈ oj.after, Region.binds md e = true → e.on ≠ i := fun e he hb heq => hiun (by rw [← heq]; exact hall e he hb)
      have h2 := wpOp_putIf hoj (hfree j oj hoj hji hjun hnot) (fun cs b => hsel i oi cs b hi) (fun cs b => hsel j oj cs b hoj) hQ hy h1
      have hfree' : ∀ k ok, ops[k]? = some ok → k ≠ i → (listed.setIfInBounds j true).getD k true = false →
          (∀ e ∈ ok.after, Region.binds md e = true → e.on ≠ i) → oi.apart ops ok = true := fun k ok hk hki hun hno => by
        refine hfree k ok hk hki ?_ hno
        by_cases hjk : j = k
        · subst hjk; exact hjun
        · rw [getD_set_ne true hjk] at hun; exact hun
      refine wpOp_mono (fun a' w' h3 => ⟨h3.2.1, ih (listed.setIfInBounds j true) a' w' hfree' (ready_mono hr (Ne.symm hji)) h3.1 ?_⟩) h2
      rw [Array.setIfInBounds_comm _ _ hji]
      exact h3.2.2

/-- Which operations are among the last ones (or pure), and which are pure. -/
def tlOf (L U : List Nat) (j : Nat) : Bool := L.contains j || U.contains j
def puOf (U : List Nat) (j : Nat) : Bool := U.contains j
def tailU (md : Region.Mode) (ops : Array Oper) (L : List Nat) (i : Nat) : Bool := L.all fun j => reach md ops ops.size j i
def takeU (ops : Array Oper) (L : List Nat) (listed : Array Bool) (i : Nat) : Bool :=
  Region.noSelect ops && Region.free .any ops listed i && (Region.ready .any ops listed).contains i && closedB .any ops listed && tailU .any ops L i
def pureU (ops : Array Oper) (U : List Nat) (listed : Array Bool) (i : Nat) : Bool :=
  Region.noSelect ops && Region.free .any ops listed i && (Region.ready .any ops listed).contains i && U.contains i

/-- The state of the walk: from world w on; L: the last operations; U: the pure ones. -/
def wpU (P : Program) (ops : Array Oper) (Q : Exit → Act → World → Prop) (L U : List Nat) (fuel : Nat) (listed : Array Bool) (a : Act) (w : World) : Prop :=
  wpAnyU P .any ops Q (tlOf L U) (puOf U) (Later w) fuel listed a w

theorem wpU_begin (L U : List Nat) {id : Nat} {a : Act} {w : World} (hm : P.follows .mixedOrders = true)
    (h : ∀ w1, w1 = w.drew → wpU P ops Q L U ops.size (Array.replicate ops.size false) a w1) : (Code.region id ops true).wp P Q a w :=
  wp_region_any hm (wpAny_of_U _ _ _ _ (h w.drew rfl))

/-- Operation i is taken first: it reads only what lies in w already. -/
theorem wpU_take (i : Nat) (d : Option Tmp) {L U : List Nat} {oi : Oper} {v : Value} {fuel : Nat} {listed : Array Bool} {a : Act} {w : World} (hi : ops[i]? = some oi) (hd : oi.dst = d)
    (hB : takeU ops L listed i = true)
    (hQ : ∀ c a w, Q (.panic c) (a.put d v) w → Q (.panic c) a w)
    (hw : Region.wanted oi (yielded ops a.tmps) = true) (hy : ∀ x, Later w x → (execOp a.eval oi).run P x = .ok (.value v) x)
    (h : wpU P ops Q L U fuel (listed.setIfInBounds i true) (a.put d v) w) : wpU P ops Q L U (fuel + 1) listed a w := by
  subst hd
  simp only [takeU, Bool.and_eq_true] at hB
  obtain ⟨⟨⟨⟨hs, hf⟩, hr⟩, hc⟩, ht⟩ := hB
  refine wpAnyU_first hi (Region.noSelect_spec hs) hQ (fun j _ htj => ?_) fuel listed a w (Region.free_spec hi hf) (closed_of hc) (by simpa using hr) (.inl ⟨hw, hy⟩) (Later.refl w) h
  simp only [tlOf, Bool.or_eq_true] at htj
  rcases htj with h1 | h1
  · exact .inr (List.all_eq_true.1 ht j (by simpa using h1))
  · exact .inl h1

/-- Operation i is taken first: it reads no memory. -/
theorem wpU_pure (i : Nat) (d : Option Tmp) {L U : List Nat} {oi : Oper} {v : Value} {fuel : Nat} {listed : Array Bool} {a : Act} {w : World} (hi : ops[i]? = some oi) (hd : oi.dst = d)
    (hB : pureU ops U listed i = true)
    (hQ : ∀ c a w, Q (.panic c) (a.put d v) w → Q (.panic c) a w)
    (hw : Region.wanted oi (yielded ops a.tmps) = true) (hy : ∀ x, (execOp a.eval oi).run P x = .ok (.value v) x)
    (h : wpU P ops Q L U fuel (listed.setIfInBounds i true) (a.put d v) w) : wpU P ops Q L U (fuel + 1) listed a w := by
  subst hd
  simp only [pureU, Bool.and_eq_true] at hB
  obtain ⟨⟨⟨hs, hf⟩, hr⟩, hu⟩ := hB
  exact wpAnyU_pure hi (Region.noSelect_spec hs) hQ (by simp only [tlOf, Bool.or_eq_true]; exact .inr hu) fuel listed a w (Region.free_spec hi hf) (by simpa using hr) (.inl ⟨hw, fun x _ => hy x⟩) h

/-- Operation i comes up alone: it makes memory, and leaves what lies in w as it is. -/
theorem wpU_step (i : Nat) {L U : List Nat} {o : Oper} {fuel : Nat} {listed : Array Bool} {a : Act} {w : World} (hr : Region.ready .any ops listed = [i]) (hu : U.contains i = false) (ho : ops[i]? = some o)
    (h : wpList P ops (StepQ Q w (fun a' w' => wpU P ops Q L U fuel (listed.setIfInBounds i true) a' w')) [o] a w) : wpU P ops Q L U (fuel + 1) listed a w := by
  refine ⟨fun h0 => (by rw [hr] at h0; cases h0), fun j hj => ?_⟩
  rw [hr] at hj
  obtain rfl : j = i := by simpa using hj
  unfold wpList at h
  unfold wpOp
  rw [ho]
  have hK : ∀ a' w', wpList P ops (StepQ Q w (fun a' w' => wpU P ops Q L U fuel (listed.setIfInBounds j true) a' w')) [] a' w' →
      (((tlOf L U j = false → Later w w') ∧ (puOf U j = true → w' = w)) ∧ wpAnyU P .any ops Q (tlOf L U) (puOf U) (Later w) fuel (listed.setIfInBounds j true) a' w') := fun a' w' h' =>
    ⟨⟨fun _ => h'.1, fun h0 => (by unfold puOf at h0; rw [hu] at h0; cases h0)⟩, wpAnyU_mono (fun x hx => h'.1.trans hx) _ _ _ _ h'.2⟩
  have hup : o.wp P a w (wpList P ops (StepQ Q w (fun a' w' => wpU P ops Q L U fuel (listed.setIfInBounds j true) a' w')) []) (StepQ Q w (fun a' w' => wpU P ops Q L U fuel (listed.setIfInBounds j true) a' w')) →
      o.wp P a w (wpList P ops (StepQ Q w (fun a' w' => wpU P ops Q L U fuel (listed.setIfInBounds j true) a' w')) []) Q := fun h' => by
    unfold Oper.wp at *
    generalize (execOp a.eval o).run P w = r at *
    cases r with
    | ok n w' => cases n <;> exact h'
    | halt x w' => cases x <;> exact h'
  show if Region.wanted o (yielded ops a.tmps) = true then _ else _
  split
  · rename_i hw
    rw [if_pos hw] at h
    rcases h with h | ⟨h1, h2⟩
    · exact .inl (Oper.wp_mono hK (hup h))
    · exact .inr ⟨h1, h2⟩
  · rename_i hw
    rw [if_neg hw] at h
    exact hK _ _ h

theorem wpU_chain {U : List Nat} {S : World → Prop} (L0 : List Nat) : ∀ (L : List Nat) (os : List Oper) (listed : Array Bool) (a : Act) (w : World), chainB ops L listed = true → (∀ i ∈ L, L0.contains i = true ∧ U.contains i = false) → L.map (ops[·]?) = os.map some →
    wpList P ops Q os a w → wpAnyU P .any ops Q (tlOf L0 U) (puOf U) S L.length listed a w
  | [], os, listed, a, w, hch, _, hos, h => by
    have : os = [] := by cases os with
      | nil => rfl
      | cons => simp at hos
    subst this
    exact ⟨by simpa [chainB] using hch, h⟩
  | i :: L, os, listed, a, w, hch, htl, hos, h => by
    obtain ⟨o, os', rfl⟩ : ∃ o os', os = o :: os' := by cases os with
      | nil => simp at hos
      | cons o os' => exact ⟨o, os', rfl⟩
    simp only [List.map_cons, List.cons.injEq] at hos
    simp only [chainB, Bool.and_eq_true, beq_iff_eq] at hch
    obtain ⟨hr, hch'⟩ := hch
    refine ⟨fun h0 => (by rw [hr] at h0; cases h0), fun j hj => ?_⟩
    rw [hr] at hj
    obtain rfl : j = i := by simpa using hj
    have hj2 := htl j (by simp)
    have hK : ∀ a' w', wpList P ops Q os' a' w' → (((tlOf L0 U j = false → S w') ∧ (puOf U j = true → w' = w)) ∧ wpAnyU P .any ops Q (tlOf L0 U) (puOf U) S L.length (listed.setIfInBounds j true) a' w') := fun a' w' h' =>
      ⟨⟨fun ht => (by unfold tlOf at ht; rw [hj2.1] at ht; cases ht), fun ht => (by unfold puOf at ht; rw [hj2.2] at ht; cases ht)⟩, wpU_chain L0 L os' _ a' w' hch' (fun k hk => htl k (by simp [hk])) hos.2 h'⟩
    unfold wpList at h
    unfold wpOp
    rw [hos.1]
    show if Region.wanted o (yielded ops a.tmps) = true then _ else _
    split
    · rename_i hw
      rw [if_pos hw] at h
      exact h.imp (Oper.wp_mono hK) id
    · rename_i hw
      rw [if_neg hw] at h
      exact hK _ _ h

/-- All that is asked where only the last operations L are left. -/
def lastB (ops : Array Oper) (L U : List Nat) (listed : Array Bool) : Bool := chainB ops L listed && L.all fun i => !U.contains i
theorem wpU_last {L U : List Nat} (os : List Oper) {n : Nat} {listed : Array Bool} {a : Act} {w : World} (hB : lastB ops L U listed = true) (hn : L.length = n) (hos : L.map (ops[·]?) = os.map some)
    (h : wpList P ops Q os a w) : wpU P ops Q L U n listed a w := by
  subst hn
  simp only [lastB, Bool.and_eq_true] at hB
  exact wpU_chain L L os listed a w hB.1 (fun i hi => ⟨by simpa using hi, by simpa using List.all_eq_true.1 hB.2 i hi⟩) hos h

end
end Go.Proofs.YtopaeiogbijppaaDoor
