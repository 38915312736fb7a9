/- A region that draws its order, walked in ONE order: what reads only cells that lie before is taken first, in every later world; what makes memory comes up alone; what is left at the end waits for all the rest. -/
import Derived.Deep.RegionHeld3
import Derived.Deep.DrawnRows
import Derived.Below
import Derived.WalkKit
namespace Go.Proofs.YtopaeiogbijppaaDoor
open Go.RowKit

/-- x is w with new blocks alone (and other draws). -/
def Later (w x : World) : Prop := Below w.heap.size w x
theorem Later.refl (w : World) : Later w w := Below.refl _ _
theorem Later.trans {a b c : World} (h : Later a b) (k : Later b c) : Later a c := Below.trans h (Below.mono k h.size)
theorem Later.cell {w x : World} (h : Later w x) : ∀ p : Addr, p.block < w.heap.size → x.cell? p = w.cell? p := fun _ hp => Below.cell h hp
theorem Later.frozen {w x : World} (h : Later w x) : ∀ p : Addr, p.block < w.heap.size → x.frozen? p = w.frozen? p := fun _ hp => Below.frozen h hp
theorem Later.block {w x : World} (h : Later w x) : ∀ k, k < w.heap.size → x.heap[k]? = w.heap[k]? := fun k hk => Below.block h k hk
theorem Later.size {w x : World} (h : Later w x) : w.heap.size ≤ x.heap.size := Below.size h
theorem Later.drew {w x : World} (h : Later w x) : Later w x.drew := Below.drew h
theorem Later.alloc {w x : World} (h : Later w x) (o : Obj) : Later w (x.alloc o) := Below.alloc h h.size o

section
variable {P : Program} {ops : Array Oper} {Q : Exit → Act → World → Prop} {md : Region.Mode} {tl : Nat → Bool} {S S' : World → Prop}

/-- Whatever order is picked from here on; behind every operation that is not among the last ones S holds. -/
def wpAnyT (P : Program) (md : Region.Mode) (ops : Array Oper) (Q : Exit → Act → World → Prop) (tl : Nat → Bool) (S : World → Prop) : Nat → Array Bool → Act → World → Prop
  | 0, listed, a, w => Region.ready md ops listed = [] ∧ Q .normal a w
  | fuel + 1, listed, a, w =>
    (Region.ready md ops listed = [] → Q .normal a w) ∧
    ∀ i ∈ Region.ready md ops listed, wpOp P ops Q i (fun a' w' => (tl i = false → S w') ∧ wpAnyT P md ops Q tl S fuel (listed.setIfInBounds i true) a' w') a w

theorem wpAny_of_T : ∀ (fuel : Nat) (listed : Array Bool) (a : Act) (w : World), wpAnyT P md ops Q tl S fuel listed a w → wpAny P md ops Q fuel listed a w
  | 0, _, _, _, h => h
  | fuel + 1, _, _, _, h => ⟨h.1, fun i hi => wpOp_mono (fun a' w' h' => wpAny_of_T fuel _ a' w' h'.2) (h.2 i hi)⟩

theorem wpAnyT_mono (hs : ∀ w, S' w → S w) : ∀ (fuel : Nat) (listed : Array Bool) (a : Act) (w : World), wpAnyT P md ops Q tl S' fuel listed a w → wpAnyT P md ops Q tl S fuel listed a w
  | 0, _, _, _, h => h
  | fuel + 1, _, _, _, h => ⟨h.1, fun i hi => wpOp_mono (fun a' w' h' => ⟨fun ht => hs _ (h'.1 ht), wpAnyT_mono hs fuel _ a' w' h'.2⟩) (h.2 i hi)⟩

/-- What is listed has its forerunners listed. -/
def closed (md : Region.Mode) (ops : Array Oper) (listed : Array Bool) : Prop :=
  ∀ j o, ops[j]? = some o → listed.getD j false = true → ∀ e ∈ o.after, Region.binds md e = true → listed.getD e.on false = true
def closedB (md : Region.Mode) (ops : Array Oper) (listed : Array Bool) : Bool :=
  (List.range ops.size).all fun j => !listed.getD j false || match ops[j]? with
    | some o => o.after.all fun e => !Region.binds md e || listed.getD e.on false
    | none => true
theorem closed_of {listed : Array Bool} (h : closedB md ops listed = true) : closed md ops listed := by
  intro j o ho hl e he hb
  have hj : j < ops.size := (Array.getElem?_eq_some_iff.1 ho).1
  have h1 := List.all_eq_true.1 h j (List.mem_range.2 hj)
  simp only [ho, hl, Bool.not_true, Bool.false_or] at h1
  have h2 := Array.all_eq_true_iff_forall_mem.1 h1 e he
  simpa [hb] using h2
theorem closed_set {listed : Array Bool} {j : Nat} (h : closed md ops listed) (hj : j ∈ Region.ready md ops listed) : closed md ops (listed.setIfInBounds j true) := by
  intro k o ho hl e he hb
  obtain ⟨_, oj, hoj, hall⟩ := mem_ready.1 hj
  by_cases hjk : j = k
  · subst hjk
    rw [hoj] at ho
    cases ho
    exact getD_set_true (hall e he hb)
  · rw [getD_set_ne false hjk] at hl
    exact getD_set_true (h k o ho hl e he hb)

/-- j waits for i, at once or through others. -/
def reach (md : Region.Mode) (ops : Array Oper) : Nat → Nat → Nat → Bool
  | 0, _, _ => false
  | f + 1, j, i => match ops[j]? with
    | some o => o.after.any fun e => Region.binds md e && (e.on == i || reach md ops f e.on i)
    | none => false
theorem listed_of_reach {listed : Array Bool} (hc : closed md ops listed) : ∀ (f j i : Nat) (o : Oper), ops[j]? = some o → (∀ e ∈ o.after, Region.binds md e = true → listed.getD e.on false = true) →
    reach md ops f j i = true → listed.getD i false = true
  | 0, _, _, _, _, _, h => by simp [reach] at h
  | f + 1, j, i, o, ho, hall, h => by
    simp only [reach, ho] at h
    obtain ⟨e, he, h1⟩ := Array.any_eq_true'.1 h
    simp only [Bool.and_eq_true, Bool.or_eq_true, beq_iff_eq] at h1
    obtain ⟨hb, h2⟩ := h1
    rcases h2 with h2 | h2
    · rw [← h2]; exact hall e he hb
    · rcases hoe : ops[e.on]? with _ | oe
      · cases f <;> simp [reach, hoe] at h2
      · exact listed_of_reach hc f e.on i oe hoe (hc e.on oe hoe (hall e he hb)) h2

theorem wpAnyT_first {i : Nat} {oi : Oper} {v : Value} (hi : ops[i]? = some oi) (hsel : ∀ (j : Nat) (o : Oper) cs b, ops[j]? = some o → o.op ≠ .select cs b)
    (hQ : ∀ c a w, Q (.panic c) (a.put oi.dst v) w → Q (.panic c) a w) (htl : ∀ j, j < ops.size → tl j = true → (∀ w, S w) ∨ reach md ops ops.size j i = true) :
    ∀ (fuel : Nat) (listed : Array Bool) (a : Act) (w : World),
      (∀ j oj, ops[j]? = some oj → j ≠ i → listed.getD j true = false → (∀ e ∈ oj.after, Region.binds md e = true → e.on ≠ i) → oi.apart ops oj = true) → closed md ops listed →
      i ∈ Region.ready md ops listed → YieldsIf P ops S oi v a → S w →
      wpAnyT P md ops Q tl S fuel (listed.setIfInBounds i true) (a.put oi.dst v) w → wpAnyT P md ops Q tl S (fuel + 1) listed a w := by
  intro fuel
  induction fuel with
  | zero =>
    intro listed a w _ _ hr hy hS H
    refine ⟨fun h => (by rw [h] at hr; cases hr), fun j hj => ?_⟩
    by_cases hji : j = i
    · subst hji; exact hy.wpOp hi hS ⟨fun _ => hS, H⟩
    · have := ready_mono hj hji
      rw [H.1] at this
      cases this
  | succ fuel ih =>
    intro listed a w hfree hcl hr hy hS H
    refine ⟨fun h => (by rw [h] at hr; cases hr), fun j hj => ?_⟩
    by_cases hji : j = i
    · subst hji; exact hy.wpOp hi hS ⟨fun _ => hS, H⟩
    · have h1 := H.2 j (ready_mono hj hji)
      obtain ⟨hjun, oj, hoj, hall⟩ := mem_ready.1 hj
      have hiun : listed.getD i false = true → False := fun h1 => by
        have h0 := (mem_ready.1 hr).1
        rcases Nat.lt_or_ge i listed.size with h' | h'
        · simp [h'] at h0 h1; rw [h0] at h1; cases h1
        · simp [Array.getElem?_eq_none h'] at h1
      have hnot : ∀ e ∈ oj.after, Region.binds md e = true → e.on ≠ i := fun e he hb heq => hiun (by rw [← heq]; exact hall e he hb)
      have hSj : ∀ w', (tl j = false → S w') → S w' := fun w' hw' => by
        cases ht : tl j with
        | false => exact hw' ht
        | true =>
          rcases htl j (Array.getElem?_eq_some_iff.1 hoj).1 ht with h | h
          · exact h w'
          · exact (hiun (listed_of_reach hcl _ j i oj hoj hall h)).elim
      have h2 := wpOp_putIf hoj (hfree j oj hoj hji hjun hnot) (fun cs b => hsel i oi cs b hi) (fun cs b => hsel j oj cs b hoj) hQ hy h1
      have hfree' : ∀ k ok, ops[k]? = some ok → k ≠ i → (listed.setIfInBounds j true).getD k true = false →
          (∀ e ∈ ok.after, Region.binds md e = true → e.on ≠ i) → oi.apart ops ok = true := fun k ok hk hki hun hno => by
        refine hfree k ok hk hki ?_ hno
        by_cases hjk : j = k
        · subst hjk; exact hjun
        · rw [getD_set_ne true hjk] at hun; exact hun
      refine wpOp_mono (fun a' w' h3 => ⟨h3.2.1, ih (listed.setIfInBounds j true) a' w' hfree' (closed_set hcl hj) (ready_mono hr (Ne.symm hji)) h3.1 (hSj w' h3.2.1) ?_⟩) h2
      rw [Array.setIfInBounds_comm _ _ hji]
      exact h3.2.2

/-- Every last operation waits for i. -/
def tailB (md : Region.Mode) (ops : Array Oper) (tl : Nat → Bool) (i : Nat) : Bool := (List.range ops.size).all fun j => !tl j || reach md ops ops.size j i

/-- All that is asked of the region's form where operation i is taken first. -/
def takeB (ops : Array Oper) (tl : Nat → Bool) (listed : Array Bool) (i : Nat) : Bool :=
  Region.noSelect ops && Region.free .any ops listed i && (Region.ready .any ops listed).contains i && closedB .any ops listed && tailB .any ops tl i

/-- The state of the walk: from world w on. -/
def wpS (P : Program) (ops : Array Oper) (Q : Exit → Act → World → Prop) (tl : Nat → Bool) (fuel : Nat) (listed : Array Bool) (a : Act) (w : World) : Prop :=
  wpAnyT P .any ops Q tl (Later w) fuel listed a w

theorem wpS_begin (m : Nat) {id : Nat} {a : Act} {w : World} (hm : P.follows .mixedOrders = true)
    (h : ∀ w1, w1 = w.drew → wpS P ops Q (fun j => decide (m ≤ j)) ops.size (Array.replicate ops.size false) a w1) : (Code.region id ops true).wp P Q a w :=
  wp_region_any hm (wpAny_of_T _ _ _ _ (h w.drew rfl))

/-- Operation i is taken first: it reads only what lies in w already. -/
theorem wpS_take (i : Nat) (d : Option Tmp) {oi : Oper} {v : Value} {fuel : Nat} {listed : Array Bool} {a : Act} {w : World} (hi : ops[i]? = some oi) (hd : oi.dst = d)
    (hB : takeB ops tl listed i = true)
    (hQ : ∀ c a w, Q (.panic c) (a.put d v) w → Q (.panic c) a w)
    (hw : Region.wanted oi (yielded ops a.tmps) = true) (hy : ∀ x, Later w x → (execOp a.eval oi).run P x = .ok (.value v) x)
    (h : wpS P ops Q tl fuel (listed.setIfInBounds i true) (a.put d v) w) : wpS P ops Q tl (fuel + 1) listed a w := by
  subst hd
  simp only [takeB, Bool.and_eq_true] at hB
  obtain ⟨⟨⟨⟨hs, hf⟩, hr⟩, hc⟩, ht⟩ := hB
  exact wpAnyT_first hi (Region.noSelect_spec hs) hQ (fun j hj htj => .inr (by have := List.all_eq_true.1 ht j (List.mem_range.2 hj); simpa [htj] using this)) fuel listed a w (Region.free_spec hi hf) (closed_of hc) (by simpa using hr) (.inl ⟨hw, hy⟩) (Later.refl w) h

/-- Operation i is not wanted (its guard says so). -/
theorem wpS_skip (i : Nat) (d : Option Tmp) {oi : Oper} {fuel : Nat} {listed : Array Bool} {a : Act} {w : World} (hi : ops[i]? = some oi) (hd : oi.dst = d)
    (hB : takeB ops tl listed i = true)
    (hQ : ∀ c a w, Q (.panic c) (a.put d undef) w → Q (.panic c) a w)
    (hw : Region.wanted oi (yielded ops a.tmps) = false)
    (h : wpS P ops Q tl fuel (listed.setIfInBounds i true) (a.put d undef) w) : wpS P ops Q tl (fuel + 1) listed a w := by
  subst hd
  simp only [takeB, Bool.and_eq_true] at hB
  obtain ⟨⟨⟨⟨hs, hf⟩, hr⟩, hc⟩, ht⟩ := hB
  exact wpAnyT_first hi (Region.noSelect_spec hs) hQ (fun j hj htj => .inr (by have := List.all_eq_true.1 ht j (List.mem_range.2 hj); simpa [htj] using this)) fuel listed a w (Region.free_spec hi hf) (closed_of hc) (by simpa using hr) (.inr ⟨hw, rfl⟩) (Later.refl w) h

/-- The post of one operation that comes up alone. -/
def StepQ (Q : Exit → Act → World → Prop) (w : World) (K : Act → World → Prop) : Exit → Act → World → Prop
  | .normal, a', w' => Later w w' ∧ K a' w'
  | e, a', w' => Q e a' w'

/-- Operation i comes up alone: it makes memory, and leaves what lies in w as it is. -/
theorem wpS_step (i : Nat) {o : Oper} {fuel : Nat} {listed : Array Bool} {a : Act} {w : World} (hr : Region.ready .any ops listed = [i]) (ho : ops[i]? = some o)
    (h : wpList P ops (StepQ Q w (fun a' w' => wpS P ops Q tl fuel (listed.setIfInBounds i true) a' w')) [o] a w) : wpS P ops Q tl (fuel + 1) listed a w := by
  refine ⟨fun h0 => (by rw [hr] at h0; cases h0), fun j hj => ?_⟩
  rw [hr] at hj
  obtain rfl : j = i := by simpa using hj
  unfold wpList at h
  unfold wpOp
  rw [ho]
  have hK : ∀ a' w', wpList P ops (StepQ Q w (fun a' w' => wpS P ops Q tl fuel (listed.setIfInBounds j true) a' w')) [] a' w' →
      ((tl j = false → Later w w') ∧ wpAnyT P .any ops Q tl (Later w) fuel (listed.setIfInBounds j true) a' w') := fun a' w' h' =>
    ⟨fun _ => h'.1, wpAnyT_mono (fun x hx => h'.1.trans hx) _ _ _ _ h'.2⟩
  have hup : o.wp P a w (wpList P ops (StepQ Q w (fun a' w' => wpS P ops Q tl fuel (listed.setIfInBounds j true) a' w')) []) (StepQ Q w (fun a' w' => wpS P ops Q tl fuel (listed.setIfInBounds j true) a' w')) →
      o.wp P a w (wpList P ops (StepQ Q w (fun a' w' => wpS P ops Q tl fuel (listed.setIfInBounds j true) a' w')) []) Q := fun h' => by
    unfold Oper.wp at *
    generalize (execOp a.eval o).run P w = r at *
    cases r with
    | ok n w' => cases n <;> exact h'
    | halt x w' => cases x <;> exact h'
  show if Region.wanted o (yielded ops a.tmps) = true then _ else _
  split
  · rename_i hw
    rw [if_pos hw] at h
    rcases h with h | ⟨h1, h2⟩
    · exact .inl (Oper.wp_mono hK (hup h))
    · exact .inr ⟨h1, h2⟩
  · rename_i hw
    rw [if_neg hw] at h
    exact hK _ _ h

/-- What is left comes up one by one. -/
def chainB (ops : Array Oper) : List Nat → Array Bool → Bool
  | [], listed => (Region.ready .any ops listed).isEmpty
  | i :: r, listed => (Region.ready .any ops listed == [i]) && chainB ops r (listed.setIfInBounds i true)

theorem wpS_chain {S : World → Prop} : ∀ (L : List Nat) (os : List Oper) (listed : Array Bool) (a : Act) (w : World), chainB ops L listed = true → (∀ i ∈ L, tl i = true) → L.map (ops[·]?) = os.map some →
    wpList P ops Q os a w → wpAnyT P .any ops Q tl S L.length listed a w
  | [], os, listed, a, w, hch, _, hos, h => by
    have : os = [] := by cases os with
      | nil => rfl
      | cons => simp at hos
    subst this
    exact ⟨by simpa [chainB] using hch, h⟩
  | i :: L, os, listed, a, w, hch, htl, hos, h => by
    obtain ⟨o, os', rfl⟩ : ∃ o os', os = o :: os' := by cases os with
      | nil => simp at hos
      | cons o os' => exact ⟨o, os', rfl⟩
    simp only [List.map_cons, List.cons.injEq] at hos
    simp only [chainB, Bool.and_eq_true, beq_iff_eq] at hch
    obtain ⟨hr, hch'⟩ := hch
    refine ⟨fun h0 => (by rw [hr] at h0; cases h0), fun j hj => ?_⟩
    rw [hr] at hj
    obtain rfl : j = i := by simpa using hj
    have hK : ∀ a' w', wpList P ops Q os' a' w' → ((tl j = false → S w') ∧ wpAnyT P .any ops Q tl S L.length (listed.setIfInBounds j true) a' w') := fun a' w' h' =>
      ⟨fun ht => (by rw [htl j (by simp)] at ht; cases ht), wpS_chain L os' _ a' w' hch' (fun k hk => htl k (by simp [hk])) hos.2 h'⟩
    unfold wpList at h
    unfold wpOp
    rw [hos.1]
    show if Region.wanted o (yielded ops a.tmps) = true then _ else _
    split
    · rename_i hw
      rw [if_pos hw] at h
      exact h.imp (Oper.wp_mono hK) id
    · rename_i hw
      rw [if_neg hw] at h
      exact hK _ _ h

/-- The last operations, from number m on, in their order. -/
theorem wpS_tail (m n : Nat) (l : List Oper) {listed : Array Bool} {a : Act} {w : World} (hl : ops = l.toArray) (hch : chainB ops (List.range' m n) listed = true) (hn : l.length = m + n)
    (h : wpList P ops Q (l.drop m) a w) : wpS P ops Q (fun j => decide (m ≤ j)) n listed a w := by
  have := wpS_chain (P := P) (Q := Q) (tl := fun j => decide (m ≤ j)) (S := Later w) (List.range' m n) (l.drop m) listed a w hch (fun i hi => by simp [List.mem_range'] at hi; simp; omega) (by
    subst hl
    apply List.ext_getElem?
    intro k
    rw [List.getElem?_map, List.getElem?_map, List.getElem?_drop]
    by_cases hk : k < n
    · have hk2 : m + k < l.length := by omega
      rw [List.getElem?_range' hk]
      simp [List.getElem?_eq_getElem hk2]
    · have hk2 : l.length ≤ m + k := by omega
      rw [List.getElem?_eq_none (by rw [List.length_range']; omega), List.getElem?_eq_none hk2]
      rfl) h
  rw [List.length_range'] at this
  exact this

end
end Go.Proofs.YtopaeiogbijppaaDoor
