/- What a valid Code is, plain. Printed by gen_cd.py. -/
import Derived.Test.YtopaeiogbijppaaDoorCdData
import Derived.Test.YtopaeiogbijppaaDoorInAll
import Derived.Test.YtopaeiogbijppaaDoorNmRows
import Derived.Test.YtopaeiogbijppaaDoorCdEq
namespace Go.Proofs.YtopaeiogbijppaaDoor
open Go.RowKit

def recOk (r : RecordTypeD) : Bool := isNm r.name && (decide (r.fields.length ≤ 6) && (r.fields.all isNm && (!twB r.fields && decide (0 ≤ r.line))))
def rtOk (nI : Nat) (r : CodeRoutineD) : Bool := isNm r.name && (decide (0 ≤ r.slots) && (decide (r.slots ≤ 24) && (decide (0 ≤ r.params) && (decide (r.params ≤ r.slots) && (decide (0 ≤ r.entry) && decide (r.entry < (nI : Int)))))))
def mainOk (c : CodeD) : Bool := decide (0 ≤ c.main) && (decide (c.main < (c.routines.length : Int)) && ((c.routines.map (·.params)).getD c.main.toNat 1 == 0))
def inOk (c : CodeD) (x : InstrD) : Bool := insOk c.routines.length c.records.length c.globals.length c.instrs.length x.op x.a x.b x.line x.text
/-- A valid Code. -/
def cdOk (c : CodeD) : Bool := decide (1 ≤ c.routines.length) && (decide (c.routines.length ≤ 12) && (decide (c.records.length ≤ 8) && (c.records.all recOk && (decide (c.globals.length ≤ 12) && (c.globals.all isNm && (decide (1 ≤ c.instrs.length) && (decide (c.instrs.length ≤ 60000) && (c.routines.all (rtOk c.instrs.length) && (mainOk c && c.instrs.all (inOk c))))))))))
theorem cdOk_no {c : CodeD} (h : c.routines.length < 1 ∨ 12 < c.routines.length ∨ 8 < c.records.length ∨ c.records.all recOk = false ∨ 12 < c.globals.length ∨ c.globals.all isNm = false ∨ c.instrs.length < 1 ∨ 60000 < c.instrs.length ∨ c.routines.all (rtOk c.instrs.length) = false ∨ mainOk c = false ∨ c.instrs.all (inOk c) = false) : cdOk c = false := by
  unfold cdOk
  rcases h with h | h | h | h | h | h | h | h | h | h | h
  · rw [decide_eq_false (show ¬ 1 ≤ c.routines.length by omega)]; rfl
  · rw [decide_eq_false (show ¬ c.routines.length ≤ 12 by omega)]; simp only [Bool.false_and, Bool.and_false]
  · rw [decide_eq_false (show ¬ c.records.length ≤ 8 by omega)]; simp only [Bool.false_and, Bool.and_false]
  · rw [h]; simp only [Bool.false_and, Bool.and_false]
  · rw [decide_eq_false (show ¬ c.globals.length ≤ 12 by omega)]; simp only [Bool.false_and, Bool.and_false]
  · rw [h]; simp only [Bool.false_and, Bool.and_false]
  · rw [decide_eq_false (show ¬ 1 ≤ c.instrs.length by omega)]; simp only [Bool.false_and, Bool.and_false]
  · rw [decide_eq_false (show ¬ c.instrs.length ≤ 60000 by omega)]; simp only [Bool.false_and, Bool.and_false]
  · rw [h]; simp only [Bool.false_and, Bool.and_false]
  · rw [h]; simp only [Bool.false_and, Bool.and_false]
  · rw [h]; simp only [Bool.false_and, Bool.and_false]
theorem cdOk_yes {c : CodeD} (h1 : ¬ c.routines.length < 1) (h2 : ¬ 12 < c.routines.length) (h3 : ¬ 8 < c.records.length) (h4 : c.records.all recOk = true) (h5 : ¬ 12 < c.globals.length) (h6 : c.globals.all isNm = true) (h7 : ¬ c.instrs.length < 1) (h8 : ¬ 60000 < c.instrs.length) (h9 : c.routines.all (rtOk c.instrs.length) = true) (h10 : mainOk c = true) (h11 : c.instrs.all (inOk c) = true) : cdOk c = true := by
  unfold cdOk
  rw [h4, h6, h9, h10, h11, decide_eq_true (show 1 ≤ c.routines.length by omega), decide_eq_true (show c.routines.length ≤ 12 by omega), decide_eq_true (show c.records.length ≤ 8 by omega), decide_eq_true (show c.globals.length ≤ 12 by omega), decide_eq_true (show 1 ≤ c.instrs.length by omega), decide_eq_true (show c.instrs.length ≤ 60000 by omega)]
  rfl
theorem all_of {α : Type} {p : α → Bool} {l : List α} (h : ∀ k (hk : k < l.length), p l[k] = true) : l.all p = true := by
  rw [List.all_eq_true]
  intro x hx
  obtain ⟨k, hk, rfl⟩ := List.getElem_of_mem hx
  exact h k hk
theorem all_not {α : Type} {p : α → Bool} {l : List α} {j : Nat} (hj : j < l.length) (h : p l[j] = false) : l.all p = false := by
  rw [List.all_eq_false]
  exact ⟨_, List.getElem_mem hj, by rw [h]; decide⟩
theorem all_step {α : Type} {p : α → Bool} {l : List α} {j : Nat} (h : ∀ k (hk : k < l.length), k < j → p l[k] = true) (hj : ∀ hk : j < l.length, p l[j] = true) : ∀ k (hk : k < l.length), k < j + 1 → p l[k] = true := fun k hk h1 => by
  rcases Nat.lt_or_ge k j with h2 | h2
  · exact h k hk h2
  · obtain rfl : k = j := by omega
    exact hj hk
end Go.Proofs.YtopaeiogbijppaaDoor
