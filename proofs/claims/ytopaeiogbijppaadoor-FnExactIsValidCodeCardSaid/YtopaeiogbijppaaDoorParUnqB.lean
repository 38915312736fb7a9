/- hexValue of both sides; the bytes read so far. Printed by gen_parunq.py. -/
import Derived.Test.YtopaeiogbijppaaDoorParStep
import Derived.Test.YtopaeiogbijppaaDoorQuoteImpl
import Derived.Test.YtopaeiogbijppaaDoorRegion
namespace Go.Proofs.YtopaeiogbijppaaDoor
open Go.RowKit

/-- A text that was read, or none. -/
def strOut : Option (List UInt8) → Value
  | some l => .tuple #[.string ⟨l.toArray⟩, .bool true]
  | none => .tuple #[.string ⟨#[]⟩, .bool false]
theorem later_drew {w x : World} (h : x = w.drew) : Later w x := by rw [h]; exact (Later.refl _).drew
theorem own_later {w x : World} {base : Nat} {e : TypeId} {size : Nat} {v : Value} {n : Nat} {xs : List Value} (h : w.ownsRow base e size v n xs) (hl : Later w x) : x.ownsRow base e size v n xs := by
  refine ⟨h.1, ?_⟩
  rcases h.2 with hn | ⟨g, cap, cur, rfl, hb, hg, rest⟩
  · exact .inl hn
  · exact .inr ⟨g, cap, cur, rfl, hb, (Below.block hl g (Array.getElem?_eq_some_iff.1 hg).1).trans hg, rest⟩
/-- The bytes read so far, in a row that the call owns. -/
structure UnSt (w : World) (o : List UInt8) (v : Value) (wr : World) : Prop where
  row : wr.ownsRow w.heap.size 5 1 v o.length ((ints o).map (Value.int .u8))
  bel : Below w.heap.size w wr
  nn : v ≠ .slice none 0 0
theorem UnSt.later {w wr x : World} {o : List UInt8} {v : Value} (h : UnSt w o v wr) (hl : Later wr x) : UnSt w o v x :=
  ⟨own_later h.row hl, Below.trans h.bel (Below.mono hl h.bel.size), h.nn⟩
theorem UnSt.alloc {w wr : World} {o : List UInt8} {v : Value} (h : UnSt w o v wr) (ob : Obj) : UnSt w o v (wr.alloc ob) := h.later ((Later.refl _).alloc ob)
theorem UnSt.form {w wr : World} {o : List UInt8} {v : Value} (h : UnSt w o v wr) : ∃ g cap, v = .slice (some ⟨g, 0, none⟩) o.length cap := by
  rcases h.row.2 with ⟨hv, _⟩ | ⟨g, cap, cur, hv, _⟩
  · exact absurd hv h.nn
  · exact ⟨g, cap, hv⟩
theorem UnSt.push {w wr w1 : World} {o : List UInt8} {v v' : Value} (h : UnSt w o v wr) (x : UInt8) (c : Int) (hc : (x.toNat : Int) = c) {ob : Obj} (hown' : w1.ownsRow w.heap.size 5 1 v' (o.length + 1) ((ints o).map (Value.int .u8) ++ [Value.int .u8 c])) (hg : (wr.alloc ob).grownBy w1 v.ownBlock) (hn : v' = .slice none 0 0 ↔ v = .slice none 0 0 ∧ 1 = 0) : UnSt w (o ++ [x]) v' w1 := by
  subst hc
  have hsz := h.bel.size
  refine ⟨?_, (h.bel.alloc hsz ob).grown hg (by simp; omega) (fun g hg' => (h.row.lt g hg').1), fun e => by have := (hn.1 e).2; omega⟩
  rw [List.length_append, List.length_singleton, ints_append, List.map_append]
  exact hown'
theorem UnSt.start (w : World) : UnSt w [] (.slice (some ⟨w.heap.size, 0, none⟩) 0 0) (w.alloc (.cells #[] 5)) :=
  ⟨⟨rfl, .inr ⟨w.heap.size, 0, #[], rfl, Nat.le_refl _, heap_alloc_new w _, Nat.le_refl _, Nat.zero_le _, rfl, rfl⟩⟩, (Below.refl _ _).alloc (Nat.le_refl _) _, fun e => by cases e⟩
theorem strOf_ints (o : List UInt8) : strOf (ints o) = ⟨o.toArray⟩ := by
  unfold strOf ints
  rw [List.map_map]
  congr 1
  congr 1
  conv => rhs; rw [← List.map_id o]
  apply List.map_congr_left
  intro b _
  simp
/-- 'string(out)'. -/
theorem UnSt.text {w wr : World} {o : List UInt8} {g cap : Nat} (h : UnSt w o (.slice (some ⟨g, 0, none⟩) o.length cap) wr) : (convert 77 9 (.slice (some ⟨g, 0, none⟩) o.length cap)).run Tryd.prog wr = .ok (.string ⟨o.toArray⟩) wr := by
  have := run_string_own (ns := ints o) (n := o.length) (by simp [ints]) h.row
  rw [strOf_ints] at this
  exact this
theorem hexV_hi (x : UInt8) : -1 ≤ hexV x ∧ hexV x ≤ 15 := by
  unfold hexV
  split
  · omega
  · split <;> omega
theorem hexB_int (x y : UInt8) (hx : 0 ≤ hexV x) (hy : 0 ≤ hexV y) : ((hexB x y).toNat : Int) = hexV x * 16 + hexV y := by
  have h1 := hexV_hi x
  have h2 := hexV_hi y
  unfold hexB
  rw [UInt8.toNat_ofNat']
  omega
set_option maxHeartbeats 1000000 in
theorem hexValue_any (x : UInt8) (c : Int) (hc : (x.toNat : Int) = c) (w : World) : Calls Tryd.prog 88 #[.int .u8 c] w fun e w' => e = .returned (.int .i64 (hexV x)) ∧ w' = w := by
  have hb : 0 ≤ c ∧ c < 256 := by have := x.toNat_lt; omega
  obtain ⟨hb0, hb1⟩ := hb
  by_cases h1 : 48 ≤ c ∧ c ≤ 57
  · have e : hexV x = c - 48 := by unfold hexV; rw [if_pos (by omega), hc]
    rw [e]
    obtain ⟨h1, h2⟩ := h1
    have d1 : decide ((48 : Int) ≤ c) = true := decide_eq_true h1
    have d2 : decide (c ≤ (57 : Int)) = true := decide_eq_true h2
    clear hc e
    go_enter Tryd.func88, Tryd.ntmps88
    go_wp2_with fail
    go_ret
    exact ⟨rfl, rfl⟩
  by_cases h2 : 97 ≤ c ∧ c ≤ 102
  · have e : hexV x = c - 87 := by unfold hexV; rw [if_neg (by omega), if_pos (by omega), hc]; omega
    rw [e]
    obtain ⟨h2, h3⟩ := h2
    have d1 : decide ((48 : Int) ≤ c) = true := decide_eq_true (by omega)
    have d2 : decide (c ≤ (57 : Int)) = false := decide_eq_false (by omega)
    have d3 : decide ((97 : Int) ≤ c) = true := decide_eq_true h2
    have d4 : decide (c ≤ (102 : Int)) = true := decide_eq_true h3
    clear hc e
    go_enter Tryd.func88, Tryd.ntmps88
    go_wp2_with fail
    go_ret
    refine ⟨?_, rfl⟩
    first | rfl | exact congrArg (fun z => Ending.returned (Value.int .i64 z)) (by omega)
  · have e : hexV x = -1 := by unfold hexV; rw [if_neg (by omega), if_neg (by omega)]
    rw [e]
    clear hc e
    have hcase : c < 48 ∨ (48 ≤ c ∧ 57 < c ∧ c < 97) ∨ (97 ≤ c ∧ 102 < c) := by omega
    rcases hcase with h3 | ⟨h3, h4, h5⟩ | ⟨h3, h4⟩
    · have d1 : decide ((48 : Int) ≤ c) = false := decide_eq_false (by omega)
      have d3 : decide ((97 : Int) ≤ c) = false := decide_eq_false (by omega)
      go_enter Tryd.func88, Tryd.ntmps88
      go_wp2_with fail
      go_ret
      exact ⟨rfl, rfl⟩
    · have d1 : decide ((48 : Int) ≤ c) = true := decide_eq_true (by omega)
      have d2 : decide (c ≤ (57 : Int)) = false := decide_eq_false (by omega)
      have d3 : decide ((97 : Int) ≤ c) = false := decide_eq_false (by omega)
      go_enter Tryd.func88, Tryd.ntmps88
      go_wp2_with fail
      go_ret
      exact ⟨rfl, rfl⟩
    · have d1 : decide ((48 : Int) ≤ c) = true := decide_eq_true (by omega)
      have d2 : decide (c ≤ (57 : Int)) = false := decide_eq_false (by omega)
      have d3 : decide ((97 : Int) ≤ c) = true := decide_eq_true (by omega)
      have d4 : decide (c ≤ (102 : Int)) = false := decide_eq_false (by omega)
      go_enter Tryd.func88, Tryd.ntmps88
      go_wp2_with fail
      go_ret
      exact ⟨rfl, rfl⟩
set_option maxHeartbeats 1000000 in
theorem l4HexValue_any (x : UInt8) (c : Int) (hc : (x.toNat : Int) = c) (w : World) : Calls Tryd.prog 81 #[.int .u8 c] w fun e w' => e = .returned (.int .i64 (hexV x)) ∧ w' = w := by
  have hb : 0 ≤ c ∧ c < 256 := by have := x.toNat_lt; omega
  obtain ⟨hb0, hb1⟩ := hb
  by_cases h1 : 48 ≤ c ∧ c ≤ 57
  · have e : hexV x = c - 48 := by unfold hexV; rw [if_pos (by omega), hc]
    rw [e]
    obtain ⟨h1, h2⟩ := h1
    have d1 : decide ((48 : Int) ≤ c) = true := decide_eq_true h1
    have d2 : decide (c ≤ (57 : Int)) = true := decide_eq_true h2
    clear hc e
    go_enter Tryd.func81, Tryd.ntmps81
    go_wp2_with fail
    go_ret
    exact ⟨rfl, rfl⟩
  by_cases h2 : 97 ≤ c ∧ c ≤ 102
  · have e : hexV x = c - 87 := by unfold hexV; rw [if_neg (by omega), if_pos (by omega), hc]; omega
    rw [e]
    obtain ⟨h2, h3⟩ := h2
    have d1 : decide ((48 : Int) ≤ c) = true := decide_eq_true (by omega)
    have d2 : decide (c ≤ (57 : Int)) = false := decide_eq_false (by omega)
    have d3 : decide ((97 : Int) ≤ c) = true := decide_eq_true h2
    have d4 : decide (c ≤ (102 : Int)) = true := decide_eq_true h3
    clear hc e
    go_enter Tryd.func81, Tryd.ntmps81
    go_wp2_with fail
    go_ret
    refine ⟨?_, rfl⟩
    first | rfl | exact congrArg (fun z => Ending.returned (Value.int .i64 z)) (by omega)
  · have e : hexV x = -1 := by unfold hexV; rw [if_neg (by omega), if_neg (by omega)]
    rw [e]
    clear hc e
    have hcase : c < 48 ∨ (48 ≤ c ∧ 57 < c ∧ c < 97) ∨ (97 ≤ c ∧ 102 < c) := by omega
    rcases hcase with h3 | ⟨h3, h4, h5⟩ | ⟨h3, h4⟩
    · have d1 : decide ((48 : Int) ≤ c) = false := decide_eq_false (by omega)
      have d3 : decide ((97 : Int) ≤ c) = false := decide_eq_false (by omega)
      go_enter Tryd.func81, Tryd.ntmps81
      go_wp2_with fail
      go_ret
      exact ⟨rfl, rfl⟩
    · have d1 : decide ((48 : Int) ≤ c) = true := decide_eq_true (by omega)
      have d2 : decide (c ≤ (57 : Int)) = false := decide_eq_false (by omega)
      have d3 : decide ((97 : Int) ≤ c) = false := decide_eq_false (by omega)
      go_enter Tryd.func81, Tryd.ntmps81
      go_wp2_with fail
      go_ret
      exact ⟨rfl, rfl⟩
    · have d1 : decide ((48 : Int) ≤ c) = true := decide_eq_true (by omega)
      have d2 : decide (c ≤ (57 : Int)) = false := decide_eq_false (by omega)
      have d3 : decide ((97 : Int) ≤ c) = true := decide_eq_true (by omega)
      have d4 : decide (c ≤ (102 : Int)) = false := decide_eq_false (by omega)
      go_enter Tryd.func81, Tryd.ntmps81
      go_wp2_with fail
      go_ret
      exact ⟨rfl, rfl⟩
end Go.Proofs.YtopaeiogbijppaaDoor
