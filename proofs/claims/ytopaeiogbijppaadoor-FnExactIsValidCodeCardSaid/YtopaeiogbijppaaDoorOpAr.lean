/- OperatorArity, both sides. Printed by gen_ops.py. -/
import Derived.Test.YtopaeiogbijppaaDoorOpI
import Derived.Test.YtopaeiogbijppaaDoorOpS
namespace Go.Proofs.YtopaeiogbijppaaDoor
open Go.RowKit

/-- The least and the greatest number of operands. -/
def arLo (op : Int) : Int := if opT op = [] then 0 else if op ≤ 11 ∨ op = 81 then 1 else if op = 71 ∨ op = 72 then 3 else if op = 74 then 0 else 2
def arHi (op : Int) : Int := if opT op = [] then -1 else if op ≤ 11 ∨ op = 81 then 1 else if op = 71 ∨ op = 72 then 3 else if op = 73 ∨ op = 74 then 8 else 2
set_option maxRecDepth 100000 in
set_option maxHeartbeats 4000000 in
theorem implOpArity_any (op : Int) (w : World) (ht : Spc w) : Calls Tryd.prog 76 #[.int .i64 op] w fun e w' => e = .returned (.tuple #[.int .i64 (arLo op), .int .i64 (arHi op)]) ∧ Below w.heap.size w w' := by
  obtain ⟨L, hL⟩ : ∃ L, arLo op = L := ⟨_, rfl⟩
  obtain ⟨H, hH⟩ : ∃ H, arHi op = H := ⟨_, rfl⟩
  rw [hL, hH]
  have HL := Lib.hid hL
  have HH := Lib.hid hH
  have hC := (implOpText_any op w ht)
  obtain ⟨z, hz⟩ : ∃ z, (⟨(opT op).toArray⟩ : ByteArray) = z := ⟨_, rfl⟩
  rw [hz] at hC
  have HC := Lib.hid hC
  clear hL hH hC ht
  by_cases hz0 : opT op = []
  · rw [hz0] at hz
    have hl : L = 0 := by rw [← HL.out, arLo, if_pos hz0]
    have hh : H = -1 := by rw [← HH.out, arHi, if_pos hz0]
    subst hl hh
    subst hz
    go_enter Tryd.func76, Tryd.ntmps76
    go_wp2_with fail
    refine HC.out.mono ?_
    rintro e w1 ⟨rfl, hb1⟩
    go_wp2_with fail
    go_ret2
    exact ⟨rfl, hb1⟩
  have v1 : (z.toList == []) = false := by
    rw [beq_eq_false_iff_ne]
    intro h
    apply hz0
    have h2 := ByteArray.toList_eq z
    rw [h, ← hz] at h2
    exact h2.symm
  have HZ0 := Lib.hid hz0
  clear hz hz0
  go_enter Tryd.func76, Tryd.ntmps76
  go_wp2_with fail
  refine HC.out.mono ?_
  rintro e w1 ⟨rfl, hb1⟩
  clear HC
  have hi : (op ≤ 11) ∨ (12 ≤ op ∧ op ≤ 70) ∨ (71 ≤ op ∧ op ≤ 71) ∨ (72 ≤ op ∧ op ≤ 72) ∨ (73 ≤ op ∧ op ≤ 73) ∨ (74 ≤ op ∧ op ≤ 74) ∨ (75 ≤ op ∧ op ≤ 80) ∨ (81 ≤ op ∧ op ≤ 81) ∨ (82 ≤ op) := by omega
  rcases hi with hi | hi | hi | hi | hi | hi | hi | hi | hi
  · skip
    have : decide (op ≤ (11 : Int)) = true := decide_eq_true (by omega)
    have : (op == (81 : Int)) = false := by rw [beq_eq_false_iff_ne]; omega
    have : (op == (71 : Int)) = false := by rw [beq_eq_false_iff_ne]; omega
    have : (op == (72 : Int)) = false := by rw [beq_eq_false_iff_ne]; omega
    have : (op == (73 : Int)) = false := by rw [beq_eq_false_iff_ne]; omega
    have : (op == (74 : Int)) = false := by rw [beq_eq_false_iff_ne]; omega
    have hl : L = 1 := by rw [← HL.out, arLo, if_neg HZ0.out]; rw [if_pos (by omega)]
    have hh : H = 1 := by rw [← HH.out, arHi, if_neg HZ0.out]; rw [if_pos (by omega)]
    subst hl hh
    go_wp2_with fail
    go_ret2
    exact ⟨rfl, hb1⟩
  · skip
    have : decide (op ≤ (11 : Int)) = false := decide_eq_false (by omega)
    have : (op == (81 : Int)) = false := by rw [beq_eq_false_iff_ne]; omega
    have : (op == (71 : Int)) = false := by rw [beq_eq_false_iff_ne]; omega
    have : (op == (72 : Int)) = false := by rw [beq_eq_false_iff_ne]; omega
    have : (op == (73 : Int)) = false := by rw [beq_eq_false_iff_ne]; omega
    have : (op == (74 : Int)) = false := by rw [beq_eq_false_iff_ne]; omega
    have hl : L = 2 := by rw [← HL.out, arLo, if_neg HZ0.out]; rw [if_neg (by omega), if_neg (by omega), if_neg (by omega)]
    have hh : H = 2 := by rw [← HH.out, arHi, if_neg HZ0.out]; rw [if_neg (by omega), if_neg (by omega), if_neg (by omega)]
    subst hl hh
    go_wp2_with fail
    go_ret2
    exact ⟨rfl, hb1⟩
  · skip
    have : decide (op ≤ (11 : Int)) = false := decide_eq_false (by omega)
    have : (op == (81 : Int)) = false := by rw [beq_eq_false_iff_ne]; omega
    have : (op == (71 : Int)) = true := by rw [beq_iff_eq]; omega
    have : (op == (72 : Int)) = false := by rw [beq_eq_false_iff_ne]; omega
    have : (op == (73 : Int)) = false := by rw [beq_eq_false_iff_ne]; omega
    have : (op == (74 : Int)) = false := by rw [beq_eq_false_iff_ne]; omega
    have hl : L = 3 := by rw [← HL.out, arLo, if_neg HZ0.out]; rw [if_neg (by omega), if_pos (by omega)]
    have hh : H = 3 := by rw [← HH.out, arHi, if_neg HZ0.out]; rw [if_neg (by omega), if_pos (by omega)]
    subst hl hh
    go_wp2_with fail
    go_ret2
    exact ⟨rfl, hb1⟩
  · skip
    have : decide (op ≤ (11 : Int)) = false := decide_eq_false (by omega)
    have : (op == (81 : Int)) = false := by rw [beq_eq_false_iff_ne]; omega
    have : (op == (71 : Int)) = false := by rw [beq_eq_false_iff_ne]; omega
    have : (op == (72 : Int)) = true := by rw [beq_iff_eq]; omega
    have : (op == (73 : Int)) = false := by rw [beq_eq_false_iff_ne]; omega
    have : (op == (74 : Int)) = false := by rw [beq_eq_false_iff_ne]; omega
    have hl : L = 3 := by rw [← HL.out, arLo, if_neg HZ0.out]; rw [if_neg (by omega), if_pos (by omega)]
    have hh : H = 3 := by rw [← HH.out, arHi, if_neg HZ0.out]; rw [if_neg (by omega), if_pos (by omega)]
    subst hl hh
    go_wp2_with fail
    go_ret2
    exact ⟨rfl, hb1⟩
  · skip
    have : decide (op ≤ (11 : Int)) = false := decide_eq_false (by omega)
    have : (op == (81 : Int)) = false := by rw [beq_eq_false_iff_ne]; omega
    have : (op == (71 : Int)) = false := by rw [beq_eq_false_iff_ne]; omega
    have : (op == (72 : Int)) = false := by rw [beq_eq_false_iff_ne]; omega
    have : (op == (73 : Int)) = true := by rw [beq_iff_eq]; omega
    have : (op == (74 : Int)) = false := by rw [beq_eq_false_iff_ne]; omega
    have hl : L = 2 := by rw [← HL.out, arLo, if_neg HZ0.out]; rw [if_neg (by omega), if_neg (by omega), if_neg (by omega)]
    have hh : H = 8 := by rw [← HH.out, arHi, if_neg HZ0.out]; rw [if_neg (by omega), if_neg (by omega), if_pos (by omega)]
    subst hl hh
    go_wp2_with fail
    go_ret2
    exact ⟨rfl, hb1⟩
  · skip
    have : decide (op ≤ (11 : Int)) = false := decide_eq_false (by omega)
    have : (op == (81 : Int)) = false := by rw [beq_eq_false_iff_ne]; omega
    have : (op == (71 : Int)) = false := by rw [beq_eq_false_iff_ne]; omega
    have : (op == (72 : Int)) = false := by rw [beq_eq_false_iff_ne]; omega
    have : (op == (73 : Int)) = false := by rw [beq_eq_false_iff_ne]; omega
    have : (op == (74 : Int)) = true := by rw [beq_iff_eq]; omega
    have hl : L = 0 := by rw [← HL.out, arLo, if_neg HZ0.out]; rw [if_neg (by omega), if_neg (by omega), if_pos (by omega)]
    have hh : H = 8 := by rw [← HH.out, arHi, if_neg HZ0.out]; rw [if_neg (by omega), if_neg (by omega), if_pos (by omega)]
    subst hl hh
    go_wp2_with fail
    go_ret2
    exact ⟨rfl, hb1⟩
  · skip
    have : decide (op ≤ (11 : Int)) = false := decide_eq_false (by omega)
    have : (op == (81 : Int)) = false := by rw [beq_eq_false_iff_ne]; omega
    have : (op == (71 : Int)) = false := by rw [beq_eq_false_iff_ne]; omega
    have : (op == (72 : Int)) = false := by rw [beq_eq_false_iff_ne]; omega
    have : (op == (73 : Int)) = false := by rw [beq_eq_false_iff_ne]; omega
    have : (op == (74 : Int)) = false := by rw [beq_eq_false_iff_ne]; omega
    have hl : L = 2 := by rw [← HL.out, arLo, if_neg HZ0.out]; rw [if_neg (by omega), if_neg (by omega), if_neg (by omega)]
    have hh : H = 2 := by rw [← HH.out, arHi, if_neg HZ0.out]; rw [if_neg (by omega), if_neg (by omega), if_neg (by omega)]
    subst hl hh
    go_wp2_with fail
    go_ret2
    exact ⟨rfl, hb1⟩
  · skip
    have : decide (op ≤ (11 : Int)) = false := decide_eq_false (by omega)
    have : (op == (81 : Int)) = true := by rw [beq_iff_eq]; omega
    have : (op == (71 : Int)) = false := by rw [beq_eq_false_iff_ne]; omega
    have : (op == (72 : Int)) = false := by rw [beq_eq_false_iff_ne]; omega
    have : (op == (73 : Int)) = false := by rw [beq_eq_false_iff_ne]; omega
    have : (op == (74 : Int)) = false := by rw [beq_eq_false_iff_ne]; omega
    have hl : L = 1 := by rw [← HL.out, arLo, if_neg HZ0.out]; rw [if_pos (by omega)]
    have hh : H = 1 := by rw [← HH.out, arHi, if_neg HZ0.out]; rw [if_pos (by omega)]
    subst hl hh
    go_wp2_with fail
    go_ret2
    exact ⟨rfl, hb1⟩
  · skip
    have : decide (op ≤ (11 : Int)) = false := decide_eq_false (by omega)
    have : (op == (81 : Int)) = false := by rw [beq_eq_false_iff_ne]; omega
    have : (op == (71 : Int)) = false := by rw [beq_eq_false_iff_ne]; omega
    have : (op == (72 : Int)) = false := by rw [beq_eq_false_iff_ne]; omega
    have : (op == (73 : Int)) = false := by rw [beq_eq_false_iff_ne]; omega
    have : (op == (74 : Int)) = false := by rw [beq_eq_false_iff_ne]; omega
    have hl : L = 2 := by rw [← HL.out, arLo, if_neg HZ0.out]; rw [if_neg (by omega), if_neg (by omega), if_neg (by omega)]
    have hh : H = 2 := by rw [← HH.out, arHi, if_neg HZ0.out]; rw [if_neg (by omega), if_neg (by omega), if_neg (by omega)]
    subst hl hh
    go_wp2_with fail
    go_ret2
    exact ⟨rfl, hb1⟩
set_option maxRecDepth 100000 in
set_option maxHeartbeats 4000000 in
theorem specOpArity_any (op : Int) (w : World) : Calls Tryd.prog 66 #[.int .i64 op] w fun e w' => e = .returned (.tuple #[.int .i64 (arLo op), .int .i64 (arHi op)]) ∧ Below w.heap.size w w' := by
  obtain ⟨L, hL⟩ : ∃ L, arLo op = L := ⟨_, rfl⟩
  obtain ⟨H, hH⟩ : ∃ H, arHi op = H := ⟨_, rfl⟩
  rw [hL, hH]
  have HL := Lib.hid hL
  have HH := Lib.hid hH
  have hC := (specOpText_any op w)
  obtain ⟨z, hz⟩ : ∃ z, (⟨(opT op).toArray⟩ : ByteArray) = z := ⟨_, rfl⟩
  rw [hz] at hC
  have HC := Lib.hid hC
  clear hL hH hC
  by_cases hz0 : opT op = []
  · rw [hz0] at hz
    have hl : L = 0 := by rw [← HL.out, arLo, if_pos hz0]
    have hh : H = -1 := by rw [← HH.out, arHi, if_pos hz0]
    subst hl hh
    subst hz
    go_enter Tryd.func66, Tryd.ntmps66
    go_wp2_with fail
    refine HC.out.mono ?_
    rintro e w1 ⟨rfl, hb1⟩
    go_wp2_with fail
    go_ret2
    exact ⟨rfl, hb1⟩
  have v1 : (z.toList == []) = false := by
    rw [beq_eq_false_iff_ne]
    intro h
    apply hz0
    have h2 := ByteArray.toList_eq z
    rw [h, ← hz] at h2
    exact h2.symm
  have HZ0 := Lib.hid hz0
  clear hz hz0
  go_enter Tryd.func66, Tryd.ntmps66
  go_wp2_with fail
  refine HC.out.mono ?_
  rintro e w1 ⟨rfl, hb1⟩
  clear HC
  have hi : (op ≤ 11) ∨ (12 ≤ op ∧ op ≤ 70) ∨ (71 ≤ op ∧ op ≤ 71) ∨ (72 ≤ op ∧ op ≤ 72) ∨ (73 ≤ op ∧ op ≤ 73) ∨ (74 ≤ op ∧ op ≤ 74) ∨ (75 ≤ op ∧ op ≤ 80) ∨ (81 ≤ op ∧ op ≤ 81) ∨ (82 ≤ op) := by omega
  rcases hi with hi | hi | hi | hi | hi | hi | hi | hi | hi
  · skip
    have : decide (op ≤ (11 : Int)) = true := decide_eq_true (by omega)
    have : (op == (81 : Int)) = false := by rw [beq_eq_false_iff_ne]; omega
    have : (op == (71 : Int)) = false := by rw [beq_eq_false_iff_ne]; omega
    have : (op == (72 : Int)) = false := by rw [beq_eq_false_iff_ne]; omega
    have : (op == (73 : Int)) = false := by rw [beq_eq_false_iff_ne]; omega
    have : (op == (74 : Int)) = false := by rw [beq_eq_false_iff_ne]; omega
    have hl : L = 1 := by rw [← HL.out, arLo, if_neg HZ0.out]; rw [if_pos (by omega)]
    have hh : H = 1 := by rw [← HH.out, arHi, if_neg HZ0.out]; rw [if_pos (by omega)]
    subst hl hh
    go_wp2_with fail
    go_ret2
    exact ⟨rfl, hb1⟩
  · skip
    have : decide (op ≤ (11 : Int)) = false := decide_eq_false (by omega)
    have : (op == (81 : Int)) = false := by rw [beq_eq_false_iff_ne]; omega
    have : (op == (71 : Int)) = false := by rw [beq_eq_false_iff_ne]; omega
    have : (op == (72 : Int)) = false := by rw [beq_eq_false_iff_ne]; omega
    have : (op == (73 : Int)) = false := by rw [beq_eq_false_iff_ne]; omega
    have : (op == (74 : Int)) = false := by rw [beq_eq_false_iff_ne]; omega
    have hl : L = 2 := by rw [← HL.out, arLo, if_neg HZ0.out]; rw [if_neg (by omega), if_neg (by omega), if_neg (by omega)]
    have hh : H = 2 := by rw [← HH.out, arHi, if_neg HZ0.out]; rw [if_neg (by omega), if_neg (by omega), if_neg (by omega)]
    subst hl hh
    go_wp2_with fail
    go_ret2
    exact ⟨rfl, hb1⟩
  · skip
    have : decide (op ≤ (11 : Int)) = false := decide_eq_false (by omega)
    have : (op == (81 : Int)) = false := by rw [beq_eq_false_iff_ne]; omega
    have : (op == (71 : Int)) = true := by rw [beq_iff_eq]; omega
    have : (op == (72 : Int)) = false := by rw [beq_eq_false_iff_ne]; omega
    have : (op == (73 : Int)) = false := by rw [beq_eq_false_iff_ne]; omega
    have : (op == (74 : Int)) = false := by rw [beq_eq_false_iff_ne]; omega
    have hl : L = 3 := by rw [← HL.out, arLo, if_neg HZ0.out]; rw [if_neg (by omega), if_pos (by omega)]
    have hh : H = 3 := by rw [← HH.out, arHi, if_neg HZ0.out]; rw [if_neg (by omega), if_pos (by omega)]
    subst hl hh
    go_wp2_with fail
    go_ret2
    exact ⟨rfl, hb1⟩
  · skip
    have : decide (op ≤ (11 : Int)) = false := decide_eq_false (by omega)
    have : (op == (81 : Int)) = false := by rw [beq_eq_false_iff_ne]; omega
    have : (op == (71 : Int)) = false := by rw [beq_eq_false_iff_ne]; omega
    have : (op == (72 : Int)) = true := by rw [beq_iff_eq]; omega
    have : (op == (73 : Int)) = false := by rw [beq_eq_false_iff_ne]; omega
    have : (op == (74 : Int)) = false := by rw [beq_eq_false_iff_ne]; omega
    have hl : L = 3 := by rw [← HL.out, arLo, if_neg HZ0.out]; rw [if_neg (by omega), if_pos (by omega)]
    have hh : H = 3 := by rw [← HH.out, arHi, if_neg HZ0.out]; rw [if_neg (by omega), if_pos (by omega)]
    subst hl hh
    go_wp2_with fail
    go_ret2
    exact ⟨rfl, hb1⟩
  · skip
    have : decide (op ≤ (11 : Int)) = false := decide_eq_false (by omega)
    have : (op == (81 : Int)) = false := by rw [beq_eq_false_iff_ne]; omega
    have : (op == (71 : Int)) = false := by rw [beq_eq_false_iff_ne]; omega
    have : (op == (72 : Int)) = false := by rw [beq_eq_false_iff_ne]; omega
    have : (op == (73 : Int)) = true := by rw [beq_iff_eq]; omega
    have : (op == (74 : Int)) = false := by rw [beq_eq_false_iff_ne]; omega
    have hl : L = 2 := by rw [← HL.out, arLo, if_neg HZ0.out]; rw [if_neg (by omega), if_neg (by omega), if_neg (by omega)]
    have hh : H = 8 := by rw [← HH.out, arHi, if_neg HZ0.out]; rw [if_neg (by omega), if_neg (by omega), if_pos (by omega)]
    subst hl hh
    go_wp2_with fail
    go_ret2
    exact ⟨rfl, hb1⟩
  · skip
    have : decide (op ≤ (11 : Int)) = false := decide_eq_false (by omega)
    have : (op == (81 : Int)) = false := by rw [beq_eq_false_iff_ne]; omega
    have : (op == (71 : Int)) = false := by rw [beq_eq_false_iff_ne]; omega
    have : (op == (72 : Int)) = false := by rw [beq_eq_false_iff_ne]; omega
    have : (op == (73 : Int)) = false := by rw [beq_eq_false_iff_ne]; omega
    have : (op == (74 : Int)) = true := by rw [beq_iff_eq]; omega
    have hl : L = 0 := by rw [← HL.out, arLo, if_neg HZ0.out]; rw [if_neg (by omega), if_neg (by omega), if_pos (by omega)]
    have hh : H = 8 := by rw [← HH.out, arHi, if_neg HZ0.out]; rw [if_neg (by omega), if_neg (by omega), if_pos (by omega)]
    subst hl hh
    go_wp2_with fail
    go_ret2
    exact ⟨rfl, hb1⟩
  · skip
    have : decide (op ≤ (11 : Int)) = false := decide_eq_false (by omega)
    have : (op == (81 : Int)) = false := by rw [beq_eq_false_iff_ne]; omega
    have : (op == (71 : Int)) = false := by rw [beq_eq_false_iff_ne]; omega
    have : (op == (72 : Int)) = false := by rw [beq_eq_false_iff_ne]; omega
    have : (op == (73 : Int)) = false := by rw [beq_eq_false_iff_ne]; omega
    have : (op == (74 : Int)) = false := by rw [beq_eq_false_iff_ne]; omega
    have hl : L = 2 := by rw [← HL.out, arLo, if_neg HZ0.out]; rw [if_neg (by omega), if_neg (by omega), if_neg (by omega)]
    have hh : H = 2 := by rw [← HH.out, arHi, if_neg HZ0.out]; rw [if_neg (by omega), if_neg (by omega), if_neg (by omega)]
    subst hl hh
    go_wp2_with fail
    go_ret2
    exact ⟨rfl, hb1⟩
  · skip
    have : decide (op ≤ (11 : Int)) = false := decide_eq_false (by omega)
    have : (op == (81 : Int)) = true := by rw [beq_iff_eq]; omega
    have : (op == (71 : Int)) = false := by rw [beq_eq_false_iff_ne]; omega
    have : (op == (72 : Int)) = false := by rw [beq_eq_false_iff_ne]; omega
    have : (op == (73 : Int)) = false := by rw [beq_eq_false_iff_ne]; omega
    have : (op == (74 : Int)) = false := by rw [beq_eq_false_iff_ne]; omega
    have hl : L = 1 := by rw [← HL.out, arLo, if_neg HZ0.out]; rw [if_pos (by omega)]
    have hh : H = 1 := by rw [← HH.out, arHi, if_neg HZ0.out]; rw [if_pos (by omega)]
    subst hl hh
    go_wp2_with fail
    go_ret2
    exact ⟨rfl, hb1⟩
  · skip
    have : decide (op ≤ (11 : Int)) = false := decide_eq_false (by omega)
    have : (op == (81 : Int)) = false := by rw [beq_eq_false_iff_ne]; omega
    have : (op == (71 : Int)) = false := by rw [beq_eq_false_iff_ne]; omega
    have : (op == (72 : Int)) = false := by rw [beq_eq_false_iff_ne]; omega
    have : (op == (73 : Int)) = false := by rw [beq_eq_false_iff_ne]; omega
    have : (op == (74 : Int)) = false := by rw [beq_eq_false_iff_ne]; omega
    have hl : L = 2 := by rw [← HL.out, arLo, if_neg HZ0.out]; rw [if_neg (by omega), if_neg (by omega), if_neg (by omega)]
    have hh : H = 2 := by rw [← HH.out, arHi, if_neg HZ0.out]; rw [if_neg (by omega), if_neg (by omega), if_neg (by omega)]
    subst hl hh
    go_wp2_with fail
    go_ret2
    exact ⟨rfl, hb1⟩
end Go.Proofs.YtopaeiogbijppaaDoor
