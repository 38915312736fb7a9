/- impl.OperatorText. Printed by gen_ops.py. -/
import Derived.Test.YtopaeiogbijppaaDoorOpTab
namespace Go.Proofs.YtopaeiogbijppaaDoor
open Go.RowKit

set_option maxRecDepth 100000 in
set_option maxHeartbeats 4000000 in
theorem implOpText_base (op : Int) (w : World) (hi : (op ≤ 0) ∨ (1 ≤ op ∧ op ≤ 11) ∨ (12 ≤ op ∧ op ≤ 19) ∨ (20 ≤ op ∧ op ≤ 25) ∨ (26 ≤ op ∧ op ≤ 29) ∨ (30 ≤ op ∧ op ≤ 35) ∨ (36 ≤ op ∧ op ≤ 39) ∨ (40 ≤ op ∧ op ≤ 47) ∨ (48 ≤ op ∧ op ≤ 49) ∨ (50 ≤ op ∧ op ≤ 54) ∨ (55 ≤ op ∧ op ≤ 59) ∨ (60 ≤ op ∧ op ≤ 63) ∨ (64 ≤ op ∧ op ≤ 69) ∨ (70 ≤ op ∧ op ≤ 79) ∨ (80 ≤ op ∧ op ≤ 80) ∨ (81 ≤ op ∧ op ≤ 81) ∨ (82 ≤ op ∧ op ≤ 219) ∨ (226 ≤ op ∧ op ≤ 249) ∨ (255 ≤ op)) (ht : Spc w) : Calls Tryd.prog 97 #[.int .i64 op] w fun e w' => e = .returned (.string ⟨(opT op).toArray⟩) ∧ Below w.heap.size w w' := by
  obtain ⟨R, hR⟩ : ∃ R, (⟨(opT op).toArray⟩ : ByteArray) = R := ⟨_, rfl⟩
  rw [hR]
  have HR := Lib.hid hR
  have HT := Lib.hid ht
  clear hR ht
  rcases hi with hi | hi | hi | hi | hi | hi | hi | hi | hi | hi | hi | hi | hi | hi | hi | hi | hi | hi | hi
  · skip
    have : decide ((1 : Int) ≤ op) = false := decide_eq_false (by omega)
    have : decide ((20 : Int) ≤ op) = false := decide_eq_false (by omega)
    have : decide ((30 : Int) ≤ op) = false := decide_eq_false (by omega)
    have : decide ((40 : Int) ≤ op) = false := decide_eq_false (by omega)
    have : decide ((50 : Int) ≤ op) = false := decide_eq_false (by omega)
    have : decide ((60 : Int) ≤ op) = false := decide_eq_false (by omega)
    have : decide ((70 : Int) ≤ op) = false := decide_eq_false (by omega)
    have : decide ((220 : Int) ≤ op) = false := decide_eq_false (by omega)
    have : decide ((250 : Int) ≤ op) = false := decide_eq_false (by omega)
    have : decide (op ≤ (11 : Int)) = true := decide_eq_true (by omega)
    have : decide (op ≤ (25 : Int)) = true := decide_eq_true (by omega)
    have : decide (op ≤ (35 : Int)) = true := decide_eq_true (by omega)
    have : decide (op ≤ (47 : Int)) = true := decide_eq_true (by omega)
    have : decide (op ≤ (54 : Int)) = true := decide_eq_true (by omega)
    have : decide (op ≤ (63 : Int)) = true := decide_eq_true (by omega)
    have : decide (op ≤ (79 : Int)) = true := decide_eq_true (by omega)
    have : decide (op ≤ (225 : Int)) = true := decide_eq_true (by omega)
    have : decide (op ≤ (254 : Int)) = true := decide_eq_true (by omega)
    have : (op == (81 : Int)) = false := by rw [beq_eq_false_iff_ne]; omega
    have hR0 : R = ⟨#[]⟩ := by rw [← HR.out, opT_no (by omega)]
    subst hR0
    go_enter Tryd.func97, Tryd.ntmps97
    go_wp2_with fail
    go_ret
    exact ⟨rfl, Below.refl _ _⟩
  · skip
    have : decide ((1 : Int) ≤ op) = true := decide_eq_true (by omega)
    have : decide ((20 : Int) ≤ op) = false := decide_eq_false (by omega)
    have : decide ((30 : Int) ≤ op) = false := decide_eq_false (by omega)
    have : decide ((40 : Int) ≤ op) = false := decide_eq_false (by omega)
    have : decide ((50 : Int) ≤ op) = false := decide_eq_false (by omega)
    have : decide ((60 : Int) ≤ op) = false := decide_eq_false (by omega)
    have : decide ((70 : Int) ≤ op) = false := decide_eq_false (by omega)
    have : decide ((220 : Int) ≤ op) = false := decide_eq_false (by omega)
    have : decide ((250 : Int) ≤ op) = false := decide_eq_false (by omega)
    have : decide (op ≤ (11 : Int)) = true := decide_eq_true (by omega)
    have : decide (op ≤ (25 : Int)) = true := decide_eq_true (by omega)
    have : decide (op ≤ (35 : Int)) = true := decide_eq_true (by omega)
    have : decide (op ≤ (47 : Int)) = true := decide_eq_true (by omega)
    have : decide (op ≤ (54 : Int)) = true := decide_eq_true (by omega)
    have : decide (op ≤ (63 : Int)) = true := decide_eq_true (by omega)
    have : decide (op ≤ (79 : Int)) = true := decide_eq_true (by omega)
    have : decide (op ≤ (225 : Int)) = true := decide_eq_true (by omega)
    have : decide (op ≤ (254 : Int)) = true := decide_eq_true (by omega)
    have : (op == (81 : Int)) = false := by rw [beq_eq_false_iff_ne]; omega
    obtain ⟨k, hk⟩ : ∃ k : Nat, op - 1 = (k : Int) := ⟨(op - 1).toNat, by omega⟩
    have hk1 : k < 11 := by omega
    have hk2 : (k : Int) < 11 := by omega
    have hR0 : R = ⟨(wOp1.getD k []).toArray⟩ := by rw [← HR.out, opT_1 hk hk1]
    have e0 := cell_txts w wOp1 k hk1
    rw [← hR0] at e0
    obtain ⟨w1, hw1⟩ : ∃ w1, w.alloc (rowObj' wOp1) = w1 := ⟨_, rfl⟩
    have HW := Lib.hid hw1
    rw [hw1] at e0
    have HB := Lib.hid (show Below w.heap.size w w1 by rw [← hw1]; exact (Below.refl _ _).alloc (Nat.le_refl _) _)
    clear hw1 hR0 HR
    go_enter Tryd.func97, Tryd.ntmps97
    go_wp2_with fail
    refine (fieldsOp1 w HT.out).mono ?_
    rintro e w' ⟨rfl, hw'⟩
    rw [HW.out] at hw'
    subst hw'
    go_wp2_with fail
    go_ret
    exact ⟨rfl, HB.out⟩
  · skip
    have : decide ((1 : Int) ≤ op) = true := decide_eq_true (by omega)
    have : decide ((20 : Int) ≤ op) = false := decide_eq_false (by omega)
    have : decide ((30 : Int) ≤ op) = false := decide_eq_false (by omega)
    have : decide ((40 : Int) ≤ op) = false := decide_eq_false (by omega)
    have : decide ((50 : Int) ≤ op) = false := decide_eq_false (by omega)
    have : decide ((60 : Int) ≤ op) = false := decide_eq_false (by omega)
    have : decide ((70 : Int) ≤ op) = false := decide_eq_false (by omega)
    have : decide ((220 : Int) ≤ op) = false := decide_eq_false (by omega)
    have : decide ((250 : Int) ≤ op) = false := decide_eq_false (by omega)
    have : decide (op ≤ (11 : Int)) = false := decide_eq_false (by omega)
    have : decide (op ≤ (25 : Int)) = true := decide_eq_true (by omega)
    have : decide (op ≤ (35 : Int)) = true := decide_eq_true (by omega)
    have : decide (op ≤ (47 : Int)) = true := decide_eq_true (by omega)
    have : decide (op ≤ (54 : Int)) = true := decide_eq_true (by omega)
    have : decide (op ≤ (63 : Int)) = true := decide_eq_true (by omega)
    have : decide (op ≤ (79 : Int)) = true := decide_eq_true (by omega)
    have : decide (op ≤ (225 : Int)) = true := decide_eq_true (by omega)
    have : decide (op ≤ (254 : Int)) = true := decide_eq_true (by omega)
    have : (op == (81 : Int)) = false := by rw [beq_eq_false_iff_ne]; omega
    have hR0 : R = ⟨#[]⟩ := by rw [← HR.out, opT_no (by omega)]
    subst hR0
    go_enter Tryd.func97, Tryd.ntmps97
    go_wp2_with fail
    go_ret
    exact ⟨rfl, Below.refl _ _⟩
  · skip
    have : decide ((1 : Int) ≤ op) = true := decide_eq_true (by omega)
    have : decide ((20 : Int) ≤ op) = true := decide_eq_true (by omega)
    have : decide ((30 : Int) ≤ op) = false := decide_eq_false (by omega)
    have : decide ((40 : Int) ≤ op) = false := decide_eq_false (by omega)
    have : decide ((50 : Int) ≤ op) = false := decide_eq_false (by omega)
    have : decide ((60 : Int) ≤ op) = false := decide_eq_false (by omega)
    have : decide ((70 : Int) ≤ op) = false := decide_eq_false (by omega)
    have : decide ((220 : Int) ≤ op) = false := decide_eq_false (by omega)
    have : decide ((250 : Int) ≤ op) = false := decide_eq_false (by omega)
    have : decide (op ≤ (11 : Int)) = false := decide_eq_false (by omega)
    have : decide (op ≤ (25 : Int)) = true := decide_eq_true (by omega)
    have : decide (op ≤ (35 : Int)) = true := decide_eq_true (by omega)
    have : decide (op ≤ (47 : Int)) = true := decide_eq_true (by omega)
    have : decide (op ≤ (54 : Int)) = true := decide_eq_true (by omega)
    have : decide (op ≤ (63 : Int)) = true := decide_eq_true (by omega)
    have : decide (op ≤ (79 : Int)) = true := decide_eq_true (by omega)
    have : decide (op ≤ (225 : Int)) = true := decide_eq_true (by omega)
    have : decide (op ≤ (254 : Int)) = true := decide_eq_true (by omega)
    have : (op == (81 : Int)) = false := by rw [beq_eq_false_iff_ne]; omega
    obtain ⟨k, hk⟩ : ∃ k : Nat, op - 20 = (k : Int) := ⟨(op - 20).toNat, by omega⟩
    have hk1 : k < 6 := by omega
    have hk2 : (k : Int) < 6 := by omega
    have hR0 : R = ⟨(wOp20.getD k []).toArray⟩ := by rw [← HR.out, opT_20 hk hk1]
    have e0 := cell_txts w wOp20 k hk1
    rw [← hR0] at e0
    obtain ⟨w1, hw1⟩ : ∃ w1, w.alloc (rowObj' wOp20) = w1 := ⟨_, rfl⟩
    have HW := Lib.hid hw1
    rw [hw1] at e0
    have HB := Lib.hid (show Below w.heap.size w w1 by rw [← hw1]; exact (Below.refl _ _).alloc (Nat.le_refl _) _)
    clear hw1 hR0 HR
    go_enter Tryd.func97, Tryd.ntmps97
    go_wp2_with fail
    refine (fieldsOp20 w HT.out).mono ?_
    rintro e w' ⟨rfl, hw'⟩
    rw [HW.out] at hw'
    subst hw'
    go_wp2_with fail
    go_ret
    exact ⟨rfl, HB.out⟩
  · skip
    have : decide ((1 : Int) ≤ op) = true := decide_eq_true (by omega)
    have : decide ((20 : Int) ≤ op) = true := decide_eq_true (by omega)
    have : decide ((30 : Int) ≤ op) = false := decide_eq_false (by omega)
    have : decide ((40 : Int) ≤ op) = false := decide_eq_false (by omega)
    have : decide ((50 : Int) ≤ op) = false := decide_eq_false (by omega)
    have : decide ((60 : Int) ≤ op) = false := decide_eq_false (by omega)
    have : decide ((70 : Int) ≤ op) = false := decide_eq_false (by omega)
    have : decide ((220 : Int) ≤ op) = false := decide_eq_false (by omega)
    have : decide ((250 : Int) ≤ op) = false := decide_eq_false (by omega)
    have : decide (op ≤ (11 : Int)) = false := decide_eq_false (by omega)
    have : decide (op ≤ (25 : Int)) = false := decide_eq_false (by omega)
    have : decide (op ≤ (35 : Int)) = true := decide_eq_true (by omega)
    have : decide (op ≤ (47 : Int)) = true := decide_eq_true (by omega)
    have : decide (op ≤ (54 : Int)) = true := decide_eq_true (by omega)
    have : decide (op ≤ (63 : Int)) = true := decide_eq_true (by omega)
    have : decide (op ≤ (79 : Int)) = true := decide_eq_true (by omega)
    have : decide (op ≤ (225 : Int)) = true := decide_eq_true (by omega)
    have : decide (op ≤ (254 : Int)) = true := decide_eq_true (by omega)
    have : (op == (81 : Int)) = false := by rw [beq_eq_false_iff_ne]; omega
    have hR0 : R = ⟨#[]⟩ := by rw [← HR.out, opT_no (by omega)]
    subst hR0
    go_enter Tryd.func97, Tryd.ntmps97
    go_wp2_with fail
    go_ret
    exact ⟨rfl, Below.refl _ _⟩
  · skip
    have : decide ((1 : Int) ≤ op) = true := decide_eq_true (by omega)
    have : decide ((20 : Int) ≤ op) = true := decide_eq_true (by omega)
    have : decide ((30 : Int) ≤ op) = true := decide_eq_true (by omega)
    have : decide ((40 : Int) ≤ op) = false := decide_eq_false (by omega)
    have : decide ((50 : Int) ≤ op) = false := decide_eq_false (by omega)
    have : decide ((60 : Int) ≤ op) = false := decide_eq_false (by omega)
    have : decide ((70 : Int) ≤ op) = false := decide_eq_false (by omega)
    have : decide ((220 : Int) ≤ op) = false := decide_eq_false (by omega)
    have : decide ((250 : Int) ≤ op) = false := decide_eq_false (by omega)
    have : decide (op ≤ (11 : Int)) = false := decide_eq_false (by omega)
    have : decide (op ≤ (25 : Int)) = false := decide_eq_false (by omega)
    have : decide (op ≤ (35 : Int)) = true := decide_eq_true (by omega)
    have : decide (op ≤ (47 : Int)) = true := decide_eq_true (by omega)
    have : decide (op ≤ (54 : Int)) = true := decide_eq_true (by omega)
    have : decide (op ≤ (63 : Int)) = true := decide_eq_true (by omega)
    have : decide (op ≤ (79 : Int)) = true := decide_eq_true (by omega)
    have : decide (op ≤ (225 : Int)) = true := decide_eq_true (by omega)
    have : decide (op ≤ (254 : Int)) = true := decide_eq_true (by omega)
    have : (op == (81 : Int)) = false := by rw [beq_eq_false_iff_ne]; omega
    obtain ⟨k, hk⟩ : ∃ k : Nat, op - 30 = (k : Int) := ⟨(op - 30).toNat, by omega⟩
    have hk1 : k < 6 := by omega
    have hk2 : (k : Int) < 6 := by omega
    have hR0 : R = ⟨(wOp30.getD k []).toArray⟩ := by rw [← HR.out, opT_30 hk hk1]
    have e0 := cell_txts w wOp30 k hk1
    rw [← hR0] at e0
    obtain ⟨w1, hw1⟩ : ∃ w1, w.alloc (rowObj' wOp30) = w1 := ⟨_, rfl⟩
    have HW := Lib.hid hw1
    rw [hw1] at e0
    have HB := Lib.hid (show Below w.heap.size w w1 by rw [← hw1]; exact (Below.refl _ _).alloc (Nat.le_refl _) _)
    clear hw1 hR0 HR
    go_enter Tryd.func97, Tryd.ntmps97
    go_wp2_with fail
    refine (fieldsOp30 w HT.out).mono ?_
    rintro e w' ⟨rfl, hw'⟩
    rw [HW.out] at hw'
    subst hw'
    go_wp2_with fail
    go_ret
    exact ⟨rfl, HB.out⟩
  · skip
    have : decide ((1 : Int) ≤ op) = true := decide_eq_true (by omega)
    have : decide ((20 : Int) ≤ op) = true := decide_eq_true (by omega)
    have : decide ((30 : Int) ≤ op) = true := decide_eq_true (by omega)
    have : decide ((40 : Int) ≤ op) = false := decide_eq_false (by omega)
    have : decide ((50 : Int) ≤ op) = false := decide_eq_false (by omega)
    have : decide ((60 : Int) ≤ op) = false := decide_eq_false (by omega)
    have : decide ((70 : Int) ≤ op) = false := decide_eq_false (by omega)
    have : decide ((220 : Int) ≤ op) = false := decide_eq_false (by omega)
    have : decide ((250 : Int) ≤ op) = false := decide_eq_false (by omega)
    have : decide (op ≤ (11 : Int)) = false := decide_eq_false (by omega)
    have : decide (op ≤ (25 : Int)) = false := decide_eq_false (by omega)
    have : decide (op ≤ (35 : Int)) = false := decide_eq_false (by omega)
    have : decide (op ≤ (47 : Int)) = true := decide_eq_true (by omega)
    have : decide (op ≤ (54 : Int)) = true := decide_eq_true (by omega)
    have : decide (op ≤ (63 : Int)) = true := decide_eq_true (by omega)
    have : decide (op ≤ (79 : Int)) = true := decide_eq_true (by omega)
    have : decide (op ≤ (225 : Int)) = true := decide_eq_true (by omega)
    have : decide (op ≤ (254 : Int)) = true := decide_eq_true (by omega)
    have : (op == (81 : Int)) = false := by rw [beq_eq_false_iff_ne]; omega
    have hR0 : R = ⟨#[]⟩ := by rw [← HR.out, opT_no (by omega)]
    subst hR0
    go_enter Tryd.func97, Tryd.ntmps97
    go_wp2_with fail
    go_ret
    exact ⟨rfl, Below.refl _ _⟩
  · skip
    have : decide ((1 : Int) ≤ op) = true := decide_eq_true (by omega)
    have : decide ((20 : Int) ≤ op) = true := decide_eq_true (by omega)
    have : decide ((30 : Int) ≤ op) = true := decide_eq_true (by omega)
    have : decide ((40 : Int) ≤ op) = true := decide_eq_true (by omega)
    have : decide ((50 : Int) ≤ op) = false := decide_eq_false (by omega)
    have : decide ((60 : Int) ≤ op) = false := decide_eq_false (by omega)
    have : decide ((70 : Int) ≤ op) = false := decide_eq_false (by omega)
    have : decide ((220 : Int) ≤ op) = false := decide_eq_false (by omega)
    have : decide ((250 : Int) ≤ op) = false := decide_eq_false (by omega)
    have : decide (op ≤ (11 : Int)) = false := decide_eq_false (by omega)
    have : decide (op ≤ (25 : Int)) = false := decide_eq_false (by omega)
    have : decide (op ≤ (35 : Int)) = false := decide_eq_false (by omega)
    have : decide (op ≤ (47 : Int)) = true := decide_eq_true (by omega)
    have : decide (op ≤ (54 : Int)) = true := decide_eq_true (by omega)
    have : decide (op ≤ (63 : Int)) = true := decide_eq_true (by omega)
    have : decide (op ≤ (79 : Int)) = true := decide_eq_true (by omega)
    have : decide (op ≤ (225 : Int)) = true := decide_eq_true (by omega)
    have : decide (op ≤ (254 : Int)) = true := decide_eq_true (by omega)
    have : (op == (81 : Int)) = false := by rw [beq_eq_false_iff_ne]; omega
    obtain ⟨k, hk⟩ : ∃ k : Nat, op - 40 = (k : Int) := ⟨(op - 40).toNat, by omega⟩
    have hk1 : k < 8 := by omega
    have hk2 : (k : Int) < 8 := by omega
    have hR0 : R = ⟨(wOp40.getD k []).toArray⟩ := by rw [← HR.out, opT_40 hk hk1]
    have e0 := cell_txts w wOp40 k hk1
    rw [← hR0] at e0
    obtain ⟨w1, hw1⟩ : ∃ w1, w.alloc (rowObj' wOp40) = w1 := ⟨_, rfl⟩
    have HW := Lib.hid hw1
    rw [hw1] at e0
    have HB := Lib.hid (show Below w.heap.size w w1 by rw [← hw1]; exact (Below.refl _ _).alloc (Nat.le_refl _) _)
    clear hw1 hR0 HR
    go_enter Tryd.func97, Tryd.ntmps97
    go_wp2_with fail
    refine (fieldsOp40 w HT.out).mono ?_
    rintro e w' ⟨rfl, hw'⟩
    rw [HW.out] at hw'
    subst hw'
    go_wp2_with fail
    go_ret
    exact ⟨rfl, HB.out⟩
  · skip
    have : decide ((1 : Int) ≤ op) = true := decide_eq_true (by omega)
    have : decide ((20 : Int) ≤ op) = true := decide_eq_true (by omega)
    have : decide ((30 : Int) ≤ op) = true := decide_eq_true (by omega)
    have : decide ((40 : Int) ≤ op) = true := decide_eq_true (by omega)
    have : decide ((50 : Int) ≤ op) = false := decide_eq_false (by omega)
    have : decide ((60 : Int) ≤ op) = false := decide_eq_false (by omega)
    have : decide ((70 : Int) ≤ op) = false := decide_eq_false (by omega)
    have : decide ((220 : Int) ≤ op) = false := decide_eq_false (by omega)
    have : decide ((250 : Int) ≤ op) = false := decide_eq_false (by omega)
    have : decide (op ≤ (11 : Int)) = false := decide_eq_false (by omega)
    have : decide (op ≤ (25 : Int)) = false := decide_eq_false (by omega)
    have : decide (op ≤ (35 : Int)) = false := decide_eq_false (by omega)
    have : decide (op ≤ (47 : Int)) = false := decide_eq_false (by omega)
    have : decide (op ≤ (54 : Int)) = true := decide_eq_true (by omega)
    have : decide (op ≤ (63 : Int)) = true := decide_eq_true (by omega)
    have : decide (op ≤ (79 : Int)) = true := decide_eq_true (by omega)
    have : decide (op ≤ (225 : Int)) = true := decide_eq_true (by omega)
    have : decide (op ≤ (254 : Int)) = true := decide_eq_true (by omega)
    have : (op == (81 : Int)) = false := by rw [beq_eq_false_iff_ne]; omega
    have hR0 : R = ⟨#[]⟩ := by rw [← HR.out, opT_no (by omega)]
    subst hR0
    go_enter Tryd.func97, Tryd.ntmps97
    go_wp2_with fail
    go_ret
    exact ⟨rfl, Below.refl _ _⟩
  · skip
    have : decide ((1 : Int) ≤ op) = true := decide_eq_true (by omega)
    have : decide ((20 : Int) ≤ op) = true := decide_eq_true (by omega)
    have : decide ((30 : Int) ≤ op) = true := decide_eq_true (by omega)
    have : decide ((40 : Int) ≤ op) = true := decide_eq_true (by omega)
    have : decide ((50 : Int) ≤ op) = true := decide_eq_true (by omega)
    have : decide ((60 : Int) ≤ op) = false := decide_eq_false (by omega)
    have : decide ((70 : Int) ≤ op) = false := decide_eq_false (by omega)
    have : decide ((220 : Int) ≤ op) = false := decide_eq_false (by omega)
    have : decide ((250 : Int) ≤ op) = false := decide_eq_false (by omega)
    have : decide (op ≤ (11 : Int)) = false := decide_eq_false (by omega)
    have : decide (op ≤ (25 : Int)) = false := decide_eq_false (by omega)
    have : decide (op ≤ (35 : Int)) = false := decide_eq_false (by omega)
    have : decide (op ≤ (47 : Int)) = false := decide_eq_false (by omega)
    have : decide (op ≤ (54 : Int)) = true := decide_eq_true (by omega)
    have : decide (op ≤ (63 : Int)) = true := decide_eq_true (by omega)
    have : decide (op ≤ (79 : Int)) = true := decide_eq_true (by omega)
    have : decide (op ≤ (225 : Int)) = true := decide_eq_true (by omega)
    have : decide (op ≤ (254 : Int)) = true := decide_eq_true (by omega)
    have : (op == (81 : Int)) = false := by rw [beq_eq_false_iff_ne]; omega
    obtain ⟨k, hk⟩ : ∃ k : Nat, op - 50 = (k : Int) := ⟨(op - 50).toNat, by omega⟩
    have hk1 : k < 5 := by omega
    have hk2 : (k : Int) < 5 := by omega
    have hR0 : R = ⟨(wOp50.getD k []).toArray⟩ := by rw [← HR.out, opT_50 hk hk1]
    have e0 := cell_txts w wOp50 k hk1
    rw [← hR0] at e0
    obtain ⟨w1, hw1⟩ : ∃ w1, w.alloc (rowObj' wOp50) = w1 := ⟨_, rfl⟩
    have HW := Lib.hid hw1
    rw [hw1] at e0
    have HB := Lib.hid (show Below w.heap.size w w1 by rw [← hw1]; exact (Below.refl _ _).alloc (Nat.le_refl _) _)
    clear hw1 hR0 HR
    go_enter Tryd.func97, Tryd.ntmps97
    go_wp2_with fail
    refine (fieldsOp50 w HT.out).mono ?_
    rintro e w' ⟨rfl, hw'⟩
    rw [HW.out] at hw'
    subst hw'
    go_wp2_with fail
    go_ret
    exact ⟨rfl, HB.out⟩
  · skip
    have : decide ((1 : Int) ≤ op) = true := decide_eq_true (by omega)
    have : decide ((20 : Int) ≤ op) = true := decide_eq_true (by omega)
    have : decide ((30 : Int) ≤ op) = true := decide_eq_true (by omega)
    have : decide ((40 : Int) ≤ op) = true := decide_eq_true (by omega)
    have : decide ((50 : Int) ≤ op) = true := decide_eq_true (by omega)
    have : decide ((60 : Int) ≤ op) = false := decide_eq_false (by omega)
    have : decide ((70 : Int) ≤ op) = false := decide_eq_false (by omega)
    have : decide ((220 : Int) ≤ op) = false := decide_eq_false (by omega)
    have : decide ((250 : Int) ≤ op) = false := decide_eq_false (by omega)
    have : decide (op ≤ (11 : Int)) = false := decide_eq_false (by omega)
    have : decide (op ≤ (25 : Int)) = false := decide_eq_false (by omega)
    have : decide (op ≤ (35 : Int)) = false := decide_eq_false (by omega)
    have : decide (op ≤ (47 : Int)) = false := decide_eq_false (by omega)
    have : decide (op ≤ (54 : Int)) = false := decide_eq_false (by omega)
    have : decide (op ≤ (63 : Int)) = true := decide_eq_true (by omega)
    have : decide (op ≤ (79 : Int)) = true := decide_eq_true (by omega)
    have : decide (op ≤ (225 : Int)) = true := decide_eq_true (by omega)
    have : decide (op ≤ (254 : Int)) = true := decide_eq_true (by omega)
    have : (op == (81 : Int)) = false := by rw [beq_eq_false_iff_ne]; omega
    have hR0 : R = ⟨#[]⟩ := by rw [← HR.out, opT_no (by omega)]
    subst hR0
    go_enter Tryd.func97, Tryd.ntmps97
    go_wp2_with fail
    go_ret
    exact ⟨rfl, Below.refl _ _⟩
  · skip
    have : decide ((1 : Int) ≤ op) = true := decide_eq_true (by omega)
    have : decide ((20 : Int) ≤ op) = true := decide_eq_true (by omega)
    have : decide ((30 : Int) ≤ op) = true := decide_eq_true (by omega)
    have : decide ((40 : Int) ≤ op) = true := decide_eq_true (by omega)
    have : decide ((50 : Int) ≤ op) = true := decide_eq_true (by omega)
    have : decide ((60 : Int) ≤ op) = true := decide_eq_true (by omega)
    have : decide ((70 : Int) ≤ op) = false := decide_eq_false (by omega)
    have : decide ((220 : Int) ≤ op) = false := decide_eq_false (by omega)
    have : decide ((250 : Int) ≤ op) = false := decide_eq_false (by omega)
    have : decide (op ≤ (11 : Int)) = false := decide_eq_false (by omega)
    have : decide (op ≤ (25 : Int)) = false := decide_eq_false (by omega)
    have : decide (op ≤ (35 : Int)) = false := decide_eq_false (by omega)
    have : decide (op ≤ (47 : Int)) = false := decide_eq_false (by omega)
    have : decide (op ≤ (54 : Int)) = false := decide_eq_false (by omega)
    have : decide (op ≤ (63 : Int)) = true := decide_eq_true (by omega)
    have : decide (op ≤ (79 : Int)) = true := decide_eq_true (by omega)
    have : decide (op ≤ (225 : Int)) = true := decide_eq_true (by omega)
    have : decide (op ≤ (254 : Int)) = true := decide_eq_true (by omega)
    have : (op == (81 : Int)) = false := by rw [beq_eq_false_iff_ne]; omega
    obtain ⟨k, hk⟩ : ∃ k : Nat, op - 60 = (k : Int) := ⟨(op - 60).toNat, by omega⟩
    have hk1 : k < 4 := by omega
    have hk2 : (k : Int) < 4 := by omega
    have hR0 : R = ⟨(wOp60.getD k []).toArray⟩ := by rw [← HR.out, opT_60 hk hk1]
    have e0 := cell_txts w wOp60 k hk1
    rw [← hR0] at e0
    obtain ⟨w1, hw1⟩ : ∃ w1, w.alloc (rowObj' wOp60) = w1 := ⟨_, rfl⟩
    have HW := Lib.hid hw1
    rw [hw1] at e0
    have HB := Lib.hid (show Below w.heap.size w w1 by rw [← hw1]; exact (Below.refl _ _).alloc (Nat.le_refl _) _)
    clear hw1 hR0 HR
    go_enter Tryd.func97, Tryd.ntmps97
    go_wp2_with fail
    refine (fieldsOp60 w HT.out).mono ?_
    rintro e w' ⟨rfl, hw'⟩
    rw [HW.out] at hw'
    subst hw'
    go_wp2_with fail
    go_ret
    exact ⟨rfl, HB.out⟩
  · skip
    have : decide ((1 : Int) ≤ op) = true := decide_eq_true (by omega)
    have : decide ((20 : Int) ≤ op) = true := decide_eq_true (by omega)
    have : decide ((30 : Int) ≤ op) = true := decide_eq_true (by omega)
    have : decide ((40 : Int) ≤ op) = true := decide_eq_true (by omega)
    have : decide ((50 : Int) ≤ op) = true := decide_eq_true (by omega)
    have : decide ((60 : Int) ≤ op) = true := decide_eq_true (by omega)
    have : decide ((70 : Int) ≤ op) = false := decide_eq_false (by omega)
    have : decide ((220 : Int) ≤ op) = false := decide_eq_false (by omega)
    have : decide ((250 : Int) ≤ op) = false := decide_eq_false (by omega)
    have : decide (op ≤ (11 : Int)) = false := decide_eq_false (by omega)
    have : decide (op ≤ (25 : Int)) = false := decide_eq_false (by omega)
    have : decide (op ≤ (35 : Int)) = false := decide_eq_false (by omega)
    have : decide (op ≤ (47 : Int)) = false := decide_eq_false (by omega)
    have : decide (op ≤ (54 : Int)) = false := decide_eq_false (by omega)
    have : decide (op ≤ (63 : Int)) = false := decide_eq_false (by omega)
    have : decide (op ≤ (79 : Int)) = true := decide_eq_true (by omega)
    have : decide (op ≤ (225 : Int)) = true := decide_eq_true (by omega)
    have : decide (op ≤ (254 : Int)) = true := decide_eq_true (by omega)
    have : (op == (81 : Int)) = false := by rw [beq_eq_false_iff_ne]; omega
    have hR0 : R = ⟨#[]⟩ := by rw [← HR.out, opT_no (by omega)]
    subst hR0
    go_enter Tryd.func97, Tryd.ntmps97
    go_wp2_with fail
    go_ret
    exact ⟨rfl, Below.refl _ _⟩
  · skip
    have : decide ((1 : Int) ≤ op) = true := decide_eq_true (by omega)
    have : decide ((20 : Int) ≤ op) = true := decide_eq_true (by omega)
    have : decide ((30 : Int) ≤ op) = true := decide_eq_true (by omega)
    have : decide ((40 : Int) ≤ op) = true := decide_eq_true (by omega)
    have : decide ((50 : Int) ≤ op) = true := decide_eq_true (by omega)
    have : decide ((60 : Int) ≤ op) = true := decide_eq_true (by omega)
    have : decide ((70 : Int) ≤ op) = true := decide_eq_true (by omega)
    have : decide ((220 : Int) ≤ op) = false := decide_eq_false (by omega)
    have : decide ((250 : Int) ≤ op) = false := decide_eq_false (by omega)
    have : decide (op ≤ (11 : Int)) = false := decide_eq_false (by omega)
    have : decide (op ≤ (25 : Int)) = false := decide_eq_false (by omega)
    have : decide (op ≤ (35 : Int)) = false := decide_eq_false (by omega)
    have : decide (op ≤ (47 : Int)) = false := decide_eq_false (by omega)
    have : decide (op ≤ (54 : Int)) = false := decide_eq_false (by omega)
    have : decide (op ≤ (63 : Int)) = false := decide_eq_false (by omega)
    have : decide (op ≤ (79 : Int)) = true := decide_eq_true (by omega)
    have : decide (op ≤ (225 : Int)) = true := decide_eq_true (by omega)
    have : decide (op ≤ (254 : Int)) = true := decide_eq_true (by omega)
    have : (op == (81 : Int)) = false := by rw [beq_eq_false_iff_ne]; omega
    obtain ⟨k, hk⟩ : ∃ k : Nat, op - 70 = (k : Int) := ⟨(op - 70).toNat, by omega⟩
    have hk1 : k < 10 := by omega
    have hk2 : (k : Int) < 10 := by omega
    have hR0 : R = ⟨(wOp70.getD k []).toArray⟩ := by rw [← HR.out, opT_70 hk hk1]
    have e0 := cell_txts w wOp70 k hk1
    rw [← hR0] at e0
    obtain ⟨w1, hw1⟩ : ∃ w1, w.alloc (rowObj' wOp70) = w1 := ⟨_, rfl⟩
    have HW := Lib.hid hw1
    rw [hw1] at e0
    have HB := Lib.hid (show Below w.heap.size w w1 by rw [← hw1]; exact (Below.refl _ _).alloc (Nat.le_refl _) _)
    clear hw1 hR0 HR
    go_enter Tryd.func97, Tryd.ntmps97
    go_wp2_with fail
    refine (fieldsOp70 w HT.out).mono ?_
    rintro e w' ⟨rfl, hw'⟩
    rw [HW.out] at hw'
    subst hw'
    go_wp2_with fail
    go_ret
    exact ⟨rfl, HB.out⟩
  · skip
    have : decide ((1 : Int) ≤ op) = true := decide_eq_true (by omega)
    have : decide ((20 : Int) ≤ op) = true := decide_eq_true (by omega)
    have : decide ((30 : Int) ≤ op) = true := decide_eq_true (by omega)
    have : decide ((40 : Int) ≤ op) = true := decide_eq_true (by omega)
    have : decide ((50 : Int) ≤ op) = true := decide_eq_true (by omega)
    have : decide ((60 : Int) ≤ op) = true := decide_eq_true (by omega)
    have : decide ((70 : Int) ≤ op) = true := decide_eq_true (by omega)
    have : decide ((220 : Int) ≤ op) = false := decide_eq_false (by omega)
    have : decide ((250 : Int) ≤ op) = false := decide_eq_false (by omega)
    have : decide (op ≤ (11 : Int)) = false := decide_eq_false (by omega)
    have : decide (op ≤ (25 : Int)) = false := decide_eq_false (by omega)
    have : decide (op ≤ (35 : Int)) = false := decide_eq_false (by omega)
    have : decide (op ≤ (47 : Int)) = false := decide_eq_false (by omega)
    have : decide (op ≤ (54 : Int)) = false := decide_eq_false (by omega)
    have : decide (op ≤ (63 : Int)) = false := decide_eq_false (by omega)
    have : decide (op ≤ (79 : Int)) = false := decide_eq_false (by omega)
    have : decide (op ≤ (225 : Int)) = true := decide_eq_true (by omega)
    have : decide (op ≤ (254 : Int)) = true := decide_eq_true (by omega)
    have : (op == (81 : Int)) = false := by rw [beq_eq_false_iff_ne]; omega
    have hR0 : R = ⟨#[]⟩ := by rw [← HR.out, opT_no (by omega)]
    subst hR0
    go_enter Tryd.func97, Tryd.ntmps97
    go_wp2_with fail
    go_ret
    exact ⟨rfl, Below.refl _ _⟩
  · skip
    have : decide ((1 : Int) ≤ op) = true := decide_eq_true (by omega)
    have : decide ((20 : Int) ≤ op) = true := decide_eq_true (by omega)
    have : decide ((30 : Int) ≤ op) = true := decide_eq_true (by omega)
    have : decide ((40 : Int) ≤ op) = true := decide_eq_true (by omega)
    have : decide ((50 : Int) ≤ op) = true := decide_eq_true (by omega)
    have : decide ((60 : Int) ≤ op) = true := decide_eq_true (by omega)
    have : decide ((70 : Int) ≤ op) = true := decide_eq_true (by omega)
    have : decide ((220 : Int) ≤ op) = false := decide_eq_false (by omega)
    have : decide ((250 : Int) ≤ op) = false := decide_eq_false (by omega)
    have : decide (op ≤ (11 : Int)) = false := decide_eq_false (by omega)
    have : decide (op ≤ (25 : Int)) = false := decide_eq_false (by omega)
    have : decide (op ≤ (35 : Int)) = false := decide_eq_false (by omega)
    have : decide (op ≤ (47 : Int)) = false := decide_eq_false (by omega)
    have : decide (op ≤ (54 : Int)) = false := decide_eq_false (by omega)
    have : decide (op ≤ (63 : Int)) = false := decide_eq_false (by omega)
    have : decide (op ≤ (79 : Int)) = false := decide_eq_false (by omega)
    have : decide (op ≤ (225 : Int)) = true := decide_eq_true (by omega)
    have : decide (op ≤ (254 : Int)) = true := decide_eq_true (by omega)
    have : (op == (81 : Int)) = true := by rw [beq_iff_eq]; omega
    have hR0 : R = ⟨#[100, 101, 102, 101, 114]⟩ := by rw [← HR.out, show op = 81 by omega]; rfl
    subst hR0
    go_enter Tryd.func97, Tryd.ntmps97
    go_wp2_with fail
    go_ret
    exact ⟨rfl, Below.refl _ _⟩
  · skip
    have : decide ((1 : Int) ≤ op) = true := decide_eq_true (by omega)
    have : decide ((20 : Int) ≤ op) = true := decide_eq_true (by omega)
    have : decide ((30 : Int) ≤ op) = true := decide_eq_true (by omega)
    have : decide ((40 : Int) ≤ op) = true := decide_eq_true (by omega)
    have : decide ((50 : Int) ≤ op) = true := decide_eq_true (by omega)
    have : decide ((60 : Int) ≤ op) = true := decide_eq_true (by omega)
    have : decide ((70 : Int) ≤ op) = true := decide_eq_true (by omega)
    have : decide ((220 : Int) ≤ op) = false := decide_eq_false (by omega)
    have : decide ((250 : Int) ≤ op) = false := decide_eq_false (by omega)
    have : decide (op ≤ (11 : Int)) = false := decide_eq_false (by omega)
    have : decide (op ≤ (25 : Int)) = false := decide_eq_false (by omega)
    have : decide (op ≤ (35 : Int)) = false := decide_eq_false (by omega)
    have : decide (op ≤ (47 : Int)) = false := decide_eq_false (by omega)
    have : decide (op ≤ (54 : Int)) = false := decide_eq_false (by omega)
    have : decide (op ≤ (63 : Int)) = false := decide_eq_false (by omega)
    have : decide (op ≤ (79 : Int)) = false := decide_eq_false (by omega)
    have : decide (op ≤ (225 : Int)) = true := decide_eq_true (by omega)
    have : decide (op ≤ (254 : Int)) = true := decide_eq_true (by omega)
    have : (op == (81 : Int)) = false := by rw [beq_eq_false_iff_ne]; omega
    have hR0 : R = ⟨#[]⟩ := by rw [← HR.out, opT_no (by omega)]
    subst hR0
    go_enter Tryd.func97, Tryd.ntmps97
    go_wp2_with fail
    go_ret
    exact ⟨rfl, Below.refl _ _⟩
  · skip
    have : decide ((1 : Int) ≤ op) = true := decide_eq_true (by omega)
    have : decide ((20 : Int) ≤ op) = true := decide_eq_true (by omega)
    have : decide ((30 : Int) ≤ op) = true := decide_eq_true (by omega)
    have : decide ((40 : Int) ≤ op) = true := decide_eq_true (by omega)
    have : decide ((50 : Int) ≤ op) = true := decide_eq_true (by omega)
    have : decide ((60 : Int) ≤ op) = true := decide_eq_true (by omega)
    have : decide ((70 : Int) ≤ op) = true := decide_eq_true (by omega)
    have : decide ((220 : Int) ≤ op) = true := decide_eq_true (by omega)
    have : decide ((250 : Int) ≤ op) = false := decide_eq_false (by omega)
    have : decide (op ≤ (11 : Int)) = false := decide_eq_false (by omega)
    have : decide (op ≤ (25 : Int)) = false := decide_eq_false (by omega)
    have : decide (op ≤ (35 : Int)) = false := decide_eq_false (by omega)
    have : decide (op ≤ (47 : Int)) = false := decide_eq_false (by omega)
    have : decide (op ≤ (54 : Int)) = false := decide_eq_false (by omega)
    have : decide (op ≤ (63 : Int)) = false := decide_eq_false (by omega)
    have : decide (op ≤ (79 : Int)) = false := decide_eq_false (by omega)
    have : decide (op ≤ (225 : Int)) = false := decide_eq_false (by omega)
    have : decide (op ≤ (254 : Int)) = true := decide_eq_true (by omega)
    have : (op == (81 : Int)) = false := by rw [beq_eq_false_iff_ne]; omega
    have hR0 : R = ⟨#[]⟩ := by rw [← HR.out, opT_no (by omega)]
    subst hR0
    go_enter Tryd.func97, Tryd.ntmps97
    go_wp2_with fail
    go_ret
    exact ⟨rfl, Below.refl _ _⟩
  · skip
    have : decide ((1 : Int) ≤ op) = true := decide_eq_true (by omega)
    have : decide ((20 : Int) ≤ op) = true := decide_eq_true (by omega)
    have : decide ((30 : Int) ≤ op) = true := decide_eq_true (by omega)
    have : decide ((40 : Int) ≤ op) = true := decide_eq_true (by omega)
    have : decide ((50 : Int) ≤ op) = true := decide_eq_true (by omega)
    have : decide ((60 : Int) ≤ op) = true := decide_eq_true (by omega)
    have : decide ((70 : Int) ≤ op) = true := decide_eq_true (by omega)
    have : decide ((220 : Int) ≤ op) = true := decide_eq_true (by omega)
    have : decide ((250 : Int) ≤ op) = true := decide_eq_true (by omega)
    have : decide (op ≤ (11 : Int)) = false := decide_eq_false (by omega)
    have : decide (op ≤ (25 : Int)) = false := decide_eq_false (by omega)
    have : decide (op ≤ (35 : Int)) = false := decide_eq_false (by omega)
    have : decide (op ≤ (47 : Int)) = false := decide_eq_false (by omega)
    have : decide (op ≤ (54 : Int)) = false := decide_eq_false (by omega)
    have : decide (op ≤ (63 : Int)) = false := decide_eq_false (by omega)
    have : decide (op ≤ (79 : Int)) = false := decide_eq_false (by omega)
    have : decide (op ≤ (225 : Int)) = false := decide_eq_false (by omega)
    have : decide (op ≤ (254 : Int)) = false := decide_eq_false (by omega)
    have : (op == (81 : Int)) = false := by rw [beq_eq_false_iff_ne]; omega
    have hR0 : R = ⟨#[]⟩ := by rw [← HR.out, opT_no (by omega)]
    subst hR0
    go_enter Tryd.func97, Tryd.ntmps97
    go_wp2_with fail
    go_ret
    exact ⟨rfl, Below.refl _ _⟩
set_option maxRecDepth 100000 in
set_option maxHeartbeats 4000000 in
theorem implOpText_rec (op : Int) (w : World) (hi : (220 ≤ op ∧ op ≤ 225) ∨ (250 ≤ op ∧ op ≤ 254)) (ht : Spc w) : Calls Tryd.prog 97 #[.int .i64 op] w fun e w' => e = .returned (.string ⟨(opT op).toArray⟩) ∧ Below w.heap.size w w' := by
  obtain ⟨R, hR⟩ : ∃ R, (⟨(opT op).toArray⟩ : ByteArray) = R := ⟨_, rfl⟩
  rw [hR]
  have HR := Lib.hid hR
  have HT := Lib.hid ht
  clear hR ht
  rcases hi with hi | hi
  · skip
    have : decide ((1 : Int) ≤ op) = true := decide_eq_true (by omega)
    have : decide ((20 : Int) ≤ op) = true := decide_eq_true (by omega)
    have : decide ((30 : Int) ≤ op) = true := decide_eq_true (by omega)
    have : decide ((40 : Int) ≤ op) = true := decide_eq_true (by omega)
    have : decide ((50 : Int) ≤ op) = true := decide_eq_true (by omega)
    have : decide ((60 : Int) ≤ op) = true := decide_eq_true (by omega)
    have : decide ((70 : Int) ≤ op) = true := decide_eq_true (by omega)
    have : decide ((220 : Int) ≤ op) = true := decide_eq_true (by omega)
    have : decide ((250 : Int) ≤ op) = false := decide_eq_false (by omega)
    have : decide (op ≤ (11 : Int)) = false := decide_eq_false (by omega)
    have : decide (op ≤ (25 : Int)) = false := decide_eq_false (by omega)
    have : decide (op ≤ (35 : Int)) = false := decide_eq_false (by omega)
    have : decide (op ≤ (47 : Int)) = false := decide_eq_false (by omega)
    have : decide (op ≤ (54 : Int)) = false := decide_eq_false (by omega)
    have : decide (op ≤ (63 : Int)) = false := decide_eq_false (by omega)
    have : decide (op ≤ (79 : Int)) = false := decide_eq_false (by omega)
    have : decide (op ≤ (225 : Int)) = true := decide_eq_true (by omega)
    have : decide (op ≤ (254 : Int)) = true := decide_eq_true (by omega)
    have : (op == (81 : Int)) = false := by rw [beq_eq_false_iff_ne]; omega
    obtain ⟨k, hk⟩ : ∃ k : Nat, op - 220 = (k : Int) := ⟨(op - 220).toNat, by omega⟩
    have hR0 : R = ⟨(opT (op - 200)).toArray⟩ ++ ⟨#[58, 61]⟩ := by
      rw [← HR.out, (opT_aug hk (by omega)).1, (opT_aug hk (by omega)).2]
      apply bl_inj
      simp [bl]
    have HC := Lib.hid (implOpText_base (op - 200) w (by omega) HT.out)
    have hsm := opT_small (op - 200)
    obtain ⟨z, hz⟩ : ∃ z, (⟨(opT (op - 200)).toArray⟩ : ByteArray) = z := ⟨_, rfl⟩
    have hzs : z.size ≤ 11 := by rw [← hz]; exact hsm
    have hzs' : ¬ (9223372036854775807 : Int) < (z.size : Int) + 2 := by omega
    have hzs2 : ¬ 9223372036854775807 < z.size + 2 := by omega
    rw [hz] at HC hR0
    subst hR0
    clear hsm hz hk
    go_enter Tryd.func97, Tryd.ntmps97
    go_wp2_with fail
    refine HC.out.mono ?_
    rintro e w1 ⟨rfl, hb1⟩
    go_wp2_with fail
    go_ret
    exact ⟨rfl, hb1⟩
  · skip
    have : decide ((1 : Int) ≤ op) = true := decide_eq_true (by omega)
    have : decide ((20 : Int) ≤ op) = true := decide_eq_true (by omega)
    have : decide ((30 : Int) ≤ op) = true := decide_eq_true (by omega)
    have : decide ((40 : Int) ≤ op) = true := decide_eq_true (by omega)
    have : decide ((50 : Int) ≤ op) = true := decide_eq_true (by omega)
    have : decide ((60 : Int) ≤ op) = true := decide_eq_true (by omega)
    have : decide ((70 : Int) ≤ op) = true := decide_eq_true (by omega)
    have : decide ((220 : Int) ≤ op) = true := decide_eq_true (by omega)
    have : decide ((250 : Int) ≤ op) = true := decide_eq_true (by omega)
    have : decide (op ≤ (11 : Int)) = false := decide_eq_false (by omega)
    have : decide (op ≤ (25 : Int)) = false := decide_eq_false (by omega)
    have : decide (op ≤ (35 : Int)) = false := decide_eq_false (by omega)
    have : decide (op ≤ (47 : Int)) = false := decide_eq_false (by omega)
    have : decide (op ≤ (54 : Int)) = false := decide_eq_false (by omega)
    have : decide (op ≤ (63 : Int)) = false := decide_eq_false (by omega)
    have : decide (op ≤ (79 : Int)) = false := decide_eq_false (by omega)
    have : decide (op ≤ (225 : Int)) = false := decide_eq_false (by omega)
    have : decide (op ≤ (254 : Int)) = true := decide_eq_true (by omega)
    have : (op == (81 : Int)) = false := by rw [beq_eq_false_iff_ne]; omega
    obtain ⟨k, hk⟩ : ∃ k : Nat, op - 220 = (k : Int) := ⟨(op - 220).toNat, by omega⟩
    have hR0 : R = ⟨(opT (op - 200)).toArray⟩ ++ ⟨#[58, 61]⟩ := by
      rw [← HR.out, (opT_aug hk (by omega)).1, (opT_aug hk (by omega)).2]
      apply bl_inj
      simp [bl]
    have HC := Lib.hid (implOpText_base (op - 200) w (by omega) HT.out)
    have hsm := opT_small (op - 200)
    obtain ⟨z, hz⟩ : ∃ z, (⟨(opT (op - 200)).toArray⟩ : ByteArray) = z := ⟨_, rfl⟩
    have hzs : z.size ≤ 11 := by rw [← hz]; exact hsm
    have hzs' : ¬ (9223372036854775807 : Int) < (z.size : Int) + 2 := by omega
    have hzs2 : ¬ 9223372036854775807 < z.size + 2 := by omega
    rw [hz] at HC hR0
    subst hR0
    clear hsm hz hk
    go_enter Tryd.func97, Tryd.ntmps97
    go_wp2_with fail
    refine HC.out.mono ?_
    rintro e w1 ⟨rfl, hb1⟩
    go_wp2_with fail
    go_ret
    exact ⟨rfl, hb1⟩
theorem implOpText_any (op : Int) (w : World) (ht : Spc w) : Calls Tryd.prog 97 #[.int .i64 op] w fun e w' => e = .returned (.string ⟨(opT op).toArray⟩) ∧ Below w.heap.size w w' := by
  by_cases h : (220 ≤ op ∧ op ≤ 225) ∨ (250 ≤ op ∧ op ≤ 254)
  · exact implOpText_rec op w h ht
  · exact implOpText_base op w (by omega) ht
end Go.Proofs.YtopaeiogbijppaaDoor
