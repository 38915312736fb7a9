/- spec.OperatorText. Printed by gen_ops.py. -/
import Derived.Test.YtopaeiogbijppaaDoorOpTab
namespace Go.Proofs.YtopaeiogbijppaaDoor
open Go.RowKit

set_option maxHeartbeats 400000 in
theorem l10Ops_row (w : World) : Calls Tryd.prog 105 #[] w fun e w' => e = .returned (.slice (some ⟨w.heap.size, 0, none⟩) 11 11) ∧ w' = w.alloc (rowObj' wOp1) := by
  go_enter Tryd.func105, Tryd.ntmps105
  go_wp2
  go_ret
  exact ⟨rfl, rfl⟩
set_option maxHeartbeats 400000 in
theorem l10Binary_row (w : World) : Calls Tryd.prog 106 #[] w fun e w' => e = .returned (.slice (some ⟨w.heap.size, 0, none⟩) 44 44) ∧ w' = w.alloc (rowObj' wBin) := by
  go_enter Tryd.func106, Tryd.ntmps106
  go_wp2
  go_ret
  exact ⟨rfl, rfl⟩
set_option maxRecDepth 100000 in
set_option maxHeartbeats 4000000 in
theorem specOpText_any (op : Int) (w : World) : Calls Tryd.prog 94 #[.int .i64 op] w fun e w' => e = .returned (.string ⟨(opT op).toArray⟩) ∧ Below w.heap.size w w' := by
  obtain ⟨R, hR⟩ : ∃ R, (⟨(opT op).toArray⟩ : ByteArray) = R := ⟨_, rfl⟩
  rw [hR]
  have HR := Lib.hid hR
  clear hR
  have hi : (op ≤ 0) ∨ (1 ≤ op ∧ op ≤ 11) ∨ (12 ≤ op ∧ op ≤ 19) ∨ (20 ≤ op ∧ op ≤ 63) ∨ (64 ≤ op ∧ op ≤ 69) ∨ (70 ≤ op ∧ op ≤ 70) ∨ (71 ≤ op ∧ op ≤ 71) ∨ (72 ≤ op ∧ op ≤ 72) ∨ (73 ≤ op ∧ op ≤ 73) ∨ (74 ≤ op ∧ op ≤ 74) ∨ (75 ≤ op ∧ op ≤ 75) ∨ (76 ≤ op ∧ op ≤ 76) ∨ (77 ≤ op ∧ op ≤ 77) ∨ (78 ≤ op ∧ op ≤ 78) ∨ (79 ≤ op ∧ op ≤ 79) ∨ (80 ≤ op ∧ op ≤ 80) ∨ (81 ≤ op ∧ op ≤ 81) ∨ (82 ≤ op ∧ op ≤ 219) ∨ (220 ≤ op ∧ op ≤ 225) ∨ (226 ≤ op ∧ op ≤ 249) ∨ (250 ≤ op ∧ op ≤ 254) ∨ (255 ≤ op) := by omega
  rcases hi with hi | hi | hi | hi | hi | hi | hi | hi | hi | hi | hi | hi | hi | hi | hi | hi | hi | hi | hi | hi | hi | hi
  · skip
    have : decide ((1 : Int) ≤ op) = false := decide_eq_false (by omega)
    have : decide ((20 : Int) ≤ op) = false := decide_eq_false (by omega)
    have : decide ((220 : Int) ≤ op) = false := decide_eq_false (by omega)
    have : decide ((250 : Int) ≤ op) = false := decide_eq_false (by omega)
    have : decide (op ≤ (11 : Int)) = true := decide_eq_true (by omega)
    have : decide (op ≤ (225 : Int)) = true := decide_eq_true (by omega)
    have : decide (op ≤ (254 : Int)) = true := decide_eq_true (by omega)
    have : decide (op < (64 : Int)) = true := decide_eq_true (by omega)
    have : (op == (70 : Int)) = false := by rw [beq_eq_false_iff_ne]; omega
    have : (op == (71 : Int)) = false := by rw [beq_eq_false_iff_ne]; omega
    have : (op == (72 : Int)) = false := by rw [beq_eq_false_iff_ne]; omega
    have : (op == (73 : Int)) = false := by rw [beq_eq_false_iff_ne]; omega
    have : (op == (74 : Int)) = false := by rw [beq_eq_false_iff_ne]; omega
    have : (op == (75 : Int)) = false := by rw [beq_eq_false_iff_ne]; omega
    have : (op == (76 : Int)) = false := by rw [beq_eq_false_iff_ne]; omega
    have : (op == (77 : Int)) = false := by rw [beq_eq_false_iff_ne]; omega
    have : (op == (78 : Int)) = false := by rw [beq_eq_false_iff_ne]; omega
    have : (op == (79 : Int)) = false := by rw [beq_eq_false_iff_ne]; omega
    have : (op == (81 : Int)) = false := by rw [beq_eq_false_iff_ne]; omega
    have hR0 : R = ⟨#[]⟩ := by rw [← HR.out, opT_no (by omega)]
    subst hR0
    go_enter Tryd.func94, Tryd.ntmps94
    go_wp2_with fail
    go_ret
    exact ⟨rfl, Below.refl _ _⟩
  · skip
    have : decide ((1 : Int) ≤ op) = true := decide_eq_true (by omega)
    have : decide ((20 : Int) ≤ op) = false := decide_eq_false (by omega)
    have : decide ((220 : Int) ≤ op) = false := decide_eq_false (by omega)
    have : decide ((250 : Int) ≤ op) = false := decide_eq_false (by omega)
    have : decide (op ≤ (11 : Int)) = true := decide_eq_true (by omega)
    have : decide (op ≤ (225 : Int)) = true := decide_eq_true (by omega)
    have : decide (op ≤ (254 : Int)) = true := decide_eq_true (by omega)
    have : decide (op < (64 : Int)) = true := decide_eq_true (by omega)
    have : (op == (70 : Int)) = false := by rw [beq_eq_false_iff_ne]; omega
    have : (op == (71 : Int)) = false := by rw [beq_eq_false_iff_ne]; omega
    have : (op == (72 : Int)) = false := by rw [beq_eq_false_iff_ne]; omega
    have : (op == (73 : Int)) = false := by rw [beq_eq_false_iff_ne]; omega
    have : (op == (74 : Int)) = false := by rw [beq_eq_false_iff_ne]; omega
    have : (op == (75 : Int)) = false := by rw [beq_eq_false_iff_ne]; omega
    have : (op == (76 : Int)) = false := by rw [beq_eq_false_iff_ne]; omega
    have : (op == (77 : Int)) = false := by rw [beq_eq_false_iff_ne]; omega
    have : (op == (78 : Int)) = false := by rw [beq_eq_false_iff_ne]; omega
    have : (op == (79 : Int)) = false := by rw [beq_eq_false_iff_ne]; omega
    have : (op == (81 : Int)) = false := by rw [beq_eq_false_iff_ne]; omega
    obtain ⟨k, hk⟩ : ∃ k : Nat, op - 1 = (k : Int) := ⟨(op - 1).toNat, by omega⟩
    have hk1 : k < 11 := by omega
    have hk2 : (k : Int) < 11 := by omega
    have hR0 : R = ⟨(wOp1.getD k []).toArray⟩ := by rw [← HR.out, opT_1 hk hk1]
    have e0 := cell_txts w wOp1 k hk1
    rw [← hR0] at e0
    obtain ⟨w1, hw1⟩ : ∃ w1, w.alloc (rowObj' wOp1) = w1 := ⟨_, rfl⟩
    have HW := Lib.hid hw1
    rw [hw1] at e0
    have HB := Lib.hid (show Below w.heap.size w w1 by rw [← hw1]; exact (Below.refl _ _).alloc (Nat.le_refl _) _)
    clear hw1 hR0 HR
    go_enter Tryd.func94, Tryd.ntmps94
    go_wp2_with fail
    refine (l10Ops_row w).mono ?_
    rintro e w' ⟨rfl, hw'⟩
    rw [HW.out] at hw'
    subst hw'
    go_wp2_with fail
    go_ret
    exact ⟨rfl, HB.out⟩
  · skip
    have : decide ((1 : Int) ≤ op) = true := decide_eq_true (by omega)
    have : decide ((20 : Int) ≤ op) = false := decide_eq_false (by omega)
    have : decide ((220 : Int) ≤ op) = false := decide_eq_false (by omega)
    have : decide ((250 : Int) ≤ op) = false := decide_eq_false (by omega)
    have : decide (op ≤ (11 : Int)) = false := decide_eq_false (by omega)
    have : decide (op ≤ (225 : Int)) = true := decide_eq_true (by omega)
    have : decide (op ≤ (254 : Int)) = true := decide_eq_true (by omega)
    have : decide (op < (64 : Int)) = true := decide_eq_true (by omega)
    have : (op == (70 : Int)) = false := by rw [beq_eq_false_iff_ne]; omega
    have : (op == (71 : Int)) = false := by rw [beq_eq_false_iff_ne]; omega
    have : (op == (72 : Int)) = false := by rw [beq_eq_false_iff_ne]; omega
    have : (op == (73 : Int)) = false := by rw [beq_eq_false_iff_ne]; omega
    have : (op == (74 : Int)) = false := by rw [beq_eq_false_iff_ne]; omega
    have : (op == (75 : Int)) = false := by rw [beq_eq_false_iff_ne]; omega
    have : (op == (76 : Int)) = false := by rw [beq_eq_false_iff_ne]; omega
    have : (op == (77 : Int)) = false := by rw [beq_eq_false_iff_ne]; omega
    have : (op == (78 : Int)) = false := by rw [beq_eq_false_iff_ne]; omega
    have : (op == (79 : Int)) = false := by rw [beq_eq_false_iff_ne]; omega
    have : (op == (81 : Int)) = false := by rw [beq_eq_false_iff_ne]; omega
    have hR0 : R = ⟨#[]⟩ := by rw [← HR.out, opT_no (by omega)]
    subst hR0
    go_enter Tryd.func94, Tryd.ntmps94
    go_wp2_with fail
    go_ret
    exact ⟨rfl, Below.refl _ _⟩
  · skip
    have : decide ((1 : Int) ≤ op) = true := decide_eq_true (by omega)
    have : decide ((20 : Int) ≤ op) = true := decide_eq_true (by omega)
    have : decide ((220 : Int) ≤ op) = false := decide_eq_false (by omega)
    have : decide ((250 : Int) ≤ op) = false := decide_eq_false (by omega)
    have : decide (op ≤ (11 : Int)) = false := decide_eq_false (by omega)
    have : decide (op ≤ (225 : Int)) = true := decide_eq_true (by omega)
    have : decide (op ≤ (254 : Int)) = true := decide_eq_true (by omega)
    have : decide (op < (64 : Int)) = true := decide_eq_true (by omega)
    have : (op == (70 : Int)) = false := by rw [beq_eq_false_iff_ne]; omega
    have : (op == (71 : Int)) = false := by rw [beq_eq_false_iff_ne]; omega
    have : (op == (72 : Int)) = false := by rw [beq_eq_false_iff_ne]; omega
    have : (op == (73 : Int)) = false := by rw [beq_eq_false_iff_ne]; omega
    have : (op == (74 : Int)) = false := by rw [beq_eq_false_iff_ne]; omega
    have : (op == (75 : Int)) = false := by rw [beq_eq_false_iff_ne]; omega
    have : (op == (76 : Int)) = false := by rw [beq_eq_false_iff_ne]; omega
    have : (op == (77 : Int)) = false := by rw [beq_eq_false_iff_ne]; omega
    have : (op == (78 : Int)) = false := by rw [beq_eq_false_iff_ne]; omega
    have : (op == (79 : Int)) = false := by rw [beq_eq_false_iff_ne]; omega
    have : (op == (81 : Int)) = false := by rw [beq_eq_false_iff_ne]; omega
    obtain ⟨k, hk⟩ : ∃ k : Nat, op - 20 = (k : Int) := ⟨(op - 20).toNat, by omega⟩
    have hk1 : k < 44 := by omega
    have hk2 : (k : Int) < 44 := by omega
    have hR0 : R = ⟨(wBin.getD k []).toArray⟩ := by rw [← HR.out, opT_bin hk hk1]
    have e0 := cell_txts w wBin k hk1
    rw [← hR0] at e0
    obtain ⟨w1, hw1⟩ : ∃ w1, w.alloc (rowObj' wBin) = w1 := ⟨_, rfl⟩
    have HW := Lib.hid hw1
    rw [hw1] at e0
    have HB := Lib.hid (show Below w.heap.size w w1 by rw [← hw1]; exact (Below.refl _ _).alloc (Nat.le_refl _) _)
    clear hw1 hR0 HR
    go_enter Tryd.func94, Tryd.ntmps94
    go_wp2_with fail
    refine (l10Binary_row w).mono ?_
    rintro e w' ⟨rfl, hw'⟩
    rw [HW.out] at hw'
    subst hw'
    go_wp2_with fail
    go_ret
    exact ⟨rfl, HB.out⟩
  · skip
    have : decide ((1 : Int) ≤ op) = true := decide_eq_true (by omega)
    have : decide ((20 : Int) ≤ op) = true := decide_eq_true (by omega)
    have : decide ((220 : Int) ≤ op) = false := decide_eq_false (by omega)
    have : decide ((250 : Int) ≤ op) = false := decide_eq_false (by omega)
    have : decide (op ≤ (11 : Int)) = false := decide_eq_false (by omega)
    have : decide (op ≤ (225 : Int)) = true := decide_eq_true (by omega)
    have : decide (op ≤ (254 : Int)) = true := decide_eq_true (by omega)
    have : decide (op < (64 : Int)) = false := decide_eq_false (by omega)
    have : (op == (70 : Int)) = false := by rw [beq_eq_false_iff_ne]; omega
    have : (op == (71 : Int)) = false := by rw [beq_eq_false_iff_ne]; omega
    have : (op == (72 : Int)) = false := by rw [beq_eq_false_iff_ne]; omega
    have : (op == (73 : Int)) = false := by rw [beq_eq_false_iff_ne]; omega
    have : (op == (74 : Int)) = false := by rw [beq_eq_false_iff_ne]; omega
    have : (op == (75 : Int)) = false := by rw [beq_eq_false_iff_ne]; omega
    have : (op == (76 : Int)) = false := by rw [beq_eq_false_iff_ne]; omega
    have : (op == (77 : Int)) = false := by rw [beq_eq_false_iff_ne]; omega
    have : (op == (78 : Int)) = false := by rw [beq_eq_false_iff_ne]; omega
    have : (op == (79 : Int)) = false := by rw [beq_eq_false_iff_ne]; omega
    have : (op == (81 : Int)) = false := by rw [beq_eq_false_iff_ne]; omega
    have hR0 : R = ⟨#[]⟩ := by rw [← HR.out, opT_no (by omega)]
    subst hR0
    go_enter Tryd.func94, Tryd.ntmps94
    go_wp2_with fail
    go_ret
    exact ⟨rfl, Below.refl _ _⟩
  · skip
    have : decide ((1 : Int) ≤ op) = true := decide_eq_true (by omega)
    have : decide ((20 : Int) ≤ op) = true := decide_eq_true (by omega)
    have : decide ((220 : Int) ≤ op) = false := decide_eq_false (by omega)
    have : decide ((250 : Int) ≤ op) = false := decide_eq_false (by omega)
    have : decide (op ≤ (11 : Int)) = false := decide_eq_false (by omega)
    have : decide (op ≤ (225 : Int)) = true := decide_eq_true (by omega)
    have : decide (op ≤ (254 : Int)) = true := decide_eq_true (by omega)
    have : decide (op < (64 : Int)) = false := decide_eq_false (by omega)
    have : (op == (70 : Int)) = true := by rw [beq_iff_eq]; omega
    have : (op == (71 : Int)) = false := by rw [beq_eq_false_iff_ne]; omega
    have : (op == (72 : Int)) = false := by rw [beq_eq_false_iff_ne]; omega
    have : (op == (73 : Int)) = false := by rw [beq_eq_false_iff_ne]; omega
    have : (op == (74 : Int)) = false := by rw [beq_eq_false_iff_ne]; omega
    have : (op == (75 : Int)) = false := by rw [beq_eq_false_iff_ne]; omega
    have : (op == (76 : Int)) = false := by rw [beq_eq_false_iff_ne]; omega
    have : (op == (77 : Int)) = false := by rw [beq_eq_false_iff_ne]; omega
    have : (op == (78 : Int)) = false := by rw [beq_eq_false_iff_ne]; omega
    have : (op == (79 : Int)) = false := by rw [beq_eq_false_iff_ne]; omega
    have : (op == (81 : Int)) = false := by rw [beq_eq_false_iff_ne]; omega
    have hR0 : R = ⟨#[91, 93]⟩ := by rw [← HR.out, show op = 70 by omega]; rfl
    subst hR0
    go_enter Tryd.func94, Tryd.ntmps94
    go_wp2_with fail
    go_ret
    exact ⟨rfl, Below.refl _ _⟩
  · skip
    have : decide ((1 : Int) ≤ op) = true := decide_eq_true (by omega)
    have : decide ((20 : Int) ≤ op) = true := decide_eq_true (by omega)
    have : decide ((220 : Int) ≤ op) = false := decide_eq_false (by omega)
    have : decide ((250 : Int) ≤ op) = false := decide_eq_false (by omega)
    have : decide (op ≤ (11 : Int)) = false := decide_eq_false (by omega)
    have : decide (op ≤ (225 : Int)) = true := decide_eq_true (by omega)
    have : decide (op ≤ (254 : Int)) = true := decide_eq_true (by omega)
    have : decide (op < (64 : Int)) = false := decide_eq_false (by omega)
    have : (op == (70 : Int)) = false := by rw [beq_eq_false_iff_ne]; omega
    have : (op == (71 : Int)) = true := by rw [beq_iff_eq]; omega
    have : (op == (72 : Int)) = false := by rw [beq_eq_false_iff_ne]; omega
    have : (op == (73 : Int)) = false := by rw [beq_eq_false_iff_ne]; omega
    have : (op == (74 : Int)) = false := by rw [beq_eq_false_iff_ne]; omega
    have : (op == (75 : Int)) = false := by rw [beq_eq_false_iff_ne]; omega
    have : (op == (76 : Int)) = false := by rw [beq_eq_false_iff_ne]; omega
    have : (op == (77 : Int)) = false := by rw [beq_eq_false_iff_ne]; omega
    have : (op == (78 : Int)) = false := by rw [beq_eq_false_iff_ne]; omega
    have : (op == (79 : Int)) = false := by rw [beq_eq_false_iff_ne]; omega
    have : (op == (81 : Int)) = false := by rw [beq_eq_false_iff_ne]; omega
    have hR0 : R = ⟨#[91, 58, 93]⟩ := by rw [← HR.out, show op = 71 by omega]; rfl
    subst hR0
    go_enter Tryd.func94, Tryd.ntmps94
    go_wp2_with fail
    go_ret
    exact ⟨rfl, Below.refl _ _⟩
  · skip
    have : decide ((1 : Int) ≤ op) = true := decide_eq_true (by omega)
    have : decide ((20 : Int) ≤ op) = true := decide_eq_true (by omega)
    have : decide ((220 : Int) ≤ op) = false := decide_eq_false (by omega)
    have : decide ((250 : Int) ≤ op) = false := decide_eq_false (by omega)
    have : decide (op ≤ (11 : Int)) = false := decide_eq_false (by omega)
    have : decide (op ≤ (225 : Int)) = true := decide_eq_true (by omega)
    have : decide (op ≤ (254 : Int)) = true := decide_eq_true (by omega)
    have : decide (op < (64 : Int)) = false := decide_eq_false (by omega)
    have : (op == (70 : Int)) = false := by rw [beq_eq_false_iff_ne]; omega
    have : (op == (71 : Int)) = false := by rw [beq_eq_false_iff_ne]; omega
    have : (op == (72 : Int)) = true := by rw [beq_iff_eq]; omega
    have : (op == (73 : Int)) = false := by rw [beq_eq_false_iff_ne]; omega
    have : (op == (74 : Int)) = false := by rw [beq_eq_false_iff_ne]; omega
    have : (op == (75 : Int)) = false := by rw [beq_eq_false_iff_ne]; omega
    have : (op == (76 : Int)) = false := by rw [beq_eq_false_iff_ne]; omega
    have : (op == (77 : Int)) = false := by rw [beq_eq_false_iff_ne]; omega
    have : (op == (78 : Int)) = false := by rw [beq_eq_false_iff_ne]; omega
    have : (op == (79 : Int)) = false := by rw [beq_eq_false_iff_ne]; omega
    have : (op == (81 : Int)) = false := by rw [beq_eq_false_iff_ne]; omega
    have hR0 : R = ⟨#[116, 111]⟩ := by rw [← HR.out, show op = 72 by omega]; rfl
    subst hR0
    go_enter Tryd.func94, Tryd.ntmps94
    go_wp2_with fail
    go_ret
    exact ⟨rfl, Below.refl _ _⟩
  · skip
    have : decide ((1 : Int) ≤ op) = true := decide_eq_true (by omega)
    have : decide ((20 : Int) ≤ op) = true := decide_eq_true (by omega)
    have : decide ((220 : Int) ≤ op) = false := decide_eq_false (by omega)
    have : decide ((250 : Int) ≤ op) = false := decide_eq_false (by omega)
    have : decide (op ≤ (11 : Int)) = false := decide_eq_false (by omega)
    have : decide (op ≤ (225 : Int)) = true := decide_eq_true (by omega)
    have : decide (op ≤ (254 : Int)) = true := decide_eq_true (by omega)
    have : decide (op < (64 : Int)) = false := decide_eq_false (by omega)
    have : (op == (70 : Int)) = false := by rw [beq_eq_false_iff_ne]; omega
    have : (op == (71 : Int)) = false := by rw [beq_eq_false_iff_ne]; omega
    have : (op == (72 : Int)) = false := by rw [beq_eq_false_iff_ne]; omega
    have : (op == (73 : Int)) = true := by rw [beq_iff_eq]; omega
    have : (op == (74 : Int)) = false := by rw [beq_eq_false_iff_ne]; omega
    have : (op == (75 : Int)) = false := by rw [beq_eq_false_iff_ne]; omega
    have : (op == (76 : Int)) = false := by rw [beq_eq_false_iff_ne]; omega
    have : (op == (77 : Int)) = false := by rw [beq_eq_false_iff_ne]; omega
    have : (op == (78 : Int)) = false := by rw [beq_eq_false_iff_ne]; omega
    have : (op == (79 : Int)) = false := by rw [beq_eq_false_iff_ne]; omega
    have : (op == (81 : Int)) = false := by rw [beq_eq_false_iff_ne]; omega
    have hR0 : R = ⟨#[38]⟩ := by rw [← HR.out, show op = 73 by omega]; rfl
    subst hR0
    go_enter Tryd.func94, Tryd.ntmps94
    go_wp2_with fail
    go_ret
    exact ⟨rfl, Below.refl _ _⟩
  · skip
    have : decide ((1 : Int) ≤ op) = true := decide_eq_true (by omega)
    have : decide ((20 : Int) ≤ op) = true := decide_eq_true (by omega)
    have : decide ((220 : Int) ≤ op) = false := decide_eq_false (by omega)
    have : decide ((250 : Int) ≤ op) = false := decide_eq_false (by omega)
    have : decide (op ≤ (11 : Int)) = false := decide_eq_false (by omega)
    have : decide (op ≤ (225 : Int)) = true := decide_eq_true (by omega)
    have : decide (op ≤ (254 : Int)) = true := decide_eq_true (by omega)
    have : decide (op < (64 : Int)) = false := decide_eq_false (by omega)
    have : (op == (70 : Int)) = false := by rw [beq_eq_false_iff_ne]; omega
    have : (op == (71 : Int)) = false := by rw [beq_eq_false_iff_ne]; omega
    have : (op == (72 : Int)) = false := by rw [beq_eq_false_iff_ne]; omega
    have : (op == (73 : Int)) = false := by rw [beq_eq_false_iff_ne]; omega
    have : (op == (74 : Int)) = true := by rw [beq_iff_eq]; omega
    have : (op == (75 : Int)) = false := by rw [beq_eq_false_iff_ne]; omega
    have : (op == (76 : Int)) = false := by rw [beq_eq_false_iff_ne]; omega
    have : (op == (77 : Int)) = false := by rw [beq_eq_false_iff_ne]; omega
    have : (op == (78 : Int)) = false := by rw [beq_eq_false_iff_ne]; omega
    have : (op == (79 : Int)) = false := by rw [beq_eq_false_iff_ne]; omega
    have : (op == (81 : Int)) = false := by rw [beq_eq_false_iff_ne]; omega
    have hR0 : R = ⟨#[91, 46, 46, 46, 93]⟩ := by rw [← HR.out, show op = 74 by omega]; rfl
    subst hR0
    go_enter Tryd.func94, Tryd.ntmps94
    go_wp2_with fail
    go_ret
    exact ⟨rfl, Below.refl _ _⟩
  · skip
    have : decide ((1 : Int) ≤ op) = true := decide_eq_true (by omega)
    have : decide ((20 : Int) ≤ op) = true := decide_eq_true (by omega)
    have : decide ((220 : Int) ≤ op) = false := decide_eq_false (by omega)
    have : decide ((250 : Int) ≤ op) = false := decide_eq_false (by omega)
    have : decide (op ≤ (11 : Int)) = false := decide_eq_false (by omega)
    have : decide (op ≤ (225 : Int)) = true := decide_eq_true (by omega)
    have : decide (op ≤ (254 : Int)) = true := decide_eq_true (by omega)
    have : decide (op < (64 : Int)) = false := decide_eq_false (by omega)
    have : (op == (70 : Int)) = false := by rw [beq_eq_false_iff_ne]; omega
    have : (op == (71 : Int)) = false := by rw [beq_eq_false_iff_ne]; omega
    have : (op == (72 : Int)) = false := by rw [beq_eq_false_iff_ne]; omega
    have : (op == (73 : Int)) = false := by rw [beq_eq_false_iff_ne]; omega
    have : (op == (74 : Int)) = false := by rw [beq_eq_false_iff_ne]; omega
    have : (op == (75 : Int)) = true := by rw [beq_iff_eq]; omega
    have : (op == (76 : Int)) = false := by rw [beq_eq_false_iff_ne]; omega
    have : (op == (77 : Int)) = false := by rw [beq_eq_false_iff_ne]; omega
    have : (op == (78 : Int)) = false := by rw [beq_eq_false_iff_ne]; omega
    have : (op == (79 : Int)) = false := by rw [beq_eq_false_iff_ne]; omega
    have : (op == (81 : Int)) = false := by rw [beq_eq_false_iff_ne]; omega
    have hR0 : R = ⟨#[63, 63]⟩ := by rw [← HR.out, show op = 75 by omega]; rfl
    subst hR0
    go_enter Tryd.func94, Tryd.ntmps94
    go_wp2_with fail
    go_ret
    exact ⟨rfl, Below.refl _ _⟩
  · skip
    have : decide ((1 : Int) ≤ op) = true := decide_eq_true (by omega)
    have : decide ((20 : Int) ≤ op) = true := decide_eq_true (by omega)
    have : decide ((220 : Int) ≤ op) = false := decide_eq_false (by omega)
    have : decide ((250 : Int) ≤ op) = false := decide_eq_false (by omega)
    have : decide (op ≤ (11 : Int)) = false := decide_eq_false (by omega)
    have : decide (op ≤ (225 : Int)) = true := decide_eq_true (by omega)
    have : decide (op ≤ (254 : Int)) = true := decide_eq_true (by omega)
    have : decide (op < (64 : Int)) = false := decide_eq_false (by omega)
    have : (op == (70 : Int)) = false := by rw [beq_eq_false_iff_ne]; omega
    have : (op == (71 : Int)) = false := by rw [beq_eq_false_iff_ne]; omega
    have : (op == (72 : Int)) = false := by rw [beq_eq_false_iff_ne]; omega
    have : (op == (73 : Int)) = false := by rw [beq_eq_false_iff_ne]; omega
    have : (op == (74 : Int)) = false := by rw [beq_eq_false_iff_ne]; omega
    have : (op == (75 : Int)) = false := by rw [beq_eq_false_iff_ne]; omega
    have : (op == (76 : Int)) = true := by rw [beq_iff_eq]; omega
    have : (op == (77 : Int)) = false := by rw [beq_eq_false_iff_ne]; omega
    have : (op == (78 : Int)) = false := by rw [beq_eq_false_iff_ne]; omega
    have : (op == (79 : Int)) = false := by rw [beq_eq_false_iff_ne]; omega
    have : (op == (81 : Int)) = false := by rw [beq_eq_false_iff_ne]; omega
    have hR0 : R = ⟨#[46, 124]⟩ := by rw [← HR.out, show op = 76 by omega]; rfl
    subst hR0
    go_enter Tryd.func94, Tryd.ntmps94
    go_wp2_with fail
    go_ret
    exact ⟨rfl, Below.refl _ _⟩
  · skip
    have : decide ((1 : Int) ≤ op) = true := decide_eq_true (by omega)
    have : decide ((20 : Int) ≤ op) = true := decide_eq_true (by omega)
    have : decide ((220 : Int) ≤ op) = false := decide_eq_false (by omega)
    have : decide ((250 : Int) ≤ op) = false := decide_eq_false (by omega)
    have : decide (op ≤ (11 : Int)) = false := decide_eq_false (by omega)
    have : decide (op ≤ (225 : Int)) = true := decide_eq_true (by omega)
    have : decide (op ≤ (254 : Int)) = true := decide_eq_true (by omega)
    have : decide (op < (64 : Int)) = false := decide_eq_false (by omega)
    have : (op == (70 : Int)) = false := by rw [beq_eq_false_iff_ne]; omega
    have : (op == (71 : Int)) = false := by rw [beq_eq_false_iff_ne]; omega
    have : (op == (72 : Int)) = false := by rw [beq_eq_false_iff_ne]; omega
    have : (op == (73 : Int)) = false := by rw [beq_eq_false_iff_ne]; omega
    have : (op == (74 : Int)) = false := by rw [beq_eq_false_iff_ne]; omega
    have : (op == (75 : Int)) = false := by rw [beq_eq_false_iff_ne]; omega
    have : (op == (76 : Int)) = false := by rw [beq_eq_false_iff_ne]; omega
    have : (op == (77 : Int)) = true := by rw [beq_iff_eq]; omega
    have : (op == (78 : Int)) = false := by rw [beq_eq_false_iff_ne]; omega
    have : (op == (79 : Int)) = false := by rw [beq_eq_false_iff_ne]; omega
    have : (op == (81 : Int)) = false := by rw [beq_eq_false_iff_ne]; omega
    have hR0 : R = ⟨#[45, 62]⟩ := by rw [← HR.out, show op = 77 by omega]; rfl
    subst hR0
    go_enter Tryd.func94, Tryd.ntmps94
    go_wp2_with fail
    go_ret
    exact ⟨rfl, Below.refl _ _⟩
  · skip
    have : decide ((1 : Int) ≤ op) = true := decide_eq_true (by omega)
    have : decide ((20 : Int) ≤ op) = true := decide_eq_true (by omega)
    have : decide ((220 : Int) ≤ op) = false := decide_eq_false (by omega)
    have : decide ((250 : Int) ≤ op) = false := decide_eq_false (by omega)
    have : decide (op ≤ (11 : Int)) = false := decide_eq_false (by omega)
    have : decide (op ≤ (225 : Int)) = true := decide_eq_true (by omega)
    have : decide (op ≤ (254 : Int)) = true := decide_eq_true (by omega)
    have : decide (op < (64 : Int)) = false := decide_eq_false (by omega)
    have : (op == (70 : Int)) = false := by rw [beq_eq_false_iff_ne]; omega
    have : (op == (71 : Int)) = false := by rw [beq_eq_false_iff_ne]; omega
    have : (op == (72 : Int)) = false := by rw [beq_eq_false_iff_ne]; omega
    have : (op == (73 : Int)) = false := by rw [beq_eq_false_iff_ne]; omega
    have : (op == (74 : Int)) = false := by rw [beq_eq_false_iff_ne]; omega
    have : (op == (75 : Int)) = false := by rw [beq_eq_false_iff_ne]; omega
    have : (op == (76 : Int)) = false := by rw [beq_eq_false_iff_ne]; omega
    have : (op == (77 : Int)) = false := by rw [beq_eq_false_iff_ne]; omega
    have : (op == (78 : Int)) = true := by rw [beq_iff_eq]; omega
    have : (op == (79 : Int)) = false := by rw [beq_eq_false_iff_ne]; omega
    have : (op == (81 : Int)) = false := by rw [beq_eq_false_iff_ne]; omega
    have hR0 : R = ⟨#[61, 62]⟩ := by rw [← HR.out, show op = 78 by omega]; rfl
    subst hR0
    go_enter Tryd.func94, Tryd.ntmps94
    go_wp2_with fail
    go_ret
    exact ⟨rfl, Below.refl _ _⟩
  · skip
    have : decide ((1 : Int) ≤ op) = true := decide_eq_true (by omega)
    have : decide ((20 : Int) ≤ op) = true := decide_eq_true (by omega)
    have : decide ((220 : Int) ≤ op) = false := decide_eq_false (by omega)
    have : decide ((250 : Int) ≤ op) = false := decide_eq_false (by omega)
    have : decide (op ≤ (11 : Int)) = false := decide_eq_false (by omega)
    have : decide (op ≤ (225 : Int)) = true := decide_eq_true (by omega)
    have : decide (op ≤ (254 : Int)) = true := decide_eq_true (by omega)
    have : decide (op < (64 : Int)) = false := decide_eq_false (by omega)
    have : (op == (70 : Int)) = false := by rw [beq_eq_false_iff_ne]; omega
    have : (op == (71 : Int)) = false := by rw [beq_eq_false_iff_ne]; omega
    have : (op == (72 : Int)) = false := by rw [beq_eq_false_iff_ne]; omega
    have : (op == (73 : Int)) = false := by rw [beq_eq_false_iff_ne]; omega
    have : (op == (74 : Int)) = false := by rw [beq_eq_false_iff_ne]; omega
    have : (op == (75 : Int)) = false := by rw [beq_eq_false_iff_ne]; omega
    have : (op == (76 : Int)) = false := by rw [beq_eq_false_iff_ne]; omega
    have : (op == (77 : Int)) = false := by rw [beq_eq_false_iff_ne]; omega
    have : (op == (78 : Int)) = false := by rw [beq_eq_false_iff_ne]; omega
    have : (op == (79 : Int)) = true := by rw [beq_iff_eq]; omega
    have : (op == (81 : Int)) = false := by rw [beq_eq_false_iff_ne]; omega
    have hR0 : R = ⟨#[102, 105, 101, 108, 100]⟩ := by rw [← HR.out, show op = 79 by omega]; rfl
    subst hR0
    go_enter Tryd.func94, Tryd.ntmps94
    go_wp2_with fail
    go_ret
    exact ⟨rfl, Below.refl _ _⟩
  · skip
    have : decide ((1 : Int) ≤ op) = true := decide_eq_true (by omega)
    have : decide ((20 : Int) ≤ op) = true := decide_eq_true (by omega)
    have : decide ((220 : Int) ≤ op) = false := decide_eq_false (by omega)
    have : decide ((250 : Int) ≤ op) = false := decide_eq_false (by omega)
    have : decide (op ≤ (11 : Int)) = false := decide_eq_false (by omega)
    have : decide (op ≤ (225 : Int)) = true := decide_eq_true (by omega)
    have : decide (op ≤ (254 : Int)) = true := decide_eq_true (by omega)
    have : decide (op < (64 : Int)) = false := decide_eq_false (by omega)
    have : (op == (70 : Int)) = false := by rw [beq_eq_false_iff_ne]; omega
    have : (op == (71 : Int)) = false := by rw [beq_eq_false_iff_ne]; omega
    have : (op == (72 : Int)) = false := by rw [beq_eq_false_iff_ne]; omega
    have : (op == (73 : Int)) = false := by rw [beq_eq_false_iff_ne]; omega
    have : (op == (74 : Int)) = false := by rw [beq_eq_false_iff_ne]; omega
    have : (op == (75 : Int)) = false := by rw [beq_eq_false_iff_ne]; omega
    have : (op == (76 : Int)) = false := by rw [beq_eq_false_iff_ne]; omega
    have : (op == (77 : Int)) = false := by rw [beq_eq_false_iff_ne]; omega
    have : (op == (78 : Int)) = false := by rw [beq_eq_false_iff_ne]; omega
    have : (op == (79 : Int)) = false := by rw [beq_eq_false_iff_ne]; omega
    have : (op == (81 : Int)) = false := by rw [beq_eq_false_iff_ne]; omega
    have hR0 : R = ⟨#[]⟩ := by rw [← HR.out, opT_no (by omega)]
    subst hR0
    go_enter Tryd.func94, Tryd.ntmps94
    go_wp2_with fail
    go_ret
    exact ⟨rfl, Below.refl _ _⟩
  · skip
    have : decide ((1 : Int) ≤ op) = true := decide_eq_true (by omega)
    have : decide ((20 : Int) ≤ op) = true := decide_eq_true (by omega)
    have : decide ((220 : Int) ≤ op) = false := decide_eq_false (by omega)
    have : decide ((250 : Int) ≤ op) = false := decide_eq_false (by omega)
    have : decide (op ≤ (11 : Int)) = false := decide_eq_false (by omega)
    have : decide (op ≤ (225 : Int)) = true := decide_eq_true (by omega)
    have : decide (op ≤ (254 : Int)) = true := decide_eq_true (by omega)
    have : decide (op < (64 : Int)) = false := decide_eq_false (by omega)
    have : (op == (70 : Int)) = false := by rw [beq_eq_false_iff_ne]; omega
    have : (op == (71 : Int)) = false := by rw [beq_eq_false_iff_ne]; omega
    have : (op == (72 : Int)) = false := by rw [beq_eq_false_iff_ne]; omega
    have : (op == (73 : Int)) = false := by rw [beq_eq_false_iff_ne]; omega
    have : (op == (74 : Int)) = false := by rw [beq_eq_false_iff_ne]; omega
    have : (op == (75 : Int)) = false := by rw [beq_eq_false_iff_ne]; omega
    have : (op == (76 : Int)) = false := by rw [beq_eq_false_iff_ne]; omega
    have : (op == (77 : Int)) = false := by rw [beq_eq_false_iff_ne]; omega
    have : (op == (78 : Int)) = false := by rw [beq_eq_false_iff_ne]; omega
    have : (op == (79 : Int)) = false := by rw [beq_eq_false_iff_ne]; omega
    have : (op == (81 : Int)) = true := by rw [beq_iff_eq]; omega
    have hR0 : R = ⟨#[100, 101, 102, 101, 114]⟩ := by rw [← HR.out, show op = 81 by omega]; rfl
    subst hR0
    go_enter Tryd.func94, Tryd.ntmps94
    go_wp2_with fail
    go_ret
    exact ⟨rfl, Below.refl _ _⟩
  · skip
    have : decide ((1 : Int) ≤ op) = true := decide_eq_true (by omega)
    have : decide ((20 : Int) ≤ op) = true := decide_eq_true (by omega)
    have : decide ((220 : Int) ≤ op) = false := decide_eq_false (by omega)
    have : decide ((250 : Int) ≤ op) = false := decide_eq_false (by omega)
    have : decide (op ≤ (11 : Int)) = false := decide_eq_false (by omega)
    have : decide (op ≤ (225 : Int)) = true := decide_eq_true (by omega)
    have : decide (op ≤ (254 : Int)) = true := decide_eq_true (by omega)
    have : decide (op < (64 : Int)) = false := decide_eq_false (by omega)
    have : (op == (70 : Int)) = false := by rw [beq_eq_false_iff_ne]; omega
    have : (op == (71 : Int)) = false := by rw [beq_eq_false_iff_ne]; omega
    have : (op == (72 : Int)) = false := by rw [beq_eq_false_iff_ne]; omega
    have : (op == (73 : Int)) = false := by rw [beq_eq_false_iff_ne]; omega
    have : (op == (74 : Int)) = false := by rw [beq_eq_false_iff_ne]; omega
    have : (op == (75 : Int)) = false := by rw [beq_eq_false_iff_ne]; omega
    have : (op == (76 : Int)) = false := by rw [beq_eq_false_iff_ne]; omega
    have : (op == (77 : Int)) = false := by rw [beq_eq_false_iff_ne]; omega
    have : (op == (78 : Int)) = false := by rw [beq_eq_false_iff_ne]; omega
    have : (op == (79 : Int)) = false := by rw [beq_eq_false_iff_ne]; omega
    have : (op == (81 : Int)) = false := by rw [beq_eq_false_iff_ne]; omega
    have hR0 : R = ⟨#[]⟩ := by rw [← HR.out, opT_no (by omega)]
    subst hR0
    go_enter Tryd.func94, Tryd.ntmps94
    go_wp2_with fail
    go_ret
    exact ⟨rfl, Below.refl _ _⟩
  · skip
    have : decide ((1 : Int) ≤ op) = true := decide_eq_true (by omega)
    have : decide ((20 : Int) ≤ op) = true := decide_eq_true (by omega)
    have : decide ((220 : Int) ≤ op) = true := decide_eq_true (by omega)
    have : decide ((250 : Int) ≤ op) = false := decide_eq_false (by omega)
    have : decide (op ≤ (11 : Int)) = false := decide_eq_false (by omega)
    have : decide (op ≤ (225 : Int)) = true := decide_eq_true (by omega)
    have : decide (op ≤ (254 : Int)) = true := decide_eq_true (by omega)
    have : decide (op < (64 : Int)) = false := decide_eq_false (by omega)
    have : (op == (70 : Int)) = false := by rw [beq_eq_false_iff_ne]; omega
    have : (op == (71 : Int)) = false := by rw [beq_eq_false_iff_ne]; omega
    have : (op == (72 : Int)) = false := by rw [beq_eq_false_iff_ne]; omega
    have : (op == (73 : Int)) = false := by rw [beq_eq_false_iff_ne]; omega
    have : (op == (74 : Int)) = false := by rw [beq_eq_false_iff_ne]; omega
    have : (op == (75 : Int)) = false := by rw [beq_eq_false_iff_ne]; omega
    have : (op == (76 : Int)) = false := by rw [beq_eq_false_iff_ne]; omega
    have : (op == (77 : Int)) = false := by rw [beq_eq_false_iff_ne]; omega
    have : (op == (78 : Int)) = false := by rw [beq_eq_false_iff_ne]; omega
    have : (op == (79 : Int)) = false := by rw [beq_eq_false_iff_ne]; omega
    have : (op == (81 : Int)) = false := by rw [beq_eq_false_iff_ne]; omega
    obtain ⟨k, hk⟩ : ∃ k : Nat, op - 220 = (k : Int) := ⟨(op - 220).toNat, by omega⟩
    have hk1 : k < 44 := by omega
    have hk2 : (k : Int) < 44 := by omega
    have e0 := cell_txts w wBin k hk1
    have hR0 : R = ⟨(wBin.getD k []).toArray⟩ ++ ⟨#[58, 61]⟩ := by
      rw [← HR.out, (opT_aug hk (by omega)).1]
      apply bl_inj
      simp [bl]
    have hsm := opT_small (op - 200)
    rw [(opT_aug hk (by omega)).2] at hsm
    obtain ⟨z, hz⟩ : ∃ z, (⟨(wBin.getD k []).toArray⟩ : ByteArray) = z := ⟨_, rfl⟩
    have hzs : z.size ≤ 11 := by rw [← hz]; exact hsm
    have hzs' : ¬ (9223372036854775807 : Int) < (z.size : Int) + 2 := by omega
    have hzs2 : ¬ 9223372036854775807 < z.size + 2 := by omega
    rw [hz] at e0 hR0
    subst hR0
    clear hsm hz
    obtain ⟨w1, hw1⟩ : ∃ w1, w.alloc (rowObj' wBin) = w1 := ⟨_, rfl⟩
    have HW := Lib.hid hw1
    rw [hw1] at e0
    have HB := Lib.hid (show Below w.heap.size w w1 by rw [← hw1]; exact (Below.refl _ _).alloc (Nat.le_refl _) _)
    clear hw1 HR
    go_enter Tryd.func94, Tryd.ntmps94
    go_wp2_with fail
    refine (l10Binary_row w).mono ?_
    rintro e w' ⟨rfl, hw'⟩
    rw [HW.out] at hw'
    subst hw'
    go_wp2_with fail
    go_ret
    exact ⟨rfl, HB.out⟩
  · skip
    have : decide ((1 : Int) ≤ op) = true := decide_eq_true (by omega)
    have : decide ((20 : Int) ≤ op) = true := decide_eq_true (by omega)
    have : decide ((220 : Int) ≤ op) = true := decide_eq_true (by omega)
    have : decide ((250 : Int) ≤ op) = false := decide_eq_false (by omega)
    have : decide (op ≤ (11 : Int)) = false := decide_eq_false (by omega)
    have : decide (op ≤ (225 : Int)) = false := decide_eq_false (by omega)
    have : decide (op ≤ (254 : Int)) = true := decide_eq_true (by omega)
    have : decide (op < (64 : Int)) = false := decide_eq_false (by omega)
    have : (op == (70 : Int)) = false := by rw [beq_eq_false_iff_ne]; omega
    have : (op == (71 : Int)) = false := by rw [beq_eq_false_iff_ne]; omega
    have : (op == (72 : Int)) = false := by rw [beq_eq_false_iff_ne]; omega
    have : (op == (73 : Int)) = false := by rw [beq_eq_false_iff_ne]; omega
    have : (op == (74 : Int)) = false := by rw [beq_eq_false_iff_ne]; omega
    have : (op == (75 : Int)) = false := by rw [beq_eq_false_iff_ne]; omega
    have : (op == (76 : Int)) = false := by rw [beq_eq_false_iff_ne]; omega
    have : (op == (77 : Int)) = false := by rw [beq_eq_false_iff_ne]; omega
    have : (op == (78 : Int)) = false := by rw [beq_eq_false_iff_ne]; omega
    have : (op == (79 : Int)) = false := by rw [beq_eq_false_iff_ne]; omega
    have : (op == (81 : Int)) = false := by rw [beq_eq_false_iff_ne]; omega
    have hR0 : R = ⟨#[]⟩ := by rw [← HR.out, opT_no (by omega)]
    subst hR0
    go_enter Tryd.func94, Tryd.ntmps94
    go_wp2_with fail
    go_ret
    exact ⟨rfl, Below.refl _ _⟩
  · skip
    have : decide ((1 : Int) ≤ op) = true := decide_eq_true (by omega)
    have : decide ((20 : Int) ≤ op) = true := decide_eq_true (by omega)
    have : decide ((220 : Int) ≤ op) = true := decide_eq_true (by omega)
    have : decide ((250 : Int) ≤ op) = true := decide_eq_true (by omega)
    have : decide (op ≤ (11 : Int)) = false := decide_eq_false (by omega)
    have : decide (op ≤ (225 : Int)) = false := decide_eq_false (by omega)
    have : decide (op ≤ (254 : Int)) = true := decide_eq_true (by omega)
    have : decide (op < (64 : Int)) = false := decide_eq_false (by omega)
    have : (op == (70 : Int)) = false := by rw [beq_eq_false_iff_ne]; omega
    have : (op == (71 : Int)) = false := by rw [beq_eq_false_iff_ne]; omega
    have : (op == (72 : Int)) = false := by rw [beq_eq_false_iff_ne]; omega
    have : (op == (73 : Int)) = false := by rw [beq_eq_false_iff_ne]; omega
    have : (op == (74 : Int)) = false := by rw [beq_eq_false_iff_ne]; omega
    have : (op == (75 : Int)) = false := by rw [beq_eq_false_iff_ne]; omega
    have : (op == (76 : Int)) = false := by rw [beq_eq_false_iff_ne]; omega
    have : (op == (77 : Int)) = false := by rw [beq_eq_false_iff_ne]; omega
    have : (op == (78 : Int)) = false := by rw [beq_eq_false_iff_ne]; omega
    have : (op == (79 : Int)) = false := by rw [beq_eq_false_iff_ne]; omega
    have : (op == (81 : Int)) = false := by rw [beq_eq_false_iff_ne]; omega
    obtain ⟨k, hk⟩ : ∃ k : Nat, op - 220 = (k : Int) := ⟨(op - 220).toNat, by omega⟩
    have hk1 : k < 44 := by omega
    have hk2 : (k : Int) < 44 := by omega
    have e0 := cell_txts w wBin k hk1
    have hR0 : R = ⟨(wBin.getD k []).toArray⟩ ++ ⟨#[58, 61]⟩ := by
      rw [← HR.out, (opT_aug hk (by omega)).1]
      apply bl_inj
      simp [bl]
    have hsm := opT_small (op - 200)
    rw [(opT_aug hk (by omega)).2] at hsm
    obtain ⟨z, hz⟩ : ∃ z, (⟨(wBin.getD k []).toArray⟩ : ByteArray) = z := ⟨_, rfl⟩
    have hzs : z.size ≤ 11 := by rw [← hz]; exact hsm
    have hzs' : ¬ (9223372036854775807 : Int) < (z.size : Int) + 2 := by omega
    have hzs2 : ¬ 9223372036854775807 < z.size + 2 := by omega
    rw [hz] at e0 hR0
    subst hR0
    clear hsm hz
    obtain ⟨w1, hw1⟩ : ∃ w1, w.alloc (rowObj' wBin) = w1 := ⟨_, rfl⟩
    have HW := Lib.hid hw1
    rw [hw1] at e0
    have HB := Lib.hid (show Below w.heap.size w w1 by rw [← hw1]; exact (Below.refl _ _).alloc (Nat.le_refl _) _)
    clear hw1 HR
    go_enter Tryd.func94, Tryd.ntmps94
    go_wp2_with fail
    refine (l10Binary_row w).mono ?_
    rintro e w' ⟨rfl, hw'⟩
    rw [HW.out] at hw'
    subst hw'
    go_wp2_with fail
    go_ret
    exact ⟨rfl, HB.out⟩
  · skip
    have : decide ((1 : Int) ≤ op) = true := decide_eq_true (by omega)
    have : decide ((20 : Int) ≤ op) = true := decide_eq_true (by omega)
    have : decide ((220 : Int) ≤ op) = true := decide_eq_true (by omega)
    have : decide ((250 : Int) ≤ op) = true := decide_eq_true (by omega)
    have : decide (op ≤ (11 : Int)) = false := decide_eq_false (by omega)
    have : decide (op ≤ (225 : Int)) = false := decide_eq_false (by omega)
    have : decide (op ≤ (254 : Int)) = false := decide_eq_false (by omega)
    have : decide (op < (64 : Int)) = false := decide_eq_false (by omega)
    have : (op == (70 : Int)) = false := by rw [beq_eq_false_iff_ne]; omega
    have : (op == (71 : Int)) = false := by rw [beq_eq_false_iff_ne]; omega
    have : (op == (72 : Int)) = false := by rw [beq_eq_false_iff_ne]; omega
    have : (op == (73 : Int)) = false := by rw [beq_eq_false_iff_ne]; omega
    have : (op == (74 : Int)) = false := by rw [beq_eq_false_iff_ne]; omega
    have : (op == (75 : Int)) = false := by rw [beq_eq_false_iff_ne]; omega
    have : (op == (76 : Int)) = false := by rw [beq_eq_false_iff_ne]; omega
    have : (op == (77 : Int)) = false := by rw [beq_eq_false_iff_ne]; omega
    have : (op == (78 : Int)) = false := by rw [beq_eq_false_iff_ne]; omega
    have : (op == (79 : Int)) = false := by rw [beq_eq_false_iff_ne]; omega
    have : (op == (81 : Int)) = false := by rw [beq_eq_false_iff_ne]; omega
    have hR0 : R = ⟨#[]⟩ := by rw [← HR.out, opT_no (by omega)]
    subst hR0
    go_enter Tryd.func94, Tryd.ntmps94
    go_wp2_with fail
    go_ret
    exact ⟨rfl, Below.refl _ _⟩
end Go.Proofs.YtopaeiogbijppaaDoor
