/- Letters and digits, both sides. Printed by gen_names.py. -/
import Derived.Test.YtopaeiogbijppaaDoorNmFind
namespace Go.Proofs.YtopaeiogbijppaaDoor
open Go.RowKit

def isDgt (x : UInt8) : Bool := decide (48 ≤ x.toNat) && decide (x.toNat ≤ 57)
def isLet (x : UInt8) : Bool := (decide (97 ≤ x.toNat) && decide (x.toNat ≤ 122)) || (decide (65 ≤ x.toNat) && decide (x.toNat ≤ 90)) || decide (x.toNat = 95)
set_option maxHeartbeats 1000000 in
theorem isDigit_any (x : UInt8) (c : Int) (hc : (x.toNat : Int) = c) (w : World) : Calls Tryd.prog 71 #[.int .u8 c] w fun e w' => e = .returned (.bool (isDgt x)) ∧ w' = w := by
  have hb : 0 ≤ c ∧ c < 256 := by have := x.toNat_lt; omega
  obtain ⟨hb0, hb1⟩ := hb
  obtain ⟨R, hR⟩ : ∃ R, isDgt x = R := ⟨_, rfl⟩
  rw [hR]
  have HR := Lib.hid hR
  have HC := Lib.hid hc
  clear hR hc
  have hcase : (c < 48) ∨ (48 ≤ c ∧ c ≤ 57) ∨ (57 < c) := by omega
  rcases hcase with h | h | h
  · have hR0 : R = false := by rw [← HR.out]; have := HC.out; unfold isDgt; simp; omega
    subst hR0
    have : decide ((48 : Int) ≤ c) = false := decide_eq_false (by omega)
    have : decide (c ≤ (57 : Int)) = true := decide_eq_true (by omega)
    clear HC HR
    go_enter Tryd.func71, Tryd.ntmps71
    go_wp2_with fail
    go_ret
    exact ⟨rfl, rfl⟩
  · have hR0 : R = true := by rw [← HR.out]; have := HC.out; unfold isDgt; simp; omega
    subst hR0
    have : decide ((48 : Int) ≤ c) = true := decide_eq_true (by omega)
    have : decide (c ≤ (57 : Int)) = true := decide_eq_true (by omega)
    clear HC HR
    go_enter Tryd.func71, Tryd.ntmps71
    go_wp2_with fail
    go_ret
    exact ⟨rfl, rfl⟩
  · have hR0 : R = false := by rw [← HR.out]; have := HC.out; unfold isDgt; simp; omega
    subst hR0
    have : decide ((48 : Int) ≤ c) = true := decide_eq_true (by omega)
    have : decide (c ≤ (57 : Int)) = false := decide_eq_false (by omega)
    clear HC HR
    go_enter Tryd.func71, Tryd.ntmps71
    go_wp2_with fail
    go_ret
    exact ⟨rfl, rfl⟩
set_option maxHeartbeats 1000000 in
theorem l5Digit_any (x : UInt8) (c : Int) (hc : (x.toNat : Int) = c) (w : World) : Calls Tryd.prog 61 #[.int .u8 c] w fun e w' => e = .returned (.bool (isDgt x)) ∧ w' = w := by
  have hb : 0 ≤ c ∧ c < 256 := by have := x.toNat_lt; omega
  obtain ⟨hb0, hb1⟩ := hb
  obtain ⟨R, hR⟩ : ∃ R, isDgt x = R := ⟨_, rfl⟩
  rw [hR]
  have HR := Lib.hid hR
  have HC := Lib.hid hc
  clear hR hc
  have hcase : (c < 48) ∨ (48 ≤ c ∧ c ≤ 57) ∨ (57 < c) := by omega
  rcases hcase with h | h | h
  · have hR0 : R = false := by rw [← HR.out]; have := HC.out; unfold isDgt; simp; omega
    subst hR0
    have : decide ((48 : Int) ≤ c) = false := decide_eq_false (by omega)
    have : decide (c ≤ (57 : Int)) = true := decide_eq_true (by omega)
    clear HC HR
    go_enter Tryd.func61, Tryd.ntmps61
    go_wp2_with fail
    go_ret
    exact ⟨rfl, rfl⟩
  · have hR0 : R = true := by rw [← HR.out]; have := HC.out; unfold isDgt; simp; omega
    subst hR0
    have : decide ((48 : Int) ≤ c) = true := decide_eq_true (by omega)
    have : decide (c ≤ (57 : Int)) = true := decide_eq_true (by omega)
    clear HC HR
    go_enter Tryd.func61, Tryd.ntmps61
    go_wp2_with fail
    go_ret
    exact ⟨rfl, rfl⟩
  · have hR0 : R = false := by rw [← HR.out]; have := HC.out; unfold isDgt; simp; omega
    subst hR0
    have : decide ((48 : Int) ≤ c) = true := decide_eq_true (by omega)
    have : decide (c ≤ (57 : Int)) = false := decide_eq_false (by omega)
    clear HC HR
    go_enter Tryd.func61, Tryd.ntmps61
    go_wp2_with fail
    go_ret
    exact ⟨rfl, rfl⟩
set_option maxHeartbeats 1000000 in
theorem isLetter_any (x : UInt8) (c : Int) (hc : (x.toNat : Int) = c) (w : World) : Calls Tryd.prog 73 #[.int .u8 c] w fun e w' => e = .returned (.bool (isLet x)) ∧ w' = w := by
  have hb : 0 ≤ c ∧ c < 256 := by have := x.toNat_lt; omega
  obtain ⟨hb0, hb1⟩ := hb
  obtain ⟨R, hR⟩ : ∃ R, isLet x = R := ⟨_, rfl⟩
  rw [hR]
  have HR := Lib.hid hR
  have HC := Lib.hid hc
  clear hR hc
  have hcase : (c < 65) ∨ (65 ≤ c ∧ c ≤ 90) ∨ (90 < c ∧ c < 95) ∨ (c = 95) ∨ (c = 96) ∨ (97 ≤ c ∧ c ≤ 122) ∨ (122 < c) := by omega
  rcases hcase with h | h | h | h | h | h | h
  · have hR0 : R = false := by rw [← HR.out]; have := HC.out; unfold isLet; simp; omega
    subst hR0
    have : decide ((97 : Int) ≤ c) = false := decide_eq_false (by omega)
    have : decide (c ≤ (122 : Int)) = true := decide_eq_true (by omega)
    have : decide ((65 : Int) ≤ c) = false := decide_eq_false (by omega)
    have : decide (c ≤ (90 : Int)) = true := decide_eq_true (by omega)
    have : (c == (95 : Int)) = false := by rw [beq_eq_false_iff_ne]; omega
    clear HC HR
    go_enter Tryd.func73, Tryd.ntmps73
    go_wp2_with fail
    go_ret
    exact ⟨rfl, rfl⟩
  · have hR0 : R = true := by rw [← HR.out]; have := HC.out; unfold isLet; simp; omega
    subst hR0
    have : decide ((97 : Int) ≤ c) = false := decide_eq_false (by omega)
    have : decide (c ≤ (122 : Int)) = true := decide_eq_true (by omega)
    have : decide ((65 : Int) ≤ c) = true := decide_eq_true (by omega)
    have : decide (c ≤ (90 : Int)) = true := decide_eq_true (by omega)
    have : (c == (95 : Int)) = false := by rw [beq_eq_false_iff_ne]; omega
    clear HC HR
    go_enter Tryd.func73, Tryd.ntmps73
    go_wp2_with fail
    go_ret
    exact ⟨rfl, rfl⟩
  · have hR0 : R = false := by rw [← HR.out]; have := HC.out; unfold isLet; simp; omega
    subst hR0
    have : decide ((97 : Int) ≤ c) = false := decide_eq_false (by omega)
    have : decide (c ≤ (122 : Int)) = true := decide_eq_true (by omega)
    have : decide ((65 : Int) ≤ c) = true := decide_eq_true (by omega)
    have : decide (c ≤ (90 : Int)) = false := decide_eq_false (by omega)
    have : (c == (95 : Int)) = false := by rw [beq_eq_false_iff_ne]; omega
    clear HC HR
    go_enter Tryd.func73, Tryd.ntmps73
    go_wp2_with fail
    go_ret
    exact ⟨rfl, rfl⟩
  · have hR0 : R = true := by rw [← HR.out]; have := HC.out; unfold isLet; simp; omega
    subst hR0
    have : decide ((97 : Int) ≤ c) = false := decide_eq_false (by omega)
    have : decide (c ≤ (122 : Int)) = true := decide_eq_true (by omega)
    have : decide ((65 : Int) ≤ c) = true := decide_eq_true (by omega)
    have : decide (c ≤ (90 : Int)) = false := decide_eq_false (by omega)
    have : (c == (95 : Int)) = true := by rw [beq_iff_eq]; omega
    clear HC HR
    go_enter Tryd.func73, Tryd.ntmps73
    go_wp2_with fail
    go_ret
    exact ⟨rfl, rfl⟩
  · have hR0 : R = false := by rw [← HR.out]; have := HC.out; unfold isLet; simp; omega
    subst hR0
    have : decide ((97 : Int) ≤ c) = false := decide_eq_false (by omega)
    have : decide (c ≤ (122 : Int)) = true := decide_eq_true (by omega)
    have : decide ((65 : Int) ≤ c) = true := decide_eq_true (by omega)
    have : decide (c ≤ (90 : Int)) = false := decide_eq_false (by omega)
    have : (c == (95 : Int)) = false := by rw [beq_eq_false_iff_ne]; omega
    clear HC HR
    go_enter Tryd.func73, Tryd.ntmps73
    go_wp2_with fail
    go_ret
    exact ⟨rfl, rfl⟩
  · have hR0 : R = true := by rw [← HR.out]; have := HC.out; unfold isLet; simp; omega
    subst hR0
    have : decide ((97 : Int) ≤ c) = true := decide_eq_true (by omega)
    have : decide (c ≤ (122 : Int)) = true := decide_eq_true (by omega)
    have : decide ((65 : Int) ≤ c) = true := decide_eq_true (by omega)
    have : decide (c ≤ (90 : Int)) = false := decide_eq_false (by omega)
    have : (c == (95 : Int)) = false := by rw [beq_eq_false_iff_ne]; omega
    clear HC HR
    go_enter Tryd.func73, Tryd.ntmps73
    go_wp2_with fail
    go_ret
    exact ⟨rfl, rfl⟩
  · have hR0 : R = false := by rw [← HR.out]; have := HC.out; unfold isLet; simp; omega
    subst hR0
    have : decide ((97 : Int) ≤ c) = true := decide_eq_true (by omega)
    have : decide (c ≤ (122 : Int)) = false := decide_eq_false (by omega)
    have : decide ((65 : Int) ≤ c) = true := decide_eq_true (by omega)
    have : decide (c ≤ (90 : Int)) = false := decide_eq_false (by omega)
    have : (c == (95 : Int)) = false := by rw [beq_eq_false_iff_ne]; omega
    clear HC HR
    go_enter Tryd.func73, Tryd.ntmps73
    go_wp2_with fail
    go_ret
    exact ⟨rfl, rfl⟩
set_option maxHeartbeats 1000000 in
theorem l5Letter_any (x : UInt8) (c : Int) (hc : (x.toNat : Int) = c) (w : World) : Calls Tryd.prog 59 #[.int .u8 c] w fun e w' => e = .returned (.bool (isLet x)) ∧ w' = w := by
  have hb : 0 ≤ c ∧ c < 256 := by have := x.toNat_lt; omega
  obtain ⟨hb0, hb1⟩ := hb
  obtain ⟨R, hR⟩ : ∃ R, isLet x = R := ⟨_, rfl⟩
  rw [hR]
  have HR := Lib.hid hR
  have HC := Lib.hid hc
  clear hR hc
  have hcase : (c < 65) ∨ (65 ≤ c ∧ c ≤ 90) ∨ (90 < c ∧ c < 95) ∨ (c = 95) ∨ (c = 96) ∨ (97 ≤ c ∧ c ≤ 122) ∨ (122 < c) := by omega
  rcases hcase with h | h | h | h | h | h | h
  · have hR0 : R = false := by rw [← HR.out]; have := HC.out; unfold isLet; simp; omega
    subst hR0
    have : decide ((97 : Int) ≤ c) = false := decide_eq_false (by omega)
    have : decide (c ≤ (122 : Int)) = true := decide_eq_true (by omega)
    have : decide ((65 : Int) ≤ c) = false := decide_eq_false (by omega)
    have : decide (c ≤ (90 : Int)) = true := decide_eq_true (by omega)
    have : (c == (95 : Int)) = false := by rw [beq_eq_false_iff_ne]; omega
    clear HC HR
    go_enter Tryd.func59, Tryd.ntmps59
    go_wp2_with fail
    go_ret
    exact ⟨rfl, rfl⟩
  · have hR0 : R = true := by rw [← HR.out]; have := HC.out; unfold isLet; simp; omega
    subst hR0
    have : decide ((97 : Int) ≤ c) = false := decide_eq_false (by omega)
    have : decide (c ≤ (122 : Int)) = true := decide_eq_true (by omega)
    have : decide ((65 : Int) ≤ c) = true := decide_eq_true (by omega)
    have : decide (c ≤ (90 : Int)) = true := decide_eq_true (by omega)
    have : (c == (95 : Int)) = false := by rw [beq_eq_false_iff_ne]; omega
    clear HC HR
    go_enter Tryd.func59, Tryd.ntmps59
    go_wp2_with fail
    go_ret
    exact ⟨rfl, rfl⟩
  · have hR0 : R = false := by rw [← HR.out]; have := HC.out; unfold isLet; simp; omega
    subst hR0
    have : decide ((97 : Int) ≤ c) = false := decide_eq_false (by omega)
    have : decide (c ≤ (122 : Int)) = true := decide_eq_true (by omega)
    have : decide ((65 : Int) ≤ c) = true := decide_eq_true (by omega)
    have : decide (c ≤ (90 : Int)) = false := decide_eq_false (by omega)
    have : (c == (95 : Int)) = false := by rw [beq_eq_false_iff_ne]; omega
    clear HC HR
    go_enter Tryd.func59, Tryd.ntmps59
    go_wp2_with fail
    go_ret
    exact ⟨rfl, rfl⟩
  · have hR0 : R = true := by rw [← HR.out]; have := HC.out; unfold isLet; simp; omega
    subst hR0
    have : decide ((97 : Int) ≤ c) = false := decide_eq_false (by omega)
    have : decide (c ≤ (122 : Int)) = true := decide_eq_true (by omega)
    have : decide ((65 : Int) ≤ c) = true := decide_eq_true (by omega)
    have : decide (c ≤ (90 : Int)) = false := decide_eq_false (by omega)
    have : (c == (95 : Int)) = true := by rw [beq_iff_eq]; omega
    clear HC HR
    go_enter Tryd.func59, Tryd.ntmps59
    go_wp2_with fail
    go_ret
    exact ⟨rfl, rfl⟩
  · have hR0 : R = false := by rw [← HR.out]; have := HC.out; unfold isLet; simp; omega
    subst hR0
    have : decide ((97 : Int) ≤ c) = false := decide_eq_false (by omega)
    have : decide (c ≤ (122 : Int)) = true := decide_eq_true (by omega)
    have : decide ((65 : Int) ≤ c) = true := decide_eq_true (by omega)
    have : decide (c ≤ (90 : Int)) = false := decide_eq_false (by omega)
    have : (c == (95 : Int)) = false := by rw [beq_eq_false_iff_ne]; omega
    clear HC HR
    go_enter Tryd.func59, Tryd.ntmps59
    go_wp2_with fail
    go_ret
    exact ⟨rfl, rfl⟩
  · have hR0 : R = true := by rw [← HR.out]; have := HC.out; unfold isLet; simp; omega
    subst hR0
    have : decide ((97 : Int) ≤ c) = true := decide_eq_true (by omega)
    have : decide (c ≤ (122 : Int)) = true := decide_eq_true (by omega)
    have : decide ((65 : Int) ≤ c) = true := decide_eq_true (by omega)
    have : decide (c ≤ (90 : Int)) = false := decide_eq_false (by omega)
    have : (c == (95 : Int)) = false := by rw [beq_eq_false_iff_ne]; omega
    clear HC HR
    go_enter Tryd.func59, Tryd.ntmps59
    go_wp2_with fail
    go_ret
    exact ⟨rfl, rfl⟩
  · have hR0 : R = false := by rw [← HR.out]; have := HC.out; unfold isLet; simp; omega
    subst hR0
    have : decide ((97 : Int) ≤ c) = true := decide_eq_true (by omega)
    have : decide (c ≤ (122 : Int)) = false := decide_eq_false (by omega)
    have : decide ((65 : Int) ≤ c) = true := decide_eq_true (by omega)
    have : decide (c ≤ (90 : Int)) = false := decide_eq_false (by omega)
    have : (c == (95 : Int)) = false := by rw [beq_eq_false_iff_ne]; omega
    clear HC HR
    go_enter Tryd.func59, Tryd.ntmps59
    go_wp2_with fail
    go_ret
    exact ⟨rfl, rfl⟩
end Go.Proofs.YtopaeiogbijppaaDoor
