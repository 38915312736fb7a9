/- Parts of spec.l28Instr. Printed by gen_instr.py. -/
import Derived.Test.YtopaeiogbijppaaDoorInB
import Derived.Test.YtopaeiogbijppaaDoorCsS
namespace Go.Proofs.YtopaeiogbijppaaDoor
open Go.RowKit

set_option maxHeartbeats 1000000 in
theorem l1In_any (x lo hi : Int) (w : World) : Calls Tryd.prog 30 #[.int .i64 x, .int .i64 lo, .int .i64 hi] w fun e w' => e = .returned (.bool (decide (lo ≤ x) && decide (x ≤ hi))) ∧ w' = w := by
  obtain ⟨p, hp⟩ : ∃ b : Bool, decide (lo ≤ x) = b := ⟨_, rfl⟩
  obtain ⟨q, hq⟩ : ∃ b : Bool, decide (x ≤ hi) = b := ⟨_, rfl⟩
  rw [hp, hq]
  cases p <;> cases q <;>
    (go_enter Tryd.func30, Tryd.ntmps30
     go_wp2_with fail
     go_ret
     exact ⟨rfl, rfl⟩)
theorem in_inB (a : Int) (n : Int) : (decide (0 ≤ a) && decide (a ≤ n - 1)) = inB a n := by
  unfold inB
  congr 1
  exact decide_eq_decide.2 (by omega)
theorem in_23 (a : Int) : (decide (0 ≤ a) && decide (a ≤ 23)) = inB a 24 := in_inB a 24
theorem in_54 (a : Int) : (decide (0 ≤ a) && decide (a ≤ 54)) = inB a 55 := in_inB a 55
theorem in_12 (a : Int) : (decide (1 ≤ a) && decide (a ≤ 2)) = ((a == 1) || (a == 2)) := by
  rw [Bool.eq_iff_iff]
  simp
  omega
set_option maxHeartbeats 2000000 in
theorem l10Leaf_1 (a : Int) (w : World) : Calls Tryd.prog 63 #[.agg #[.slice none 0 0, .slice none 0 0, .slice none 0 0, .int .i64 0], .int .i64 0, .agg #[.int .i64 1, .int .i64 0, .int .i64 a, .int .i64 0, .string ⟨#[]⟩, .slice none 0 0]] w fun e w' => e = .returned (.bool (decide (-999999999999 ≤ a) && decide (a ≤ 999999999999))) ∧ Below w.heap.size w w' := by
  obtain ⟨p, hp⟩ : ∃ b : Bool, decide (-999999999999 ≤ a) = b := ⟨_, rfl⟩
  obtain ⟨q, hq⟩ : ∃ b : Bool, decide (a ≤ 999999999999) = b := ⟨_, rfl⟩
  rw [hp, hq]
  cases p <;> cases q <;>
    (go_enter Tryd.func63, Tryd.ntmps63
     go_wp2_with fail
     go_ret
     exact ⟨rfl, ((Below.refl _ _).alloc (Nat.le_refl _) _).alloc (by simp) _⟩)
set_option maxHeartbeats 2000000 in
theorem l10Leaf_10 (a : Int) (w : World) : Calls Tryd.prog 63 #[.agg #[.slice none 0 0, .slice none 0 0, .slice none 0 0, .int .i64 0], .int .i64 0, .agg #[.int .i64 10, .int .i64 0, .int .i64 a, .int .i64 0, .string ⟨#[]⟩, .slice none 0 0]] w fun e w' => e = .returned (.bool ((a == 1) || (a == 2))) ∧ Below w.heap.size w w' := by
  rw [← in_12]
  have HB := Lib.hid (((Below.refl w.heap.size w).alloc (Nat.le_refl _) (.cells #[.slice none 0 0, .slice none 0 0, .slice none 0 0, .int .i64 0] 96)).alloc (by simp) (.cells #[.int .i64 10, .int .i64 0, .int .i64 a, .int .i64 0, .string ⟨#[]⟩, .slice none 0 0] 91))
  go_enter Tryd.func63, Tryd.ntmps63
  go_wp2_with fail
  refine (l1In_any a 1 2 _).mono ?_
  rintro e w' ⟨rfl, hw⟩
  obtain rfl := hw.symm
  go_wp2_with fail
  go_ret
  exact ⟨rfl, HB.out⟩
set_option maxRecDepth 100000 in
set_option maxHeartbeats 2000000 in
theorem specIn_lo (op : Int) (nR nC nG nI : Nat) (A1 A2 A3 A4 : Option Addr) (c1 c2 c3 c4 : Nat) (m a b line : Int) (text : ByteArray) (w : World) (hR : nR ≤ 1048576) (hC : nC ≤ 1048576) (hG : nG ≤ 1048576) (hI : nI ≤ 1048576) (hts : text.size ≤ 1048576) (h : op < 1) : Calls Tryd.prog 33 #[.agg #[.slice A1 nR c1, .slice A2 nC c2, .slice A3 nG c3, .int .i64 m, .slice A4 nI c4], .agg #[.int .i64 op, .int .i64 a, .int .i64 b, .int .i64 line, .string text]] w fun e w' => e = .returned (.bool (insOk nR nC nG nI op a b line text)) ∧ Below w.heap.size w w' := by
  rw [insOk_op (by omega)]
  have : decide (op < 1) = true := decide_eq_true (by omega)
  go_enter Tryd.func33, Tryd.ntmps33
  go_wp2_with fail
  go_ret
  exact ⟨rfl, ((Below.refl _ _).alloc (Nat.le_refl _) _).alloc (by simp) _⟩
set_option maxRecDepth 100000 in
set_option maxHeartbeats 2000000 in
theorem specIn_hi (op : Int) (nR nC nG nI : Nat) (A1 A2 A3 A4 : Option Addr) (c1 c2 c3 c4 : Nat) (m a b line : Int) (text : ByteArray) (w : World) (hR : nR ≤ 1048576) (hC : nC ≤ 1048576) (hG : nG ≤ 1048576) (hI : nI ≤ 1048576) (hts : text.size ≤ 1048576) (h : 30 < op) : Calls Tryd.prog 33 #[.agg #[.slice A1 nR c1, .slice A2 nC c2, .slice A3 nG c3, .int .i64 m, .slice A4 nI c4], .agg #[.int .i64 op, .int .i64 a, .int .i64 b, .int .i64 line, .string text]] w fun e w' => e = .returned (.bool (insOk nR nC nG nI op a b line text)) ∧ Below w.heap.size w w' := by
  rw [insOk_op (by omega)]
  have : decide (op < 1) = false := decide_eq_false (by omega)
  have : decide (30 < op) = true := decide_eq_true (by omega)
  go_enter Tryd.func33, Tryd.ntmps33
  go_wp2_with fail
  go_ret
  exact ⟨rfl, ((Below.refl _ _).alloc (Nat.le_refl _) _).alloc (by simp) _⟩
set_option maxRecDepth 100000 in
set_option maxHeartbeats 2000000 in
theorem specIn_line (op : Int) (nR nC nG nI : Nat) (A1 A2 A3 A4 : Option Addr) (c1 c2 c3 c4 : Nat) (m a b line : Int) (text : ByteArray) (w : World) (hR : nR ≤ 1048576) (hC : nC ≤ 1048576) (hG : nG ≤ 1048576) (hI : nI ≤ 1048576) (hts : text.size ≤ 1048576) (h : line < 0 ∧ 1 ≤ op ∧ op ≤ 30) : Calls Tryd.prog 33 #[.agg #[.slice A1 nR c1, .slice A2 nC c2, .slice A3 nG c3, .int .i64 m, .slice A4 nI c4], .agg #[.int .i64 op, .int .i64 a, .int .i64 b, .int .i64 line, .string text]] w fun e w' => e = .returned (.bool (insOk nR nC nG nI op a b line text)) ∧ Below w.heap.size w w' := by
  rw [insOk_op (by omega)]
  have : decide (op < 1) = false := decide_eq_false (by omega)
  have : decide (30 < op) = false := decide_eq_false (by omega)
  have : decide (line < 0) = true := decide_eq_true (by omega)
  go_enter Tryd.func33, Tryd.ntmps33
  go_wp2_with fail
  go_ret
  exact ⟨rfl, ((Below.refl _ _).alloc (Nat.le_refl _) _).alloc (by simp) _⟩
end Go.Proofs.YtopaeiogbijppaaDoor
