/- impl.validInstr. Printed by gen_instr.py. -/
import Derived.Test.YtopaeiogbijppaaDoorInB
namespace Go.Proofs.YtopaeiogbijppaaDoor
open Go.RowKit

set_option maxRecDepth 100000 in
set_option maxHeartbeats 8000000 in
theorem implIn_19 (nR nC nG nI : Nat) (A1 A2 A3 A4 : Option Addr) (c1 c2 c3 c4 : Nat) (m a b line : Int) (text : ByteArray) (w : World) (hR : nR ≤ 1048576) (hC : nC ≤ 1048576) (hG : nG ≤ 1048576) (hI : nI ≤ 1048576) (hts : text.size ≤ 1048576) (hl : 0 ≤ line) : Calls Tryd.prog 41 #[.agg #[.slice A1 nR c1, .slice A2 nC c2, .slice A3 nG c3, .int .i64 m, .slice A4 nI c4], .agg #[.int .i64 19, .int .i64 a, .int .i64 b, .int .i64 line, .string text]] w fun e w' => e = .returned (.bool (insOk nR nC nG nI 19 a b line text)) ∧ Below w.heap.size w w' := by
  have hl0 : decide (line < 0) = false := decide_eq_false (by omega)
  have hl1 : decide (0 ≤ line) = true := decide_eq_true hl
  have hR2 : insOk nR nC nG nI 19 a b line text = (aOk nR nC nG nI 19 a && (bOk 19 a b && tOk 19 text)) := by
    unfold insOk; rw [hl1]; rfl
  rw [show aOk nR nC nG nI 19 a = (inB a (nI : Int) || (false && a == -1)) from rfl, show bOk 19 a b = (b == 0) from rfl, show tOk 19 text = (text.toList == []) from rfl] at hR2
  obtain ⟨p, hp⟩ : ∃ x : Bool, (inB a (nI : Int)) = x := ⟨_, rfl⟩
  obtain ⟨q, hq⟩ : ∃ x : Bool, (b == 0) = x := ⟨_, rfl⟩
  obtain ⟨t, ht⟩ : ∃ x : Bool, (text.toList == []) = x := ⟨_, rfl⟩
  rw [hp, hq, ht] at hR2
  obtain ⟨R, hR0⟩ : ∃ R, insOk nR nC nG nI 19 a b line text = R := ⟨_, rfl⟩
  rw [hR0]
  rw [hR0] at hR2
  have HR := Lib.hid hR2
  clear hR0 hR2 hl1
  have HX := Lib.hid (ins_at w (.cells #[.slice A1 nR c1, .slice A2 nC c2, .slice A3 nG c3, .int .i64 m, .slice A4 nI c4] 40) 23 (.int .i64 19) (.int .i64 a) (.int .i64 b) (.int .i64 line) (.string text))
  have HB := Lib.hid (((Below.refl w.heap.size w).alloc (Nat.le_refl _) (.cells #[.slice A1 nR c1, .slice A2 nC c2, .slice A3 nG c3, .int .i64 m, .slice A4 nI c4] 40)).alloc (by simp) (.cells #[.int .i64 19, .int .i64 a, .int .i64 b, .int .i64 line, .string text] 23))
  cases p <;>
    (go_enter Tryd.func41, Tryd.ntmps41
     go_wp2_with fail
     refine (isLabel_any 19 _).mono ?_
     rintro e w' ⟨rfl, hw⟩
     obtain rfl := hw.symm
     rw [show isLab 19 = true from rfl]
     go_wp2_with fail
     refine (within_any a _ _ _ HX.out).mono ?_
     rintro e w' ⟨rfl, hw⟩
     obtain rfl := hw.symm
     rw [hp]
     go_upto_region 34 with (fail)
     cases q <;> cases t <;>
       (go_wp2_with fail
        go_ret
        exact ⟨by rw [HR.out]; rfl, HB.out⟩))
set_option maxRecDepth 100000 in
set_option maxHeartbeats 8000000 in
theorem implIn_20 (nR nC nG nI : Nat) (A1 A2 A3 A4 : Option Addr) (c1 c2 c3 c4 : Nat) (m a b line : Int) (text : ByteArray) (w : World) (hR : nR ≤ 1048576) (hC : nC ≤ 1048576) (hG : nG ≤ 1048576) (hI : nI ≤ 1048576) (hts : text.size ≤ 1048576) (hl : 0 ≤ line) : Calls Tryd.prog 41 #[.agg #[.slice A1 nR c1, .slice A2 nC c2, .slice A3 nG c3, .int .i64 m, .slice A4 nI c4], .agg #[.int .i64 20, .int .i64 a, .int .i64 b, .int .i64 line, .string text]] w fun e w' => e = .returned (.bool (insOk nR nC nG nI 20 a b line text)) ∧ Below w.heap.size w w' := by
  have hl0 : decide (line < 0) = false := decide_eq_false (by omega)
  have hl1 : decide (0 ≤ line) = true := decide_eq_true hl
  have hR2 : insOk nR nC nG nI 20 a b line text = (aOk nR nC nG nI 20 a && (bOk 20 a b && tOk 20 text)) := by
    unfold insOk; rw [hl1]; rfl
  rw [show aOk nR nC nG nI 20 a = (a == 0) from rfl, show bOk 20 a b = (b == 0) from rfl, show tOk 20 text = (text.toList == []) from rfl] at hR2
  obtain ⟨p, hp⟩ : ∃ x : Bool, (a == 0) = x := ⟨_, rfl⟩
  obtain ⟨q, hq⟩ : ∃ x : Bool, (b == 0) = x := ⟨_, rfl⟩
  obtain ⟨t, ht⟩ : ∃ x : Bool, (text.toList == []) = x := ⟨_, rfl⟩
  rw [hp, hq, ht] at hR2
  obtain ⟨R, hR0⟩ : ∃ R, insOk nR nC nG nI 20 a b line text = R := ⟨_, rfl⟩
  rw [hR0]
  rw [hR0] at hR2
  have HR := Lib.hid hR2
  clear hR0 hR2 hl1
  have HX := Lib.hid (ins_at w (.cells #[.slice A1 nR c1, .slice A2 nC c2, .slice A3 nG c3, .int .i64 m, .slice A4 nI c4] 40) 23 (.int .i64 20) (.int .i64 a) (.int .i64 b) (.int .i64 line) (.string text))
  have HB := Lib.hid (((Below.refl w.heap.size w).alloc (Nat.le_refl _) (.cells #[.slice A1 nR c1, .slice A2 nC c2, .slice A3 nG c3, .int .i64 m, .slice A4 nI c4] 40)).alloc (by simp) (.cells #[.int .i64 20, .int .i64 a, .int .i64 b, .int .i64 line, .string text] 23))
  all_goals
    (go_enter Tryd.func41, Tryd.ntmps41
     go_wp2_with fail
     refine (isLabel_any 20 _).mono ?_
     rintro e w' ⟨rfl, hw⟩
     obtain rfl := hw.symm
     rw [show isLab 20 = false from rfl]
     go_upto_region 34 with (fail)
     cases p <;> cases q <;> cases t <;>
       (go_wp2_with fail
        go_ret
        exact ⟨by rw [HR.out]; rfl, HB.out⟩))
set_option maxRecDepth 100000 in
set_option maxHeartbeats 8000000 in
theorem implIn_21 (nR nC nG nI : Nat) (A1 A2 A3 A4 : Option Addr) (c1 c2 c3 c4 : Nat) (m a b line : Int) (text : ByteArray) (w : World) (hR : nR ≤ 1048576) (hC : nC ≤ 1048576) (hG : nG ≤ 1048576) (hI : nI ≤ 1048576) (hts : text.size ≤ 1048576) (hl : 0 ≤ line) : Calls Tryd.prog 41 #[.agg #[.slice A1 nR c1, .slice A2 nC c2, .slice A3 nG c3, .int .i64 m, .slice A4 nI c4], .agg #[.int .i64 21, .int .i64 a, .int .i64 b, .int .i64 line, .string text]] w fun e w' => e = .returned (.bool (insOk nR nC nG nI 21 a b line text)) ∧ Below w.heap.size w w' := by
  have hl0 : decide (line < 0) = false := decide_eq_false (by omega)
  have hl1 : decide (0 ≤ line) = true := decide_eq_true hl
  have hR2 : insOk nR nC nG nI 21 a b line text = (aOk nR nC nG nI 21 a && (bOk 21 a b && tOk 21 text)) := by
    unfold insOk; rw [hl1]; rfl
  rw [show aOk nR nC nG nI 21 a = (a == 0) from rfl, show bOk 21 a b = (b == 0) from rfl, show tOk 21 text = (text.toList == []) from rfl] at hR2
  obtain ⟨p, hp⟩ : ∃ x : Bool, (a == 0) = x := ⟨_, rfl⟩
  obtain ⟨q, hq⟩ : ∃ x : Bool, (b == 0) = x := ⟨_, rfl⟩
  obtain ⟨t, ht⟩ : ∃ x : Bool, (text.toList == []) = x := ⟨_, rfl⟩
  rw [hp, hq, ht] at hR2
  obtain ⟨R, hR0⟩ : ∃ R, insOk nR nC nG nI 21 a b line text = R := ⟨_, rfl⟩
  rw [hR0]
  rw [hR0] at hR2
  have HR := Lib.hid hR2
  clear hR0 hR2 hl1
  have HX := Lib.hid (ins_at w (.cells #[.slice A1 nR c1, .slice A2 nC c2, .slice A3 nG c3, .int .i64 m, .slice A4 nI c4] 40) 23 (.int .i64 21) (.int .i64 a) (.int .i64 b) (.int .i64 line) (.string text))
  have HB := Lib.hid (((Below.refl w.heap.size w).alloc (Nat.le_refl _) (.cells #[.slice A1 nR c1, .slice A2 nC c2, .slice A3 nG c3, .int .i64 m, .slice A4 nI c4] 40)).alloc (by simp) (.cells #[.int .i64 21, .int .i64 a, .int .i64 b, .int .i64 line, .string text] 23))
  all_goals
    (go_enter Tryd.func41, Tryd.ntmps41
     go_wp2_with fail
     refine (isLabel_any 21 _).mono ?_
     rintro e w' ⟨rfl, hw⟩
     obtain rfl := hw.symm
     rw [show isLab 21 = false from rfl]
     go_upto_region 34 with (fail)
     cases p <;> cases q <;> cases t <;>
       (go_wp2_with fail
        go_ret
        exact ⟨by rw [HR.out]; rfl, HB.out⟩))
set_option maxRecDepth 100000 in
set_option maxHeartbeats 8000000 in
theorem implIn_22 (nR nC nG nI : Nat) (A1 A2 A3 A4 : Option Addr) (c1 c2 c3 c4 : Nat) (m a b line : Int) (text : ByteArray) (w : World) (hR : nR ≤ 1048576) (hC : nC ≤ 1048576) (hG : nG ≤ 1048576) (hI : nI ≤ 1048576) (hts : text.size ≤ 1048576) (hl : 0 ≤ line) : Calls Tryd.prog 41 #[.agg #[.slice A1 nR c1, .slice A2 nC c2, .slice A3 nG c3, .int .i64 m, .slice A4 nI c4], .agg #[.int .i64 22, .int .i64 a, .int .i64 b, .int .i64 line, .string text]] w fun e w' => e = .returned (.bool (insOk nR nC nG nI 22 a b line text)) ∧ Below w.heap.size w w' := by
  have hl0 : decide (line < 0) = false := decide_eq_false (by omega)
  have hl1 : decide (0 ≤ line) = true := decide_eq_true hl
  have hR2 : insOk nR nC nG nI 22 a b line text = (aOk nR nC nG nI 22 a && (bOk 22 a b && tOk 22 text)) := by
    unfold insOk; rw [hl1]; rfl
  rw [show aOk nR nC nG nI 22 a = (a == 0) from rfl, show bOk 22 a b = (b == 0) from rfl, show tOk 22 text = (text.toList == []) from rfl] at hR2
  obtain ⟨p, hp⟩ : ∃ x : Bool, (a == 0) = x := ⟨_, rfl⟩
  obtain ⟨q, hq⟩ : ∃ x : Bool, (b == 0) = x := ⟨_, rfl⟩
  obtain ⟨t, ht⟩ : ∃ x : Bool, (text.toList == []) = x := ⟨_, rfl⟩
  rw [hp, hq, ht] at hR2
  obtain ⟨R, hR0⟩ : ∃ R, insOk nR nC nG nI 22 a b line text = R := ⟨_, rfl⟩
  rw [hR0]
  rw [hR0] at hR2
  have HR := Lib.hid hR2
  clear hR0 hR2 hl1
  have HX := Lib.hid (ins_at w (.cells #[.slice A1 nR c1, .slice A2 nC c2, .slice A3 nG c3, .int .i64 m, .slice A4 nI c4] 40) 23 (.int .i64 22) (.int .i64 a) (.int .i64 b) (.int .i64 line) (.string text))
  have HB := Lib.hid (((Below.refl w.heap.size w).alloc (Nat.le_refl _) (.cells #[.slice A1 nR c1, .slice A2 nC c2, .slice A3 nG c3, .int .i64 m, .slice A4 nI c4] 40)).alloc (by simp) (.cells #[.int .i64 22, .int .i64 a, .int .i64 b, .int .i64 line, .string text] 23))
  all_goals
    (go_enter Tryd.func41, Tryd.ntmps41
     go_wp2_with fail
     refine (isLabel_any 22 _).mono ?_
     rintro e w' ⟨rfl, hw⟩
     obtain rfl := hw.symm
     rw [show isLab 22 = false from rfl]
     go_upto_region 34 with (fail)
     cases p <;> cases q <;> cases t <;>
       (go_wp2_with fail
        go_ret
        exact ⟨by rw [HR.out]; rfl, HB.out⟩))
set_option maxRecDepth 100000 in
set_option maxHeartbeats 8000000 in
theorem implIn_23 (nR nC nG nI : Nat) (A1 A2 A3 A4 : Option Addr) (c1 c2 c3 c4 : Nat) (m a b line : Int) (text : ByteArray) (w : World) (hR : nR ≤ 1048576) (hC : nC ≤ 1048576) (hG : nG ≤ 1048576) (hI : nI ≤ 1048576) (hts : text.size ≤ 1048576) (hl : 0 ≤ line) : Calls Tryd.prog 41 #[.agg #[.slice A1 nR c1, .slice A2 nC c2, .slice A3 nG c3, .int .i64 m, .slice A4 nI c4], .agg #[.int .i64 23, .int .i64 a, .int .i64 b, .int .i64 line, .string text]] w fun e w' => e = .returned (.bool (insOk nR nC nG nI 23 a b line text)) ∧ Below w.heap.size w w' := by
  have hl0 : decide (line < 0) = false := decide_eq_false (by omega)
  have hl1 : decide (0 ≤ line) = true := decide_eq_true hl
  have hR2 : insOk nR nC nG nI 23 a b line text = (aOk nR nC nG nI 23 a && (bOk 23 a b && tOk 23 text)) := by
    unfold insOk; rw [hl1]; rfl
  rw [show aOk nR nC nG nI 23 a = (a == 0) from rfl, show bOk 23 a b = (b == 0) from rfl, show tOk 23 text = (text.toList == []) from rfl] at hR2
  obtain ⟨p, hp⟩ : ∃ x : Bool, (a == 0) = x := ⟨_, rfl⟩
  obtain ⟨q, hq⟩ : ∃ x : Bool, (b == 0) = x := ⟨_, rfl⟩
  obtain ⟨t, ht⟩ : ∃ x : Bool, (text.toList == []) = x := ⟨_, rfl⟩
  rw [hp, hq, ht] at hR2
  obtain ⟨R, hR0⟩ : ∃ R, insOk nR nC nG nI 23 a b line text = R := ⟨_, rfl⟩
  rw [hR0]
  rw [hR0] at hR2
  have HR := Lib.hid hR2
  clear hR0 hR2 hl1
  have HX := Lib.hid (ins_at w (.cells #[.slice A1 nR c1, .slice A2 nC c2, .slice A3 nG c3, .int .i64 m, .slice A4 nI c4] 40) 23 (.int .i64 23) (.int .i64 a) (.int .i64 b) (.int .i64 line) (.string text))
  have HB := Lib.hid (((Below.refl w.heap.size w).alloc (Nat.le_refl _) (.cells #[.slice A1 nR c1, .slice A2 nC c2, .slice A3 nG c3, .int .i64 m, .slice A4 nI c4] 40)).alloc (by simp) (.cells #[.int .i64 23, .int .i64 a, .int .i64 b, .int .i64 line, .string text] 23))
  all_goals
    (go_enter Tryd.func41, Tryd.ntmps41
     go_wp2_with fail
     refine (isLabel_any 23 _).mono ?_
     rintro e w' ⟨rfl, hw⟩
     obtain rfl := hw.symm
     rw [show isLab 23 = false from rfl]
     go_upto_region 34 with (fail)
     cases p <;> cases q <;> cases t <;>
       (go_wp2_with fail
        go_ret
        exact ⟨by rw [HR.out]; rfl, HB.out⟩))
set_option maxRecDepth 100000 in
set_option maxHeartbeats 8000000 in
theorem implIn_24 (nR nC nG nI : Nat) (A1 A2 A3 A4 : Option Addr) (c1 c2 c3 c4 : Nat) (m a b line : Int) (text : ByteArray) (w : World) (hR : nR ≤ 1048576) (hC : nC ≤ 1048576) (hG : nG ≤ 1048576) (hI : nI ≤ 1048576) (hts : text.size ≤ 1048576) (hl : 0 ≤ line) : Calls Tryd.prog 41 #[.agg #[.slice A1 nR c1, .slice A2 nC c2, .slice A3 nG c3, .int .i64 m, .slice A4 nI c4], .agg #[.int .i64 24, .int .i64 a, .int .i64 b, .int .i64 line, .string text]] w fun e w' => e = .returned (.bool (insOk nR nC nG nI 24 a b line text)) ∧ Below w.heap.size w w' := by
  have hl0 : decide (line < 0) = false := decide_eq_false (by omega)
  have hl1 : decide (0 ≤ line) = true := decide_eq_true hl
  have hR2 : insOk nR nC nG nI 24 a b line text = (aOk nR nC nG nI 24 a && (bOk 24 a b && tOk 24 text)) := by
    unfold insOk; rw [hl1]; rfl
  rw [show aOk nR nC nG nI 24 a = (a == 0) from rfl, show bOk 24 a b = (b == 0) from rfl, show tOk 24 text = (text.toList == []) from rfl] at hR2
  obtain ⟨p, hp⟩ : ∃ x : Bool, (a == 0) = x := ⟨_, rfl⟩
  obtain ⟨q, hq⟩ : ∃ x : Bool, (b == 0) = x := ⟨_, rfl⟩
  obtain ⟨t, ht⟩ : ∃ x : Bool, (text.toList == []) = x := ⟨_, rfl⟩
  rw [hp, hq, ht] at hR2
  obtain ⟨R, hR0⟩ : ∃ R, insOk nR nC nG nI 24 a b line text = R := ⟨_, rfl⟩
  rw [hR0]
  rw [hR0] at hR2
  have HR := Lib.hid hR2
  clear hR0 hR2 hl1
  have HX := Lib.hid (ins_at w (.cells #[.slice A1 nR c1, .slice A2 nC c2, .slice A3 nG c3, .int .i64 m, .slice A4 nI c4] 40) 23 (.int .i64 24) (.int .i64 a) (.int .i64 b) (.int .i64 line) (.string text))
  have HB := Lib.hid (((Below.refl w.heap.size w).alloc (Nat.le_refl _) (.cells #[.slice A1 nR c1, .slice A2 nC c2, .slice A3 nG c3, .int .i64 m, .slice A4 nI c4] 40)).alloc (by simp) (.cells #[.int .i64 24, .int .i64 a, .int .i64 b, .int .i64 line, .string text] 23))
  all_goals
    (go_enter Tryd.func41, Tryd.ntmps41
     go_wp2_with fail
     refine (isLabel_any 24 _).mono ?_
     rintro e w' ⟨rfl, hw⟩
     obtain rfl := hw.symm
     rw [show isLab 24 = false from rfl]
     go_upto_region 34 with (fail)
     cases p <;> cases q <;> cases t <;>
       (go_wp2_with fail
        go_ret
        exact ⟨by rw [HR.out]; rfl, HB.out⟩))
set_option maxRecDepth 100000 in
set_option maxHeartbeats 8000000 in
theorem implIn_25 (nR nC nG nI : Nat) (A1 A2 A3 A4 : Option Addr) (c1 c2 c3 c4 : Nat) (m a b line : Int) (text : ByteArray) (w : World) (hR : nR ≤ 1048576) (hC : nC ≤ 1048576) (hG : nG ≤ 1048576) (hI : nI ≤ 1048576) (hts : text.size ≤ 1048576) (hl : 0 ≤ line) : Calls Tryd.prog 41 #[.agg #[.slice A1 nR c1, .slice A2 nC c2, .slice A3 nG c3, .int .i64 m, .slice A4 nI c4], .agg #[.int .i64 25, .int .i64 a, .int .i64 b, .int .i64 line, .string text]] w fun e w' => e = .returned (.bool (insOk nR nC nG nI 25 a b line text)) ∧ Below w.heap.size w w' := by
  have hl0 : decide (line < 0) = false := decide_eq_false (by omega)
  have hl1 : decide (0 ≤ line) = true := decide_eq_true hl
  have hR2 : insOk nR nC nG nI 25 a b line text = (aOk nR nC nG nI 25 a && (bOk 25 a b && tOk 25 text)) := by
    unfold insOk; rw [hl1]; rfl
  rw [show aOk nR nC nG nI 25 a = (a == 0) from rfl, show bOk 25 a b = (b == 0) from rfl, show tOk 25 text = (text.toList == []) from rfl] at hR2
  obtain ⟨p, hp⟩ : ∃ x : Bool, (a == 0) = x := ⟨_, rfl⟩
  obtain ⟨q, hq⟩ : ∃ x : Bool, (b == 0) = x := ⟨_, rfl⟩
  obtain ⟨t, ht⟩ : ∃ x : Bool, (text.toList == []) = x := ⟨_, rfl⟩
  rw [hp, hq, ht] at hR2
  obtain ⟨R, hR0⟩ : ∃ R, insOk nR nC nG nI 25 a b line text = R := ⟨_, rfl⟩
  rw [hR0]
  rw [hR0] at hR2
  have HR := Lib.hid hR2
  clear hR0 hR2 hl1
  have HX := Lib.hid (ins_at w (.cells #[.slice A1 nR c1, .slice A2 nC c2, .slice A3 nG c3, .int .i64 m, .slice A4 nI c4] 40) 23 (.int .i64 25) (.int .i64 a) (.int .i64 b) (.int .i64 line) (.string text))
  have HB := Lib.hid (((Below.refl w.heap.size w).alloc (Nat.le_refl _) (.cells #[.slice A1 nR c1, .slice A2 nC c2, .slice A3 nG c3, .int .i64 m, .slice A4 nI c4] 40)).alloc (by simp) (.cells #[.int .i64 25, .int .i64 a, .int .i64 b, .int .i64 line, .string text] 23))
  all_goals
    (go_enter Tryd.func41, Tryd.ntmps41
     go_wp2_with fail
     refine (isLabel_any 25 _).mono ?_
     rintro e w' ⟨rfl, hw⟩
     obtain rfl := hw.symm
     rw [show isLab 25 = false from rfl]
     go_upto_region 34 with (fail)
     cases p <;> cases q <;> cases t <;>
       (go_wp2_with fail
        go_ret
        exact ⟨by rw [HR.out]; rfl, HB.out⟩))
set_option maxRecDepth 100000 in
set_option maxHeartbeats 8000000 in
theorem implIn_26 (nR nC nG nI : Nat) (A1 A2 A3 A4 : Option Addr) (c1 c2 c3 c4 : Nat) (m a b line : Int) (text : ByteArray) (w : World) (hR : nR ≤ 1048576) (hC : nC ≤ 1048576) (hG : nG ≤ 1048576) (hI : nI ≤ 1048576) (hts : text.size ≤ 1048576) (hl : 0 ≤ line) : Calls Tryd.prog 41 #[.agg #[.slice A1 nR c1, .slice A2 nC c2, .slice A3 nG c3, .int .i64 m, .slice A4 nI c4], .agg #[.int .i64 26, .int .i64 a, .int .i64 b, .int .i64 line, .string text]] w fun e w' => e = .returned (.bool (insOk nR nC nG nI 26 a b line text)) ∧ Below w.heap.size w w' := by
  have hl0 : decide (line < 0) = false := decide_eq_false (by omega)
  have hl1 : decide (0 ≤ line) = true := decide_eq_true hl
  have hR2 : insOk nR nC nG nI 26 a b line text = (aOk nR nC nG nI 26 a && (bOk 26 a b && tOk 26 text)) := by
    unfold insOk; rw [hl1]; rfl
  rw [show aOk nR nC nG nI 26 a = (a == 0) from rfl, show bOk 26 a b = (b == 0) from rfl, show tOk 26 text = (text.toList == []) from rfl] at hR2
  obtain ⟨p, hp⟩ : ∃ x : Bool, (a == 0) = x := ⟨_, rfl⟩
  obtain ⟨q, hq⟩ : ∃ x : Bool, (b == 0) = x := ⟨_, rfl⟩
  obtain ⟨t, ht⟩ : ∃ x : Bool, (text.toList == []) = x := ⟨_, rfl⟩
  rw [hp, hq, ht] at hR2
  obtain ⟨R, hR0⟩ : ∃ R, insOk nR nC nG nI 26 a b line text = R := ⟨_, rfl⟩
  rw [hR0]
  rw [hR0] at hR2
  have HR := Lib.hid hR2
  clear hR0 hR2 hl1
  have HX := Lib.hid (ins_at w (.cells #[.slice A1 nR c1, .slice A2 nC c2, .slice A3 nG c3, .int .i64 m, .slice A4 nI c4] 40) 23 (.int .i64 26) (.int .i64 a) (.int .i64 b) (.int .i64 line) (.string text))
  have HB := Lib.hid (((Below.refl w.heap.size w).alloc (Nat.le_refl _) (.cells #[.slice A1 nR c1, .slice A2 nC c2, .slice A3 nG c3, .int .i64 m, .slice A4 nI c4] 40)).alloc (by simp) (.cells #[.int .i64 26, .int .i64 a, .int .i64 b, .int .i64 line, .string text] 23))
  all_goals
    (go_enter Tryd.func41, Tryd.ntmps41
     go_wp2_with fail
     refine (isLabel_any 26 _).mono ?_
     rintro e w' ⟨rfl, hw⟩
     obtain rfl := hw.symm
     rw [show isLab 26 = false from rfl]
     go_upto_region 34 with (fail)
     cases p <;> cases q <;> cases t <;>
       (go_wp2_with fail
        go_ret
        exact ⟨by rw [HR.out]; rfl, HB.out⟩))
set_option maxRecDepth 100000 in
set_option maxHeartbeats 8000000 in
theorem implIn_27 (nR nC nG nI : Nat) (A1 A2 A3 A4 : Option Addr) (c1 c2 c3 c4 : Nat) (m a b line : Int) (text : ByteArray) (w : World) (hR : nR ≤ 1048576) (hC : nC ≤ 1048576) (hG : nG ≤ 1048576) (hI : nI ≤ 1048576) (hts : text.size ≤ 1048576) (hl : 0 ≤ line) : Calls Tryd.prog 41 #[.agg #[.slice A1 nR c1, .slice A2 nC c2, .slice A3 nG c3, .int .i64 m, .slice A4 nI c4], .agg #[.int .i64 27, .int .i64 a, .int .i64 b, .int .i64 line, .string text]] w fun e w' => e = .returned (.bool (insOk nR nC nG nI 27 a b line text)) ∧ Below w.heap.size w w' := by
  have hl0 : decide (line < 0) = false := decide_eq_false (by omega)
  have hl1 : decide (0 ≤ line) = true := decide_eq_true hl
  have hR2 : insOk nR nC nG nI 27 a b line text = (aOk nR nC nG nI 27 a && (bOk 27 a b && tOk 27 text)) := by
    unfold insOk; rw [hl1]; rfl
  rw [show aOk nR nC nG nI 27 a = (inB a (nI : Int) || (false && a == -1)) from rfl, show bOk 27 a b = (b == 0) from rfl, show tOk 27 text = (text.toList == []) from rfl] at hR2
  obtain ⟨p, hp⟩ : ∃ x : Bool, (inB a (nI : Int)) = x := ⟨_, rfl⟩
  obtain ⟨q, hq⟩ : ∃ x : Bool, (b == 0) = x := ⟨_, rfl⟩
  obtain ⟨t, ht⟩ : ∃ x : Bool, (text.toList == []) = x := ⟨_, rfl⟩
  rw [hp, hq, ht] at hR2
  obtain ⟨R, hR0⟩ : ∃ R, insOk nR nC nG nI 27 a b line text = R := ⟨_, rfl⟩
  rw [hR0]
  rw [hR0] at hR2
  have HR := Lib.hid hR2
  clear hR0 hR2 hl1
  have HX := Lib.hid (ins_at w (.cells #[.slice A1 nR c1, .slice A2 nC c2, .slice A3 nG c3, .int .i64 m, .slice A4 nI c4] 40) 23 (.int .i64 27) (.int .i64 a) (.int .i64 b) (.int .i64 line) (.string text))
  have HB := Lib.hid (((Below.refl w.heap.size w).alloc (Nat.le_refl _) (.cells #[.slice A1 nR c1, .slice A2 nC c2, .slice A3 nG c3, .int .i64 m, .slice A4 nI c4] 40)).alloc (by simp) (.cells #[.int .i64 27, .int .i64 a, .int .i64 b, .int .i64 line, .string text] 23))
  cases p <;>
    (go_enter Tryd.func41, Tryd.ntmps41
     go_wp2_with fail
     refine (isLabel_any 27 _).mono ?_
     rintro e w' ⟨rfl, hw⟩
     obtain rfl := hw.symm
     rw [show isLab 27 = true from rfl]
     go_wp2_with fail
     refine (within_any a _ _ _ HX.out).mono ?_
     rintro e w' ⟨rfl, hw⟩
     obtain rfl := hw.symm
     rw [hp]
     go_upto_region 34 with (fail)
     cases q <;> cases t <;>
       (go_wp2_with fail
        go_ret
        exact ⟨by rw [HR.out]; rfl, HB.out⟩))
set_option maxRecDepth 100000 in
set_option maxHeartbeats 8000000 in
theorem implIn_28 (nR nC nG nI : Nat) (A1 A2 A3 A4 : Option Addr) (c1 c2 c3 c4 : Nat) (m a b line : Int) (text : ByteArray) (w : World) (hR : nR ≤ 1048576) (hC : nC ≤ 1048576) (hG : nG ≤ 1048576) (hI : nI ≤ 1048576) (hts : text.size ≤ 1048576) (hl : 0 ≤ line) : Calls Tryd.prog 41 #[.agg #[.slice A1 nR c1, .slice A2 nC c2, .slice A3 nG c3, .int .i64 m, .slice A4 nI c4], .agg #[.int .i64 28, .int .i64 a, .int .i64 b, .int .i64 line, .string text]] w fun e w' => e = .returned (.bool (insOk nR nC nG nI 28 a b line text)) ∧ Below w.heap.size w w' := by
  have hl0 : decide (line < 0) = false := decide_eq_false (by omega)
  have hl1 : decide (0 ≤ line) = true := decide_eq_true hl
  have hR2 : insOk nR nC nG nI 28 a b line text = (aOk nR nC nG nI 28 a && (bOk 28 a b && tOk 28 text)) := by
    unfold insOk; rw [hl1]; rfl
  rw [show aOk nR nC nG nI 28 a = (a == 0) from rfl, show bOk 28 a b = (b == 0) from rfl, show tOk 28 text = (text.toList == []) from rfl] at hR2
  obtain ⟨p, hp⟩ : ∃ x : Bool, (a == 0) = x := ⟨_, rfl⟩
  obtain ⟨q, hq⟩ : ∃ x : Bool, (b == 0) = x := ⟨_, rfl⟩
  obtain ⟨t, ht⟩ : ∃ x : Bool, (text.toList == []) = x := ⟨_, rfl⟩
  rw [hp, hq, ht] at hR2
  obtain ⟨R, hR0⟩ : ∃ R, insOk nR nC nG nI 28 a b line text = R := ⟨_, rfl⟩
  rw [hR0]
  rw [hR0] at hR2
  have HR := Lib.hid hR2
  clear hR0 hR2 hl1
  have HX := Lib.hid (ins_at w (.cells #[.slice A1 nR c1, .slice A2 nC c2, .slice A3 nG c3, .int .i64 m, .slice A4 nI c4] 40) 23 (.int .i64 28) (.int .i64 a) (.int .i64 b) (.int .i64 line) (.string text))
  have HB := Lib.hid (((Below.refl w.heap.size w).alloc (Nat.le_refl _) (.cells #[.slice A1 nR c1, .slice A2 nC c2, .slice A3 nG c3, .int .i64 m, .slice A4 nI c4] 40)).alloc (by simp) (.cells #[.int .i64 28, .int .i64 a, .int .i64 b, .int .i64 line, .string text] 23))
  all_goals
    (go_enter Tryd.func41, Tryd.ntmps41
     go_wp2_with fail
     refine (isLabel_any 28 _).mono ?_
     rintro e w' ⟨rfl, hw⟩
     obtain rfl := hw.symm
     rw [show isLab 28 = false from rfl]
     go_upto_region 34 with (fail)
     cases p <;> cases q <;> cases t <;>
       (go_wp2_with fail
        go_ret
        exact ⟨by rw [HR.out]; rfl, HB.out⟩))
set_option maxRecDepth 100000 in
set_option maxHeartbeats 8000000 in
theorem implIn_29 (nR nC nG nI : Nat) (A1 A2 A3 A4 : Option Addr) (c1 c2 c3 c4 : Nat) (m a b line : Int) (text : ByteArray) (w : World) (hR : nR ≤ 1048576) (hC : nC ≤ 1048576) (hG : nG ≤ 1048576) (hI : nI ≤ 1048576) (hts : text.size ≤ 1048576) (hl : 0 ≤ line) : Calls Tryd.prog 41 #[.agg #[.slice A1 nR c1, .slice A2 nC c2, .slice A3 nG c3, .int .i64 m, .slice A4 nI c4], .agg #[.int .i64 29, .int .i64 a, .int .i64 b, .int .i64 line, .string text]] w fun e w' => e = .returned (.bool (insOk nR nC nG nI 29 a b line text)) ∧ Below w.heap.size w w' := by
  have hl0 : decide (line < 0) = false := decide_eq_false (by omega)
  have hl1 : decide (0 ≤ line) = true := decide_eq_true hl
  have hR2 : insOk nR nC nG nI 29 a b line text = (aOk nR nC nG nI 29 a && (bOk 29 a b && tOk 29 text)) := by
    unfold insOk; rw [hl1]; rfl
  rw [show aOk nR nC nG nI 29 a = (a == 0) from rfl, show bOk 29 a b = (b == 0) from rfl, show tOk 29 text = (text.toList == []) from rfl] at hR2
  obtain ⟨p, hp⟩ : ∃ x : Bool, (a == 0) = x := ⟨_, rfl⟩
  obtain ⟨q, hq⟩ : ∃ x : Bool, (b == 0) = x := ⟨_, rfl⟩
  obtain ⟨t, ht⟩ : ∃ x : Bool, (text.toList == []) = x := ⟨_, rfl⟩
  rw [hp, hq, ht] at hR2
  obtain ⟨R, hR0⟩ : ∃ R, insOk nR nC nG nI 29 a b line text = R := ⟨_, rfl⟩
  rw [hR0]
  rw [hR0] at hR2
  have HR := Lib.hid hR2
  clear hR0 hR2 hl1
  have HX := Lib.hid (ins_at w (.cells #[.slice A1 nR c1, .slice A2 nC c2, .slice A3 nG c3, .int .i64 m, .slice A4 nI c4] 40) 23 (.int .i64 29) (.int .i64 a) (.int .i64 b) (.int .i64 line) (.string text))
  have HB := Lib.hid (((Below.refl w.heap.size w).alloc (Nat.le_refl _) (.cells #[.slice A1 nR c1, .slice A2 nC c2, .slice A3 nG c3, .int .i64 m, .slice A4 nI c4] 40)).alloc (by simp) (.cells #[.int .i64 29, .int .i64 a, .int .i64 b, .int .i64 line, .string text] 23))
  all_goals
    (go_enter Tryd.func41, Tryd.ntmps41
     go_wp2_with fail
     refine (isLabel_any 29 _).mono ?_
     rintro e w' ⟨rfl, hw⟩
     obtain rfl := hw.symm
     rw [show isLab 29 = false from rfl]
     go_upto_region 34 with (fail)
     cases p <;> cases q <;> cases t <;>
       (go_wp2_with fail
        go_ret
        exact ⟨by rw [HR.out]; rfl, HB.out⟩))
set_option maxRecDepth 100000 in
set_option maxHeartbeats 8000000 in
theorem implIn_30 (nR nC nG nI : Nat) (A1 A2 A3 A4 : Option Addr) (c1 c2 c3 c4 : Nat) (m a b line : Int) (text : ByteArray) (w : World) (hR : nR ≤ 1048576) (hC : nC ≤ 1048576) (hG : nG ≤ 1048576) (hI : nI ≤ 1048576) (hts : text.size ≤ 1048576) (hl : 0 ≤ line) : Calls Tryd.prog 41 #[.agg #[.slice A1 nR c1, .slice A2 nC c2, .slice A3 nG c3, .int .i64 m, .slice A4 nI c4], .agg #[.int .i64 30, .int .i64 a, .int .i64 b, .int .i64 line, .string text]] w fun e w' => e = .returned (.bool (insOk nR nC nG nI 30 a b line text)) ∧ Below w.heap.size w w' := by
  have hl0 : decide (line < 0) = false := decide_eq_false (by omega)
  have hl1 : decide (0 ≤ line) = true := decide_eq_true hl
  have hR2 : insOk nR nC nG nI 30 a b line text = (aOk nR nC nG nI 30 a && (bOk 30 a b && tOk 30 text)) := by
    unfold insOk; rw [hl1]; rfl
  rw [show aOk nR nC nG nI 30 a = (a == 0) from rfl, show bOk 30 a b = (b == 0) from rfl, show tOk 30 text = (text.toList == []) from rfl] at hR2
  obtain ⟨p, hp⟩ : ∃ x : Bool, (a == 0) = x := ⟨_, rfl⟩
  obtain ⟨q, hq⟩ : ∃ x : Bool, (b == 0) = x := ⟨_, rfl⟩
  obtain ⟨t, ht⟩ : ∃ x : Bool, (text.toList == []) = x := ⟨_, rfl⟩
  rw [hp, hq, ht] at hR2
  obtain ⟨R, hR0⟩ : ∃ R, insOk nR nC nG nI 30 a b line text = R := ⟨_, rfl⟩
  rw [hR0]
  rw [hR0] at hR2
  have HR := Lib.hid hR2
  clear hR0 hR2 hl1
  have HX := Lib.hid (ins_at w (.cells #[.slice A1 nR c1, .slice A2 nC c2, .slice A3 nG c3, .int .i64 m, .slice A4 nI c4] 40) 23 (.int .i64 30) (.int .i64 a) (.int .i64 b) (.int .i64 line) (.string text))
  have HB := Lib.hid (((Below.refl w.heap.size w).alloc (Nat.le_refl _) (.cells #[.slice A1 nR c1, .slice A2 nC c2, .slice A3 nG c3, .int .i64 m, .slice A4 nI c4] 40)).alloc (by simp) (.cells #[.int .i64 30, .int .i64 a, .int .i64 b, .int .i64 line, .string text] 23))
  all_goals
    (go_enter Tryd.func41, Tryd.ntmps41
     go_wp2_with fail
     refine (isLabel_any 30 _).mono ?_
     rintro e w' ⟨rfl, hw⟩
     obtain rfl := hw.symm
     rw [show isLab 30 = false from rfl]
     go_upto_region 34 with (fail)
     cases p <;> cases q <;> cases t <;>
       (go_wp2_with fail
        go_ret
        exact ⟨by rw [HR.out]; rfl, HB.out⟩))
end Go.Proofs.YtopaeiogbijppaaDoor
