/- impl.validInstr. Printed by gen_instr.py. -/
import Derived.Test.YtopaeiogbijppaaDoorInB
namespace Go.Proofs.YtopaeiogbijppaaDoor
open Go.RowKit

set_option maxRecDepth 100000 in
set_option maxHeartbeats 8000000 in
theorem implIn_1 (nR nC nG nI : Nat) (A1 A2 A3 A4 : Option Addr) (c1 c2 c3 c4 : Nat) (m a b line : Int) (text : ByteArray) (w : World) (hR : nR ≤ 1048576) (hC : nC ≤ 1048576) (hG : nG ≤ 1048576) (hI : nI ≤ 1048576) (hts : text.size ≤ 1048576) (hl : 0 ≤ line) : Calls Tryd.prog 41 #[.agg #[.slice A1 nR c1, .slice A2 nC c2, .slice A3 nG c3, .int .i64 m, .slice A4 nI c4], .agg #[.int .i64 1, .int .i64 a, .int .i64 b, .int .i64 line, .string text]] w fun e w' => e = .returned (.bool (insOk nR nC nG nI 1 a b line text)) ∧ Below w.heap.size w w' := by
  have hl0 : decide (line < 0) = false := decide_eq_false (by omega)
  have hl1 : decide (0 ≤ line) = true := decide_eq_true hl
  have hR2 : insOk nR nC nG nI 1 a b line text = (aOk nR nC nG nI 1 a && (bOk 1 a b && tOk 1 text)) := by
    unfold insOk; rw [hl1]; rfl
  rw [show aOk nR nC nG nI 1 a = (decide (-999999999999 ≤ a) && decide (a ≤ 999999999999)) from rfl, show bOk 1 a b = (b == 0) from rfl, show tOk 1 text = (text.toList == []) from rfl] at hR2
  obtain ⟨p, hp⟩ : ∃ x : Bool, (decide (-999999999999 ≤ a)) = x := ⟨_, rfl⟩
  obtain ⟨p2, hp2⟩ : ∃ x : Bool, (decide (a ≤ 999999999999)) = x := ⟨_, rfl⟩
  obtain ⟨q, hq⟩ : ∃ x : Bool, (b == 0) = x := ⟨_, rfl⟩
  obtain ⟨t, ht⟩ : ∃ x : Bool, (text.toList == []) = x := ⟨_, rfl⟩
  rw [hp, hp2, hq, ht] at hR2
  obtain ⟨R, hR0⟩ : ∃ R, insOk nR nC nG nI 1 a b line text = R := ⟨_, rfl⟩
  rw [hR0]
  rw [hR0] at hR2
  have HR := Lib.hid hR2
  clear hR0 hR2 hl1
  have HX := Lib.hid (ins_at w (.cells #[.slice A1 nR c1, .slice A2 nC c2, .slice A3 nG c3, .int .i64 m, .slice A4 nI c4] 40) 23 (.int .i64 1) (.int .i64 a) (.int .i64 b) (.int .i64 line) (.string text))
  have HB := Lib.hid (((Below.refl w.heap.size w).alloc (Nat.le_refl _) (.cells #[.slice A1 nR c1, .slice A2 nC c2, .slice A3 nG c3, .int .i64 m, .slice A4 nI c4] 40)).alloc (by simp) (.cells #[.int .i64 1, .int .i64 a, .int .i64 b, .int .i64 line, .string text] 23))
  cases p <;>
    (go_enter Tryd.func41, Tryd.ntmps41
     go_wp2_with fail
     refine (isLabel_any 1 _).mono ?_
     rintro e w' ⟨rfl, hw⟩
     obtain rfl := hw.symm
     rw [show isLab 1 = false from rfl]
     go_upto_region 34 with (fail)
     cases p2 <;> cases q <;> cases t <;>
       (go_wp2_with fail
        go_ret
        exact ⟨by rw [HR.out]; rfl, HB.out⟩))
set_option maxRecDepth 100000 in
set_option maxHeartbeats 8000000 in
theorem implIn_2 (nR nC nG nI : Nat) (A1 A2 A3 A4 : Option Addr) (c1 c2 c3 c4 : Nat) (m a b line : Int) (text : ByteArray) (w : World) (hR : nR ≤ 1048576) (hC : nC ≤ 1048576) (hG : nG ≤ 1048576) (hI : nI ≤ 1048576) (hts : text.size ≤ 1048576) (hl : 0 ≤ line) : Calls Tryd.prog 41 #[.agg #[.slice A1 nR c1, .slice A2 nC c2, .slice A3 nG c3, .int .i64 m, .slice A4 nI c4], .agg #[.int .i64 2, .int .i64 a, .int .i64 b, .int .i64 line, .string text]] w fun e w' => e = .returned (.bool (insOk nR nC nG nI 2 a b line text)) ∧ Below w.heap.size w w' := by
  have hl0 : decide (line < 0) = false := decide_eq_false (by omega)
  have hl1 : decide (0 ≤ line) = true := decide_eq_true hl
  have hR2 : insOk nR nC nG nI 2 a b line text = (aOk nR nC nG nI 2 a && (bOk 2 a b && tOk 2 text)) := by
    unfold insOk; rw [hl1]; rfl
  rw [show aOk nR nC nG nI 2 a = (a == 0) from rfl, show bOk 2 a b = (b == 0) from rfl, show tOk 2 text = decide ((text.size : Int) ≤ 120) from rfl] at hR2
  obtain ⟨p, hp⟩ : ∃ x : Bool, (a == 0) = x := ⟨_, rfl⟩
  obtain ⟨q, hq⟩ : ∃ x : Bool, (b == 0) = x := ⟨_, rfl⟩
  obtain ⟨t, ht⟩ : ∃ x : Bool, (decide ((text.size : Int) ≤ 120)) = x := ⟨_, rfl⟩
  rw [hp, hq, ht] at hR2
  obtain ⟨R, hR0⟩ : ∃ R, insOk nR nC nG nI 2 a b line text = R := ⟨_, rfl⟩
  rw [hR0]
  rw [hR0] at hR2
  have HR := Lib.hid hR2
  clear hR0 hR2 hl1
  have HX := Lib.hid (ins_at w (.cells #[.slice A1 nR c1, .slice A2 nC c2, .slice A3 nG c3, .int .i64 m, .slice A4 nI c4] 40) 23 (.int .i64 2) (.int .i64 a) (.int .i64 b) (.int .i64 line) (.string text))
  have HB := Lib.hid (((Below.refl w.heap.size w).alloc (Nat.le_refl _) (.cells #[.slice A1 nR c1, .slice A2 nC c2, .slice A3 nG c3, .int .i64 m, .slice A4 nI c4] 40)).alloc (by simp) (.cells #[.int .i64 2, .int .i64 a, .int .i64 b, .int .i64 line, .string text] 23))
  all_goals
    (go_enter Tryd.func41, Tryd.ntmps41
     go_wp2_with fail
     refine (isLabel_any 2 _).mono ?_
     rintro e w' ⟨rfl, hw⟩
     obtain rfl := hw.symm
     rw [show isLab 2 = false from rfl]
     go_upto_region 34 with (fail)
     cases p <;> cases q <;> cases t <;>
       (go_wp2_with fail
        go_ret
        exact ⟨by rw [HR.out]; rfl, HB.out⟩))
set_option maxRecDepth 100000 in
set_option maxHeartbeats 8000000 in
theorem implIn_3 (nR nC nG nI : Nat) (A1 A2 A3 A4 : Option Addr) (c1 c2 c3 c4 : Nat) (m a b line : Int) (text : ByteArray) (w : World) (hR : nR ≤ 1048576) (hC : nC ≤ 1048576) (hG : nG ≤ 1048576) (hI : nI ≤ 1048576) (hts : text.size ≤ 1048576) (hl : 0 ≤ line) : Calls Tryd.prog 41 #[.agg #[.slice A1 nR c1, .slice A2 nC c2, .slice A3 nG c3, .int .i64 m, .slice A4 nI c4], .agg #[.int .i64 3, .int .i64 a, .int .i64 b, .int .i64 line, .string text]] w fun e w' => e = .returned (.bool (insOk nR nC nG nI 3 a b line text)) ∧ Below w.heap.size w w' := by
  have hl0 : decide (line < 0) = false := decide_eq_false (by omega)
  have hl1 : decide (0 ≤ line) = true := decide_eq_true hl
  have hR2 : insOk nR nC nG nI 3 a b line text = (aOk nR nC nG nI 3 a && (bOk 3 a b && tOk 3 text)) := by
    unfold insOk; rw [hl1]; rfl
  rw [show aOk nR nC nG nI 3 a = (a == 0) from rfl, show bOk 3 a b = (b == 0) from rfl, show tOk 3 text = csOk (bl text) from rfl] at hR2
  obtain ⟨p, hp⟩ : ∃ x : Bool, (a == 0) = x := ⟨_, rfl⟩
  obtain ⟨q, hq⟩ : ∃ x : Bool, (b == 0) = x := ⟨_, rfl⟩
  obtain ⟨t, ht⟩ : ∃ x : Bool, (csOk (bl text)) = x := ⟨_, rfl⟩
  rw [hp, hq, ht] at hR2
  have HCS := Lib.hid (isCsetText_any text)
  rw [ht] at HCS
  obtain ⟨R, hR0⟩ : ∃ R, insOk nR nC nG nI 3 a b line text = R := ⟨_, rfl⟩
  rw [hR0]
  rw [hR0] at hR2
  have HR := Lib.hid hR2
  clear hR0 hR2 hl1
  have HX := Lib.hid (ins_at w (.cells #[.slice A1 nR c1, .slice A2 nC c2, .slice A3 nG c3, .int .i64 m, .slice A4 nI c4] 40) 23 (.int .i64 3) (.int .i64 a) (.int .i64 b) (.int .i64 line) (.string text))
  have HB := Lib.hid (((Below.refl w.heap.size w).alloc (Nat.le_refl _) (.cells #[.slice A1 nR c1, .slice A2 nC c2, .slice A3 nG c3, .int .i64 m, .slice A4 nI c4] 40)).alloc (by simp) (.cells #[.int .i64 3, .int .i64 a, .int .i64 b, .int .i64 line, .string text] 23))
  have HX5 := Lib.hid (ins5_at w (.cells #[.slice A1 nR c1, .slice A2 nC c2, .slice A3 nG c3, .int .i64 m, .slice A4 nI c4] 40) 23 (.int .i64 3) (.int .i64 a) (.int .i64 b) (.int .i64 line) (.string text))
  all_goals
    (go_enter Tryd.func41, Tryd.ntmps41
     go_wp2_with fail
     refine (HCS.out _ (by unfold maxLen; omega)).mono ?_
     rintro e w1 ⟨rfl, hb1⟩
     have HB1 := Lib.hid (HB.out.trans (Below.mono hb1 HB.out.size))
     obtain ⟨x0, x1, x2, x3, x4⟩ := lift5 HX5.out hb1
     clear hb1
     go_wp2_with fail
     refine (isLabel_any 3 _).mono ?_
     rintro e w' ⟨rfl, hw⟩
     obtain rfl := hw.symm
     rw [show isLab 3 = false from rfl]
     go_upto_region 34 with (fail)
     cases p <;> cases q <;> cases t <;>
       (go_wp2_with fail
        go_ret
        exact ⟨by rw [HR.out]; rfl, HB1.out⟩))
set_option maxRecDepth 100000 in
set_option maxHeartbeats 8000000 in
theorem implIn_4 (nR nC nG nI : Nat) (A1 A2 A3 A4 : Option Addr) (c1 c2 c3 c4 : Nat) (m a b line : Int) (text : ByteArray) (w : World) (hR : nR ≤ 1048576) (hC : nC ≤ 1048576) (hG : nG ≤ 1048576) (hI : nI ≤ 1048576) (hts : text.size ≤ 1048576) (hl : 0 ≤ line) : Calls Tryd.prog 41 #[.agg #[.slice A1 nR c1, .slice A2 nC c2, .slice A3 nG c3, .int .i64 m, .slice A4 nI c4], .agg #[.int .i64 4, .int .i64 a, .int .i64 b, .int .i64 line, .string text]] w fun e w' => e = .returned (.bool (insOk nR nC nG nI 4 a b line text)) ∧ Below w.heap.size w w' := by
  have hl0 : decide (line < 0) = false := decide_eq_false (by omega)
  have hl1 : decide (0 ≤ line) = true := decide_eq_true hl
  have hR2 : insOk nR nC nG nI 4 a b line text = (aOk nR nC nG nI 4 a && (bOk 4 a b && tOk 4 text)) := by
    unfold insOk; rw [hl1]; rfl
  rw [show aOk nR nC nG nI 4 a = (a == 0) from rfl, show bOk 4 a b = (b == 0) from rfl, show tOk 4 text = (text.toList == []) from rfl] at hR2
  obtain ⟨p, hp⟩ : ∃ x : Bool, (a == 0) = x := ⟨_, rfl⟩
  obtain ⟨q, hq⟩ : ∃ x : Bool, (b == 0) = x := ⟨_, rfl⟩
  obtain ⟨t, ht⟩ : ∃ x : Bool, (text.toList == []) = x := ⟨_, rfl⟩
  rw [hp, hq, ht] at hR2
  obtain ⟨R, hR0⟩ : ∃ R, insOk nR nC nG nI 4 a b line text = R := ⟨_, rfl⟩
  rw [hR0]
  rw [hR0] at hR2
  have HR := Lib.hid hR2
  clear hR0 hR2 hl1
  have HX := Lib.hid (ins_at w (.cells #[.slice A1 nR c1, .slice A2 nC c2, .slice A3 nG c3, .int .i64 m, .slice A4 nI c4] 40) 23 (.int .i64 4) (.int .i64 a) (.int .i64 b) (.int .i64 line) (.string text))
  have HB := Lib.hid (((Below.refl w.heap.size w).alloc (Nat.le_refl _) (.cells #[.slice A1 nR c1, .slice A2 nC c2, .slice A3 nG c3, .int .i64 m, .slice A4 nI c4] 40)).alloc (by simp) (.cells #[.int .i64 4, .int .i64 a, .int .i64 b, .int .i64 line, .string text] 23))
  all_goals
    (go_enter Tryd.func41, Tryd.ntmps41
     go_wp2_with fail
     refine (isLabel_any 4 _).mono ?_
     rintro e w' ⟨rfl, hw⟩
     obtain rfl := hw.symm
     rw [show isLab 4 = false from rfl]
     go_upto_region 34 with (fail)
     cases p <;> cases q <;> cases t <;>
       (go_wp2_with fail
        go_ret
        exact ⟨by rw [HR.out]; rfl, HB.out⟩))
set_option maxRecDepth 100000 in
set_option maxHeartbeats 8000000 in
theorem implIn_5 (nR nC nG nI : Nat) (A1 A2 A3 A4 : Option Addr) (c1 c2 c3 c4 : Nat) (m a b line : Int) (text : ByteArray) (w : World) (hR : nR ≤ 1048576) (hC : nC ≤ 1048576) (hG : nG ≤ 1048576) (hI : nI ≤ 1048576) (hts : text.size ≤ 1048576) (hl : 0 ≤ line) : Calls Tryd.prog 41 #[.agg #[.slice A1 nR c1, .slice A2 nC c2, .slice A3 nG c3, .int .i64 m, .slice A4 nI c4], .agg #[.int .i64 5, .int .i64 a, .int .i64 b, .int .i64 line, .string text]] w fun e w' => e = .returned (.bool (insOk nR nC nG nI 5 a b line text)) ∧ Below w.heap.size w w' := by
  have hl0 : decide (line < 0) = false := decide_eq_false (by omega)
  have hl1 : decide (0 ≤ line) = true := decide_eq_true hl
  have hR2 : insOk nR nC nG nI 5 a b line text = (aOk nR nC nG nI 5 a && (bOk 5 a b && tOk 5 text)) := by
    unfold insOk; rw [hl1]; rfl
  rw [show aOk nR nC nG nI 5 a = inB a (24 : Int) from rfl, show bOk 5 a b = (b == 0) from rfl, show tOk 5 text = (text.toList == []) from rfl] at hR2
  obtain ⟨p, hp⟩ : ∃ x : Bool, (inB a 24) = x := ⟨_, rfl⟩
  obtain ⟨q, hq⟩ : ∃ x : Bool, (b == 0) = x := ⟨_, rfl⟩
  obtain ⟨t, ht⟩ : ∃ x : Bool, (text.toList == []) = x := ⟨_, rfl⟩
  rw [hp, hq, ht] at hR2
  obtain ⟨R, hR0⟩ : ∃ R, insOk nR nC nG nI 5 a b line text = R := ⟨_, rfl⟩
  rw [hR0]
  rw [hR0] at hR2
  have HR := Lib.hid hR2
  clear hR0 hR2 hl1
  have HX := Lib.hid (ins_at w (.cells #[.slice A1 nR c1, .slice A2 nC c2, .slice A3 nG c3, .int .i64 m, .slice A4 nI c4] 40) 23 (.int .i64 5) (.int .i64 a) (.int .i64 b) (.int .i64 line) (.string text))
  have HB := Lib.hid (((Below.refl w.heap.size w).alloc (Nat.le_refl _) (.cells #[.slice A1 nR c1, .slice A2 nC c2, .slice A3 nG c3, .int .i64 m, .slice A4 nI c4] 40)).alloc (by simp) (.cells #[.int .i64 5, .int .i64 a, .int .i64 b, .int .i64 line, .string text] 23))
  all_goals
    (go_enter Tryd.func41, Tryd.ntmps41
     go_wp2_with fail
     refine (within_any a _ _ _ HX.out).mono ?_
     rintro e w' ⟨rfl, hw⟩
     obtain rfl := hw.symm
     rw [hp]
     go_wp2_with fail
     refine (isLabel_any 5 _).mono ?_
     rintro e w' ⟨rfl, hw⟩
     obtain rfl := hw.symm
     rw [show isLab 5 = false from rfl]
     go_upto_region 34 with (fail)
     cases p <;> cases q <;> cases t <;>
       (go_wp2_with fail
        go_ret
        exact ⟨by rw [HR.out]; rfl, HB.out⟩))
set_option maxRecDepth 100000 in
set_option maxHeartbeats 8000000 in
theorem implIn_6 (nR nC nG nI : Nat) (A1 A2 A3 A4 : Option Addr) (c1 c2 c3 c4 : Nat) (m a b line : Int) (text : ByteArray) (w : World) (hR : nR ≤ 1048576) (hC : nC ≤ 1048576) (hG : nG ≤ 1048576) (hI : nI ≤ 1048576) (hts : text.size ≤ 1048576) (hl : 0 ≤ line) : Calls Tryd.prog 41 #[.agg #[.slice A1 nR c1, .slice A2 nC c2, .slice A3 nG c3, .int .i64 m, .slice A4 nI c4], .agg #[.int .i64 6, .int .i64 a, .int .i64 b, .int .i64 line, .string text]] w fun e w' => e = .returned (.bool (insOk nR nC nG nI 6 a b line text)) ∧ Below w.heap.size w w' := by
  have hl0 : decide (line < 0) = false := decide_eq_false (by omega)
  have hl1 : decide (0 ≤ line) = true := decide_eq_true hl
  have hR2 : insOk nR nC nG nI 6 a b line text = (aOk nR nC nG nI 6 a && (bOk 6 a b && tOk 6 text)) := by
    unfold insOk; rw [hl1]; rfl
  rw [show aOk nR nC nG nI 6 a = inB a (nG : Int) from rfl, show bOk 6 a b = (b == 0) from rfl, show tOk 6 text = (text.toList == []) from rfl] at hR2
  obtain ⟨p, hp⟩ : ∃ x : Bool, (inB a (nG : Int)) = x := ⟨_, rfl⟩
  obtain ⟨q, hq⟩ : ∃ x : Bool, (b == 0) = x := ⟨_, rfl⟩
  obtain ⟨t, ht⟩ : ∃ x : Bool, (text.toList == []) = x := ⟨_, rfl⟩
  rw [hp, hq, ht] at hR2
  obtain ⟨R, hR0⟩ : ∃ R, insOk nR nC nG nI 6 a b line text = R := ⟨_, rfl⟩
  rw [hR0]
  rw [hR0] at hR2
  have HR := Lib.hid hR2
  clear hR0 hR2 hl1
  have HX := Lib.hid (ins_at w (.cells #[.slice A1 nR c1, .slice A2 nC c2, .slice A3 nG c3, .int .i64 m, .slice A4 nI c4] 40) 23 (.int .i64 6) (.int .i64 a) (.int .i64 b) (.int .i64 line) (.string text))
  have HB := Lib.hid (((Below.refl w.heap.size w).alloc (Nat.le_refl _) (.cells #[.slice A1 nR c1, .slice A2 nC c2, .slice A3 nG c3, .int .i64 m, .slice A4 nI c4] 40)).alloc (by simp) (.cells #[.int .i64 6, .int .i64 a, .int .i64 b, .int .i64 line, .string text] 23))
  all_goals
    (go_enter Tryd.func41, Tryd.ntmps41
     go_wp2_with fail
     refine (within_any a _ _ _ HX.out).mono ?_
     rintro e w' ⟨rfl, hw⟩
     obtain rfl := hw.symm
     rw [hp]
     go_wp2_with fail
     refine (isLabel_any 6 _).mono ?_
     rintro e w' ⟨rfl, hw⟩
     obtain rfl := hw.symm
     rw [show isLab 6 = false from rfl]
     go_upto_region 34 with (fail)
     cases p <;> cases q <;> cases t <;>
       (go_wp2_with fail
        go_ret
        exact ⟨by rw [HR.out]; rfl, HB.out⟩))
set_option maxRecDepth 100000 in
set_option maxHeartbeats 8000000 in
theorem implIn_7 (nR nC nG nI : Nat) (A1 A2 A3 A4 : Option Addr) (c1 c2 c3 c4 : Nat) (m a b line : Int) (text : ByteArray) (w : World) (hR : nR ≤ 1048576) (hC : nC ≤ 1048576) (hG : nG ≤ 1048576) (hI : nI ≤ 1048576) (hts : text.size ≤ 1048576) (hl : 0 ≤ line) : Calls Tryd.prog 41 #[.agg #[.slice A1 nR c1, .slice A2 nC c2, .slice A3 nG c3, .int .i64 m, .slice A4 nI c4], .agg #[.int .i64 7, .int .i64 a, .int .i64 b, .int .i64 line, .string text]] w fun e w' => e = .returned (.bool (insOk nR nC nG nI 7 a b line text)) ∧ Below w.heap.size w w' := by
  have hl0 : decide (line < 0) = false := decide_eq_false (by omega)
  have hl1 : decide (0 ≤ line) = true := decide_eq_true hl
  have hR2 : insOk nR nC nG nI 7 a b line text = (aOk nR nC nG nI 7 a && (bOk 7 a b && tOk 7 text)) := by
    unfold insOk; rw [hl1]; rfl
  rw [show aOk nR nC nG nI 7 a = inB a (nR : Int) from rfl, show bOk 7 a b = (b == 0) from rfl, show tOk 7 text = (text.toList == []) from rfl] at hR2
  obtain ⟨p, hp⟩ : ∃ x : Bool, (inB a (nR : Int)) = x := ⟨_, rfl⟩
  obtain ⟨q, hq⟩ : ∃ x : Bool, (b == 0) = x := ⟨_, rfl⟩
  obtain ⟨t, ht⟩ : ∃ x : Bool, (text.toList == []) = x := ⟨_, rfl⟩
  rw [hp, hq, ht] at hR2
  obtain ⟨R, hR0⟩ : ∃ R, insOk nR nC nG nI 7 a b line text = R := ⟨_, rfl⟩
  rw [hR0]
  rw [hR0] at hR2
  have HR := Lib.hid hR2
  clear hR0 hR2 hl1
  have HX := Lib.hid (ins_at w (.cells #[.slice A1 nR c1, .slice A2 nC c2, .slice A3 nG c3, .int .i64 m, .slice A4 nI c4] 40) 23 (.int .i64 7) (.int .i64 a) (.int .i64 b) (.int .i64 line) (.string text))
  have HB := Lib.hid (((Below.refl w.heap.size w).alloc (Nat.le_refl _) (.cells #[.slice A1 nR c1, .slice A2 nC c2, .slice A3 nG c3, .int .i64 m, .slice A4 nI c4] 40)).alloc (by simp) (.cells #[.int .i64 7, .int .i64 a, .int .i64 b, .int .i64 line, .string text] 23))
  all_goals
    (go_enter Tryd.func41, Tryd.ntmps41
     go_wp2_with fail
     refine (within_any a _ _ _ HX.out).mono ?_
     rintro e w' ⟨rfl, hw⟩
     obtain rfl := hw.symm
     rw [hp]
     go_wp2_with fail
     refine (isLabel_any 7 _).mono ?_
     rintro e w' ⟨rfl, hw⟩
     obtain rfl := hw.symm
     rw [show isLab 7 = false from rfl]
     go_upto_region 34 with (fail)
     cases p <;> cases q <;> cases t <;>
       (go_wp2_with fail
        go_ret
        exact ⟨by rw [HR.out]; rfl, HB.out⟩))
set_option maxRecDepth 100000 in
set_option maxHeartbeats 8000000 in
theorem implIn_8 (nR nC nG nI : Nat) (A1 A2 A3 A4 : Option Addr) (c1 c2 c3 c4 : Nat) (m a b line : Int) (text : ByteArray) (w : World) (hR : nR ≤ 1048576) (hC : nC ≤ 1048576) (hG : nG ≤ 1048576) (hI : nI ≤ 1048576) (hts : text.size ≤ 1048576) (hl : 0 ≤ line) : Calls Tryd.prog 41 #[.agg #[.slice A1 nR c1, .slice A2 nC c2, .slice A3 nG c3, .int .i64 m, .slice A4 nI c4], .agg #[.int .i64 8, .int .i64 a, .int .i64 b, .int .i64 line, .string text]] w fun e w' => e = .returned (.bool (insOk nR nC nG nI 8 a b line text)) ∧ Below w.heap.size w w' := by
  have hl0 : decide (line < 0) = false := decide_eq_false (by omega)
  have hl1 : decide (0 ≤ line) = true := decide_eq_true hl
  have hR2 : insOk nR nC nG nI 8 a b line text = (aOk nR nC nG nI 8 a && (bOk 8 a b && tOk 8 text)) := by
    unfold insOk; rw [hl1]; rfl
  rw [show aOk nR nC nG nI 8 a = inB a (55 : Int) from rfl, show bOk 8 a b = (b == 0) from rfl, show tOk 8 text = (text.toList == []) from rfl] at hR2
  obtain ⟨p, hp⟩ : ∃ x : Bool, (inB a 55) = x := ⟨_, rfl⟩
  obtain ⟨q, hq⟩ : ∃ x : Bool, (b == 0) = x := ⟨_, rfl⟩
  obtain ⟨t, ht⟩ : ∃ x : Bool, (text.toList == []) = x := ⟨_, rfl⟩
  rw [hp, hq, ht] at hR2
  obtain ⟨R, hR0⟩ : ∃ R, insOk nR nC nG nI 8 a b line text = R := ⟨_, rfl⟩
  rw [hR0]
  rw [hR0] at hR2
  have HR := Lib.hid hR2
  clear hR0 hR2 hl1
  have HX := Lib.hid (ins_at w (.cells #[.slice A1 nR c1, .slice A2 nC c2, .slice A3 nG c3, .int .i64 m, .slice A4 nI c4] 40) 23 (.int .i64 8) (.int .i64 a) (.int .i64 b) (.int .i64 line) (.string text))
  have HB := Lib.hid (((Below.refl w.heap.size w).alloc (Nat.le_refl _) (.cells #[.slice A1 nR c1, .slice A2 nC c2, .slice A3 nG c3, .int .i64 m, .slice A4 nI c4] 40)).alloc (by simp) (.cells #[.int .i64 8, .int .i64 a, .int .i64 b, .int .i64 line, .string text] 23))
  all_goals
    (go_enter Tryd.func41, Tryd.ntmps41
     go_wp2_with fail
     refine (within_any a _ _ _ HX.out).mono ?_
     rintro e w' ⟨rfl, hw⟩
     obtain rfl := hw.symm
     rw [hp]
     go_wp2_with fail
     refine (isLabel_any 8 _).mono ?_
     rintro e w' ⟨rfl, hw⟩
     obtain rfl := hw.symm
     rw [show isLab 8 = false from rfl]
     go_upto_region 34 with (fail)
     cases p <;> cases q <;> cases t <;>
       (go_wp2_with fail
        go_ret
        exact ⟨by rw [HR.out]; rfl, HB.out⟩))
set_option maxRecDepth 100000 in
set_option maxHeartbeats 8000000 in
theorem implIn_9 (nR nC nG nI : Nat) (A1 A2 A3 A4 : Option Addr) (c1 c2 c3 c4 : Nat) (m a b line : Int) (text : ByteArray) (w : World) (hR : nR ≤ 1048576) (hC : nC ≤ 1048576) (hG : nG ≤ 1048576) (hI : nI ≤ 1048576) (hts : text.size ≤ 1048576) (hl : 0 ≤ line) : Calls Tryd.prog 41 #[.agg #[.slice A1 nR c1, .slice A2 nC c2, .slice A3 nG c3, .int .i64 m, .slice A4 nI c4], .agg #[.int .i64 9, .int .i64 a, .int .i64 b, .int .i64 line, .string text]] w fun e w' => e = .returned (.bool (insOk nR nC nG nI 9 a b line text)) ∧ Below w.heap.size w w' := by
  have hl0 : decide (line < 0) = false := decide_eq_false (by omega)
  have hl1 : decide (0 ≤ line) = true := decide_eq_true hl
  have hR2 : insOk nR nC nG nI 9 a b line text = (aOk nR nC nG nI 9 a && (bOk 9 a b && tOk 9 text)) := by
    unfold insOk; rw [hl1]; rfl
  rw [show aOk nR nC nG nI 9 a = inB a (nC : Int) from rfl, show bOk 9 a b = (b == 0) from rfl, show tOk 9 text = (text.toList == []) from rfl] at hR2
  obtain ⟨p, hp⟩ : ∃ x : Bool, (inB a (nC : Int)) = x := ⟨_, rfl⟩
  obtain ⟨q, hq⟩ : ∃ x : Bool, (b == 0) = x := ⟨_, rfl⟩
  obtain ⟨t, ht⟩ : ∃ x : Bool, (text.toList == []) = x := ⟨_, rfl⟩
  rw [hp, hq, ht] at hR2
  obtain ⟨R, hR0⟩ : ∃ R, insOk nR nC nG nI 9 a b line text = R := ⟨_, rfl⟩
  rw [hR0]
  rw [hR0] at hR2
  have HR := Lib.hid hR2
  clear hR0 hR2 hl1
  have HX := Lib.hid (ins_at w (.cells #[.slice A1 nR c1, .slice A2 nC c2, .slice A3 nG c3, .int .i64 m, .slice A4 nI c4] 40) 23 (.int .i64 9) (.int .i64 a) (.int .i64 b) (.int .i64 line) (.string text))
  have HB := Lib.hid (((Below.refl w.heap.size w).alloc (Nat.le_refl _) (.cells #[.slice A1 nR c1, .slice A2 nC c2, .slice A3 nG c3, .int .i64 m, .slice A4 nI c4] 40)).alloc (by simp) (.cells #[.int .i64 9, .int .i64 a, .int .i64 b, .int .i64 line, .string text] 23))
  all_goals
    (go_enter Tryd.func41, Tryd.ntmps41
     go_wp2_with fail
     refine (within_any a _ _ _ HX.out).mono ?_
     rintro e w' ⟨rfl, hw⟩
     obtain rfl := hw.symm
     rw [hp]
     go_wp2_with fail
     refine (isLabel_any 9 _).mono ?_
     rintro e w' ⟨rfl, hw⟩
     obtain rfl := hw.symm
     rw [show isLab 9 = false from rfl]
     go_upto_region 34 with (fail)
     cases p <;> cases q <;> cases t <;>
       (go_wp2_with fail
        go_ret
        exact ⟨by rw [HR.out]; rfl, HB.out⟩))
set_option maxRecDepth 100000 in
set_option maxHeartbeats 8000000 in
theorem implIn_10 (nR nC nG nI : Nat) (A1 A2 A3 A4 : Option Addr) (c1 c2 c3 c4 : Nat) (m a b line : Int) (text : ByteArray) (w : World) (hR : nR ≤ 1048576) (hC : nC ≤ 1048576) (hG : nG ≤ 1048576) (hI : nI ≤ 1048576) (hts : text.size ≤ 1048576) (hl : 0 ≤ line) : Calls Tryd.prog 41 #[.agg #[.slice A1 nR c1, .slice A2 nC c2, .slice A3 nG c3, .int .i64 m, .slice A4 nI c4], .agg #[.int .i64 10, .int .i64 a, .int .i64 b, .int .i64 line, .string text]] w fun e w' => e = .returned (.bool (insOk nR nC nG nI 10 a b line text)) ∧ Below w.heap.size w w' := by
  have hl0 : decide (line < 0) = false := decide_eq_false (by omega)
  have hl1 : decide (0 ≤ line) = true := decide_eq_true hl
  have hR2 : insOk nR nC nG nI 10 a b line text = (aOk nR nC nG nI 10 a && (bOk 10 a b && tOk 10 text)) := by
    unfold insOk; rw [hl1]; rfl
  rw [show aOk nR nC nG nI 10 a = ((a == 1) || (a == 2)) from rfl, show bOk 10 a b = (b == 0) from rfl, show tOk 10 text = (text.toList == []) from rfl] at hR2
  obtain ⟨p, hp⟩ : ∃ x : Bool, (a == 1) = x := ⟨_, rfl⟩
  obtain ⟨p2, hp2⟩ : ∃ x : Bool, (a == 2) = x := ⟨_, rfl⟩
  obtain ⟨q, hq⟩ : ∃ x : Bool, (b == 0) = x := ⟨_, rfl⟩
  obtain ⟨t, ht⟩ : ∃ x : Bool, (text.toList == []) = x := ⟨_, rfl⟩
  rw [hp, hp2, hq, ht] at hR2
  obtain ⟨R, hR0⟩ : ∃ R, insOk nR nC nG nI 10 a b line text = R := ⟨_, rfl⟩
  rw [hR0]
  rw [hR0] at hR2
  have HR := Lib.hid hR2
  clear hR0 hR2 hl1
  have HX := Lib.hid (ins_at w (.cells #[.slice A1 nR c1, .slice A2 nC c2, .slice A3 nG c3, .int .i64 m, .slice A4 nI c4] 40) 23 (.int .i64 10) (.int .i64 a) (.int .i64 b) (.int .i64 line) (.string text))
  have HB := Lib.hid (((Below.refl w.heap.size w).alloc (Nat.le_refl _) (.cells #[.slice A1 nR c1, .slice A2 nC c2, .slice A3 nG c3, .int .i64 m, .slice A4 nI c4] 40)).alloc (by simp) (.cells #[.int .i64 10, .int .i64 a, .int .i64 b, .int .i64 line, .string text] 23))
  cases p <;>
    (go_enter Tryd.func41, Tryd.ntmps41
     go_wp2_with fail
     refine (isLabel_any 10 _).mono ?_
     rintro e w' ⟨rfl, hw⟩
     obtain rfl := hw.symm
     rw [show isLab 10 = false from rfl]
     go_upto_region 34 with (fail)
     cases p2 <;> cases q <;> cases t <;>
       (go_wp2_with fail
        go_ret
        exact ⟨by rw [HR.out]; rfl, HB.out⟩))
end Go.Proofs.YtopaeiogbijppaaDoor
