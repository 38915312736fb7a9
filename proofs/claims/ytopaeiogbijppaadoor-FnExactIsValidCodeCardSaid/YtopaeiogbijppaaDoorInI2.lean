/- impl.validInstr. Printed by gen_instr.py. -/
import Derived.Test.YtopaeiogbijppaaDoorInB
namespace Go.Proofs.YtopaeiogbijppaaDoor
open Go.RowKit

set_option maxRecDepth 100000 in
set_option maxHeartbeats 8000000 in
theorem implIn_11 (nR nC nG nI : Nat) (A1 A2 A3 A4 : Option Addr) (c1 c2 c3 c4 : Nat) (m a b line : Int) (text : ByteArray) (w : World) (hR : nR ≤ 1048576) (hC : nC ≤ 1048576) (hG : nG ≤ 1048576) (hI : nI ≤ 1048576) (hts : text.size ≤ 1048576) (hl : 0 ≤ line) (ht : Spc w) : Calls Tryd.prog 41 #[.agg #[.slice A1 nR c1, .slice A2 nC c2, .slice A3 nG c3, .int .i64 m, .slice A4 nI c4], .agg #[.int .i64 11, .int .i64 a, .int .i64 b, .int .i64 line, .string text]] w fun e w' => e = .returned (.bool (insOk nR nC nG nI 11 a b line text)) ∧ Below w.heap.size w w' := by
  have hl0 : decide (line < 0) = false := decide_eq_false (by omega)
  have hl1 : decide (0 ≤ line) = true := decide_eq_true hl
  have hR2 : insOk nR nC nG nI 11 a b line text = (aOk nR nC nG nI 11 a && (bOk 11 a b && tOk 11 text)) := by
    unfold insOk; rw [hl1]; rfl
  rw [show aOk nR nC nG nI 11 a = decide (arLo a ≤ arHi a) from rfl, show bOk 11 a b = (decide (arLo a ≤ b) && decide (b ≤ arHi a)) from rfl, show tOk 11 text = (text.toList == []) from rfl] at hR2
  obtain ⟨L, hL⟩ : ∃ L, arLo a = L := ⟨_, rfl⟩
  obtain ⟨H, hH⟩ : ∃ H, arHi a = H := ⟨_, rfl⟩
  rw [hL, hH] at hR2
  have hAR := implOpArity_any a
  rw [hL, hH] at hAR
  have HAR := Lib.hid hAR
  have HT := Lib.hid ht
  clear hAR hL hH ht
  obtain ⟨p, hp⟩ : ∃ x : Bool, (decide (L ≤ H)) = x := ⟨_, rfl⟩
  obtain ⟨q, hq⟩ : ∃ x : Bool, (decide (L ≤ b)) = x := ⟨_, rfl⟩
  obtain ⟨q2, hq2⟩ : ∃ x : Bool, (decide (b ≤ H)) = x := ⟨_, rfl⟩
  obtain ⟨t, ht⟩ : ∃ x : Bool, (text.toList == []) = x := ⟨_, rfl⟩
  rw [hp, hq, hq2, ht] at hR2
  obtain ⟨R, hR0⟩ : ∃ R, insOk nR nC nG nI 11 a b line text = R := ⟨_, rfl⟩
  rw [hR0]
  rw [hR0] at hR2
  have HR := Lib.hid hR2
  clear hR0 hR2 hl1
  have HX := Lib.hid (ins_at w (.cells #[.slice A1 nR c1, .slice A2 nC c2, .slice A3 nG c3, .int .i64 m, .slice A4 nI c4] 40) 23 (.int .i64 11) (.int .i64 a) (.int .i64 b) (.int .i64 line) (.string text))
  have HB := Lib.hid (((Below.refl w.heap.size w).alloc (Nat.le_refl _) (.cells #[.slice A1 nR c1, .slice A2 nC c2, .slice A3 nG c3, .int .i64 m, .slice A4 nI c4] 40)).alloc (by simp) (.cells #[.int .i64 11, .int .i64 a, .int .i64 b, .int .i64 line, .string text] 23))
  have HX5 := Lib.hid (ins5_at w (.cells #[.slice A1 nR c1, .slice A2 nC c2, .slice A3 nG c3, .int .i64 m, .slice A4 nI c4] 40) 23 (.int .i64 11) (.int .i64 a) (.int .i64 b) (.int .i64 line) (.string text))
  cases q <;>
    (go_enter Tryd.func41, Tryd.ntmps41
     go_wp2_with fail
     refine (HAR.out _ (HT.out.below HB.out)).mono ?_
     rintro e w1 ⟨rfl, hb1⟩
     have HB1 := Lib.hid (HB.out.trans (Below.mono hb1 HB.out.size))
     obtain ⟨x0, x1, x2, x3, x4⟩ := lift5 HX5.out hb1
     clear hb1
     go_wp2_with fail
     refine (isLabel_any 11 _).mono ?_
     rintro e w' ⟨rfl, hw⟩
     obtain rfl := hw.symm
     rw [show isLab 11 = false from rfl]
     go_upto_region 34 with (fail)
     cases p <;> cases q2 <;> cases t <;>
       (go_wp2_with fail
        go_ret
        exact ⟨by rw [HR.out]; rfl, HB1.out⟩))
set_option maxRecDepth 100000 in
set_option maxHeartbeats 8000000 in
theorem implIn_12 (nR nC nG nI : Nat) (A1 A2 A3 A4 : Option Addr) (c1 c2 c3 c4 : Nat) (m a b line : Int) (text : ByteArray) (w : World) (hR : nR ≤ 1048576) (hC : nC ≤ 1048576) (hG : nG ≤ 1048576) (hI : nI ≤ 1048576) (hts : text.size ≤ 1048576) (hl : 0 ≤ line) : Calls Tryd.prog 41 #[.agg #[.slice A1 nR c1, .slice A2 nC c2, .slice A3 nG c3, .int .i64 m, .slice A4 nI c4], .agg #[.int .i64 12, .int .i64 a, .int .i64 b, .int .i64 line, .string text]] w fun e w' => e = .returned (.bool (insOk nR nC nG nI 12 a b line text)) ∧ Below w.heap.size w w' := by
  have hl0 : decide (line < 0) = false := decide_eq_false (by omega)
  have hl1 : decide (0 ≤ line) = true := decide_eq_true hl
  have hR2 : insOk nR nC nG nI 12 a b line text = (aOk nR nC nG nI 12 a && (bOk 12 a b && tOk 12 text)) := by
    unfold insOk; rw [hl1]; rfl
  rw [show aOk nR nC nG nI 12 a = (a == 0) from rfl, show bOk 12 a b = (decide (1 ≤ b) && decide (b ≤ 9)) from rfl, show tOk 12 text = (text.toList == []) from rfl] at hR2
  obtain ⟨p, hp⟩ : ∃ x : Bool, (a == 0) = x := ⟨_, rfl⟩
  obtain ⟨q, hq⟩ : ∃ x : Bool, (decide (1 ≤ b)) = x := ⟨_, rfl⟩
  obtain ⟨q2, hq2⟩ : ∃ x : Bool, (decide (b ≤ 9)) = x := ⟨_, rfl⟩
  obtain ⟨t, ht⟩ : ∃ x : Bool, (text.toList == []) = x := ⟨_, rfl⟩
  rw [hp, hq, hq2, ht] at hR2
  obtain ⟨R, hR0⟩ : ∃ R, insOk nR nC nG nI 12 a b line text = R := ⟨_, rfl⟩
  rw [hR0]
  rw [hR0] at hR2
  have HR := Lib.hid hR2
  clear hR0 hR2 hl1
  have HX := Lib.hid (ins_at w (.cells #[.slice A1 nR c1, .slice A2 nC c2, .slice A3 nG c3, .int .i64 m, .slice A4 nI c4] 40) 23 (.int .i64 12) (.int .i64 a) (.int .i64 b) (.int .i64 line) (.string text))
  have HB := Lib.hid (((Below.refl w.heap.size w).alloc (Nat.le_refl _) (.cells #[.slice A1 nR c1, .slice A2 nC c2, .slice A3 nG c3, .int .i64 m, .slice A4 nI c4] 40)).alloc (by simp) (.cells #[.int .i64 12, .int .i64 a, .int .i64 b, .int .i64 line, .string text] 23))
  cases q <;>
    (go_enter Tryd.func41, Tryd.ntmps41
     go_wp2_with fail
     refine (isLabel_any 12 _).mono ?_
     rintro e w' ⟨rfl, hw⟩
     obtain rfl := hw.symm
     rw [show isLab 12 = false from rfl]
     go_upto_region 34 with (fail)
     cases p <;> cases q2 <;> cases t <;>
       (go_wp2_with fail
        go_ret
        exact ⟨by rw [HR.out]; rfl, HB.out⟩))
set_option maxRecDepth 100000 in
set_option maxHeartbeats 8000000 in
theorem implIn_13 (nR nC nG nI : Nat) (A1 A2 A3 A4 : Option Addr) (c1 c2 c3 c4 : Nat) (m a b line : Int) (text : ByteArray) (w : World) (hR : nR ≤ 1048576) (hC : nC ≤ 1048576) (hG : nG ≤ 1048576) (hI : nI ≤ 1048576) (hts : text.size ≤ 1048576) (hl : 0 ≤ line) : Calls Tryd.prog 41 #[.agg #[.slice A1 nR c1, .slice A2 nC c2, .slice A3 nG c3, .int .i64 m, .slice A4 nI c4], .agg #[.int .i64 13, .int .i64 a, .int .i64 b, .int .i64 line, .string text]] w fun e w' => e = .returned (.bool (insOk nR nC nG nI 13 a b line text)) ∧ Below w.heap.size w w' := by
  have hl0 : decide (line < 0) = false := decide_eq_false (by omega)
  have hl1 : decide (0 ≤ line) = true := decide_eq_true hl
  have hR2 : insOk nR nC nG nI 13 a b line text = (aOk nR nC nG nI 13 a && (bOk 13 a b && tOk 13 text)) := by
    unfold insOk; rw [hl1]; rfl
  rw [show aOk nR nC nG nI 13 a = (inB a (nI : Int) || (true && a == -1)) from rfl, show bOk 13 a b = (b == 0) from rfl, show tOk 13 text = (text.toList == []) from rfl] at hR2
  obtain ⟨p, hp⟩ : ∃ x : Bool, (inB a (nI : Int)) = x := ⟨_, rfl⟩
  obtain ⟨p3, hp3⟩ : ∃ x : Bool, (a == -1) = x := ⟨_, rfl⟩
  obtain ⟨q, hq⟩ : ∃ x : Bool, (b == 0) = x := ⟨_, rfl⟩
  obtain ⟨t, ht⟩ : ∃ x : Bool, (text.toList == []) = x := ⟨_, rfl⟩
  rw [hp, hp3, hq, ht] at hR2
  obtain ⟨R, hR0⟩ : ∃ R, insOk nR nC nG nI 13 a b line text = R := ⟨_, rfl⟩
  rw [hR0]
  rw [hR0] at hR2
  have HR := Lib.hid hR2
  clear hR0 hR2 hl1
  have HX := Lib.hid (ins_at w (.cells #[.slice A1 nR c1, .slice A2 nC c2, .slice A3 nG c3, .int .i64 m, .slice A4 nI c4] 40) 23 (.int .i64 13) (.int .i64 a) (.int .i64 b) (.int .i64 line) (.string text))
  have HB := Lib.hid (((Below.refl w.heap.size w).alloc (Nat.le_refl _) (.cells #[.slice A1 nR c1, .slice A2 nC c2, .slice A3 nG c3, .int .i64 m, .slice A4 nI c4] 40)).alloc (by simp) (.cells #[.int .i64 13, .int .i64 a, .int .i64 b, .int .i64 line, .string text] 23))
  cases p <;>
    (go_enter Tryd.func41, Tryd.ntmps41
     go_wp2_with fail
     refine (isLabel_any 13 _).mono ?_
     rintro e w' ⟨rfl, hw⟩
     obtain rfl := hw.symm
     rw [show isLab 13 = true from rfl]
     go_wp2_with fail
     refine (within_any a _ _ _ HX.out).mono ?_
     rintro e w' ⟨rfl, hw⟩
     obtain rfl := hw.symm
     rw [hp]
     go_upto_region 34 with (fail)
     cases p3 <;> cases q <;> cases t <;>
       (go_wp2_with fail
        go_ret
        exact ⟨by rw [HR.out]; rfl, HB.out⟩))
set_option maxRecDepth 100000 in
set_option maxHeartbeats 8000000 in
theorem implIn_14 (nR nC nG nI : Nat) (A1 A2 A3 A4 : Option Addr) (c1 c2 c3 c4 : Nat) (m a b line : Int) (text : ByteArray) (w : World) (hR : nR ≤ 1048576) (hC : nC ≤ 1048576) (hG : nG ≤ 1048576) (hI : nI ≤ 1048576) (hts : text.size ≤ 1048576) (hl : 0 ≤ line) : Calls Tryd.prog 41 #[.agg #[.slice A1 nR c1, .slice A2 nC c2, .slice A3 nG c3, .int .i64 m, .slice A4 nI c4], .agg #[.int .i64 14, .int .i64 a, .int .i64 b, .int .i64 line, .string text]] w fun e w' => e = .returned (.bool (insOk nR nC nG nI 14 a b line text)) ∧ Below w.heap.size w w' := by
  have hl0 : decide (line < 0) = false := decide_eq_false (by omega)
  have hl1 : decide (0 ≤ line) = true := decide_eq_true hl
  have hR2 : insOk nR nC nG nI 14 a b line text = (aOk nR nC nG nI 14 a && (bOk 14 a b && tOk 14 text)) := by
    unfold insOk; rw [hl1]; rfl
  rw [show aOk nR nC nG nI 14 a = (a == 0) from rfl, show bOk 14 a b = (b == 0) from rfl, show tOk 14 text = (text.toList == []) from rfl] at hR2
  obtain ⟨p, hp⟩ : ∃ x : Bool, (a == 0) = x := ⟨_, rfl⟩
  obtain ⟨q, hq⟩ : ∃ x : Bool, (b == 0) = x := ⟨_, rfl⟩
  obtain ⟨t, ht⟩ : ∃ x : Bool, (text.toList == []) = x := ⟨_, rfl⟩
  rw [hp, hq, ht] at hR2
  obtain ⟨R, hR0⟩ : ∃ R, insOk nR nC nG nI 14 a b line text = R := ⟨_, rfl⟩
  rw [hR0]
  rw [hR0] at hR2
  have HR := Lib.hid hR2
  clear hR0 hR2 hl1
  have HX := Lib.hid (ins_at w (.cells #[.slice A1 nR c1, .slice A2 nC c2, .slice A3 nG c3, .int .i64 m, .slice A4 nI c4] 40) 23 (.int .i64 14) (.int .i64 a) (.int .i64 b) (.int .i64 line) (.string text))
  have HB := Lib.hid (((Below.refl w.heap.size w).alloc (Nat.le_refl _) (.cells #[.slice A1 nR c1, .slice A2 nC c2, .slice A3 nG c3, .int .i64 m, .slice A4 nI c4] 40)).alloc (by simp) (.cells #[.int .i64 14, .int .i64 a, .int .i64 b, .int .i64 line, .string text] 23))
  all_goals
    (go_enter Tryd.func41, Tryd.ntmps41
     go_wp2_with fail
     refine (isLabel_any 14 _).mono ?_
     rintro e w' ⟨rfl, hw⟩
     obtain rfl := hw.symm
     rw [show isLab 14 = false from rfl]
     go_upto_region 34 with (fail)
     cases p <;> cases q <;> cases t <;>
       (go_wp2_with fail
        go_ret
        exact ⟨by rw [HR.out]; rfl, HB.out⟩))
set_option maxRecDepth 100000 in
set_option maxHeartbeats 8000000 in
theorem implIn_15 (nR nC nG nI : Nat) (A1 A2 A3 A4 : Option Addr) (c1 c2 c3 c4 : Nat) (m a b line : Int) (text : ByteArray) (w : World) (hR : nR ≤ 1048576) (hC : nC ≤ 1048576) (hG : nG ≤ 1048576) (hI : nI ≤ 1048576) (hts : text.size ≤ 1048576) (hl : 0 ≤ line) : Calls Tryd.prog 41 #[.agg #[.slice A1 nR c1, .slice A2 nC c2, .slice A3 nG c3, .int .i64 m, .slice A4 nI c4], .agg #[.int .i64 15, .int .i64 a, .int .i64 b, .int .i64 line, .string text]] w fun e w' => e = .returned (.bool (insOk nR nC nG nI 15 a b line text)) ∧ Below w.heap.size w w' := by
  have hl0 : decide (line < 0) = false := decide_eq_false (by omega)
  have hl1 : decide (0 ≤ line) = true := decide_eq_true hl
  have hR2 : insOk nR nC nG nI 15 a b line text = (aOk nR nC nG nI 15 a && (bOk 15 a b && tOk 15 text)) := by
    unfold insOk; rw [hl1]; rfl
  rw [show aOk nR nC nG nI 15 a = (inB a (nI : Int) || (false && a == -1)) from rfl, show bOk 15 a b = (b == 0) from rfl, show tOk 15 text = (text.toList == []) from rfl] at hR2
  obtain ⟨p, hp⟩ : ∃ x : Bool, (inB a (nI : Int)) = x := ⟨_, rfl⟩
  obtain ⟨q, hq⟩ : ∃ x : Bool, (b == 0) = x := ⟨_, rfl⟩
  obtain ⟨t, ht⟩ : ∃ x : Bool, (text.toList == []) = x := ⟨_, rfl⟩
  rw [hp, hq, ht] at hR2
  obtain ⟨R, hR0⟩ : ∃ R, insOk nR nC nG nI 15 a b line text = R := ⟨_, rfl⟩
  rw [hR0]
  rw [hR0] at hR2
  have HR := Lib.hid hR2
  clear hR0 hR2 hl1
  have HX := Lib.hid (ins_at w (.cells #[.slice A1 nR c1, .slice A2 nC c2, .slice A3 nG c3, .int .i64 m, .slice A4 nI c4] 40) 23 (.int .i64 15) (.int .i64 a) (.int .i64 b) (.int .i64 line) (.string text))
  have HB := Lib.hid (((Below.refl w.heap.size w).alloc (Nat.le_refl _) (.cells #[.slice A1 nR c1, .slice A2 nC c2, .slice A3 nG c3, .int .i64 m, .slice A4 nI c4] 40)).alloc (by simp) (.cells #[.int .i64 15, .int .i64 a, .int .i64 b, .int .i64 line, .string text] 23))
  cases p <;>
    (go_enter Tryd.func41, Tryd.ntmps41
     go_wp2_with fail
     refine (isLabel_any 15 _).mono ?_
     rintro e w' ⟨rfl, hw⟩
     obtain rfl := hw.symm
     rw [show isLab 15 = true from rfl]
     go_wp2_with fail
     refine (within_any a _ _ _ HX.out).mono ?_
     rintro e w' ⟨rfl, hw⟩
     obtain rfl := hw.symm
     rw [hp]
     go_upto_region 34 with (fail)
     cases q <;> cases t <;>
       (go_wp2_with fail
        go_ret
        exact ⟨by rw [HR.out]; rfl, HB.out⟩))
set_option maxRecDepth 100000 in
set_option maxHeartbeats 8000000 in
theorem implIn_16 (nR nC nG nI : Nat) (A1 A2 A3 A4 : Option Addr) (c1 c2 c3 c4 : Nat) (m a b line : Int) (text : ByteArray) (w : World) (hR : nR ≤ 1048576) (hC : nC ≤ 1048576) (hG : nG ≤ 1048576) (hI : nI ≤ 1048576) (hts : text.size ≤ 1048576) (hl : 0 ≤ line) : Calls Tryd.prog 41 #[.agg #[.slice A1 nR c1, .slice A2 nC c2, .slice A3 nG c3, .int .i64 m, .slice A4 nI c4], .agg #[.int .i64 16, .int .i64 a, .int .i64 b, .int .i64 line, .string text]] w fun e w' => e = .returned (.bool (insOk nR nC nG nI 16 a b line text)) ∧ Below w.heap.size w w' := by
  have hl0 : decide (line < 0) = false := decide_eq_false (by omega)
  have hl1 : decide (0 ≤ line) = true := decide_eq_true hl
  have hR2 : insOk nR nC nG nI 16 a b line text = (aOk nR nC nG nI 16 a && (bOk 16 a b && tOk 16 text)) := by
    unfold insOk; rw [hl1]; rfl
  rw [show aOk nR nC nG nI 16 a = (a == 0) from rfl, show bOk 16 a b = (b == 0) from rfl, show tOk 16 text = (text.toList == []) from rfl] at hR2
  obtain ⟨p, hp⟩ : ∃ x : Bool, (a == 0) = x := ⟨_, rfl⟩
  obtain ⟨q, hq⟩ : ∃ x : Bool, (b == 0) = x := ⟨_, rfl⟩
  obtain ⟨t, ht⟩ : ∃ x : Bool, (text.toList == []) = x := ⟨_, rfl⟩
  rw [hp, hq, ht] at hR2
  obtain ⟨R, hR0⟩ : ∃ R, insOk nR nC nG nI 16 a b line text = R := ⟨_, rfl⟩
  rw [hR0]
  rw [hR0] at hR2
  have HR := Lib.hid hR2
  clear hR0 hR2 hl1
  have HX := Lib.hid (ins_at w (.cells #[.slice A1 nR c1, .slice A2 nC c2, .slice A3 nG c3, .int .i64 m, .slice A4 nI c4] 40) 23 (.int .i64 16) (.int .i64 a) (.int .i64 b) (.int .i64 line) (.string text))
  have HB := Lib.hid (((Below.refl w.heap.size w).alloc (Nat.le_refl _) (.cells #[.slice A1 nR c1, .slice A2 nC c2, .slice A3 nG c3, .int .i64 m, .slice A4 nI c4] 40)).alloc (by simp) (.cells #[.int .i64 16, .int .i64 a, .int .i64 b, .int .i64 line, .string text] 23))
  all_goals
    (go_enter Tryd.func41, Tryd.ntmps41
     go_wp2_with fail
     refine (isLabel_any 16 _).mono ?_
     rintro e w' ⟨rfl, hw⟩
     obtain rfl := hw.symm
     rw [show isLab 16 = false from rfl]
     go_upto_region 34 with (fail)
     cases p <;> cases q <;> cases t <;>
       (go_wp2_with fail
        go_ret
        exact ⟨by rw [HR.out]; rfl, HB.out⟩))
set_option maxRecDepth 100000 in
set_option maxHeartbeats 8000000 in
theorem implIn_17 (nR nC nG nI : Nat) (A1 A2 A3 A4 : Option Addr) (c1 c2 c3 c4 : Nat) (m a b line : Int) (text : ByteArray) (w : World) (hR : nR ≤ 1048576) (hC : nC ≤ 1048576) (hG : nG ≤ 1048576) (hI : nI ≤ 1048576) (hts : text.size ≤ 1048576) (hl : 0 ≤ line) : Calls Tryd.prog 41 #[.agg #[.slice A1 nR c1, .slice A2 nC c2, .slice A3 nG c3, .int .i64 m, .slice A4 nI c4], .agg #[.int .i64 17, .int .i64 a, .int .i64 b, .int .i64 line, .string text]] w fun e w' => e = .returned (.bool (insOk nR nC nG nI 17 a b line text)) ∧ Below w.heap.size w w' := by
  have hl0 : decide (line < 0) = false := decide_eq_false (by omega)
  have hl1 : decide (0 ≤ line) = true := decide_eq_true hl
  have hR2 : insOk nR nC nG nI 17 a b line text = (aOk nR nC nG nI 17 a && (bOk 17 a b && tOk 17 text)) := by
    unfold insOk; rw [hl1]; rfl
  rw [show aOk nR nC nG nI 17 a = (inB a (nI : Int) || (false && a == -1)) from rfl, show bOk 17 a b = (b == 0) from rfl, show tOk 17 text = (text.toList == []) from rfl] at hR2
  obtain ⟨p, hp⟩ : ∃ x : Bool, (inB a (nI : Int)) = x := ⟨_, rfl⟩
  obtain ⟨q, hq⟩ : ∃ x : Bool, (b == 0) = x := ⟨_, rfl⟩
  obtain ⟨t, ht⟩ : ∃ x : Bool, (text.toList == []) = x := ⟨_, rfl⟩
  rw [hp, hq, ht] at hR2
  obtain ⟨R, hR0⟩ : ∃ R, insOk nR nC nG nI 17 a b line text = R := ⟨_, rfl⟩
  rw [hR0]
  rw [hR0] at hR2
  have HR := Lib.hid hR2
  clear hR0 hR2 hl1
  have HX := Lib.hid (ins_at w (.cells #[.slice A1 nR c1, .slice A2 nC c2, .slice A3 nG c3, .int .i64 m, .slice A4 nI c4] 40) 23 (.int .i64 17) (.int .i64 a) (.int .i64 b) (.int .i64 line) (.string text))
  have HB := Lib.hid (((Below.refl w.heap.size w).alloc (Nat.le_refl _) (.cells #[.slice A1 nR c1, .slice A2 nC c2, .slice A3 nG c3, .int .i64 m, .slice A4 nI c4] 40)).alloc (by simp) (.cells #[.int .i64 17, .int .i64 a, .int .i64 b, .int .i64 line, .string text] 23))
  cases p <;>
    (go_enter Tryd.func41, Tryd.ntmps41
     go_wp2_with fail
     refine (isLabel_any 17 _).mono ?_
     rintro e w' ⟨rfl, hw⟩
     obtain rfl := hw.symm
     rw [show isLab 17 = true from rfl]
     go_wp2_with fail
     refine (within_any a _ _ _ HX.out).mono ?_
     rintro e w' ⟨rfl, hw⟩
     obtain rfl := hw.symm
     rw [hp]
     go_upto_region 34 with (fail)
     cases q <;> cases t <;>
       (go_wp2_with fail
        go_ret
        exact ⟨by rw [HR.out]; rfl, HB.out⟩))
set_option maxRecDepth 100000 in
set_option maxHeartbeats 8000000 in
theorem implIn_18 (nR nC nG nI : Nat) (A1 A2 A3 A4 : Option Addr) (c1 c2 c3 c4 : Nat) (m a b line : Int) (text : ByteArray) (w : World) (hR : nR ≤ 1048576) (hC : nC ≤ 1048576) (hG : nG ≤ 1048576) (hI : nI ≤ 1048576) (hts : text.size ≤ 1048576) (hl : 0 ≤ line) : Calls Tryd.prog 41 #[.agg #[.slice A1 nR c1, .slice A2 nC c2, .slice A3 nG c3, .int .i64 m, .slice A4 nI c4], .agg #[.int .i64 18, .int .i64 a, .int .i64 b, .int .i64 line, .string text]] w fun e w' => e = .returned (.bool (insOk nR nC nG nI 18 a b line text)) ∧ Below w.heap.size w w' := by
  have hl0 : decide (line < 0) = false := decide_eq_false (by omega)
  have hl1 : decide (0 ≤ line) = true := decide_eq_true hl
  have hR2 : insOk nR nC nG nI 18 a b line text = (aOk nR nC nG nI 18 a && (bOk 18 a b && tOk 18 text)) := by
    unfold insOk; rw [hl1]; rfl
  rw [show aOk nR nC nG nI 18 a = (a == 0) from rfl, show bOk 18 a b = (b == 0) from rfl, show tOk 18 text = (text.toList == []) from rfl] at hR2
  obtain ⟨p, hp⟩ : ∃ x : Bool, (a == 0) = x := ⟨_, rfl⟩
  obtain ⟨q, hq⟩ : ∃ x : Bool, (b == 0) = x := ⟨_, rfl⟩
  obtain ⟨t, ht⟩ : ∃ x : Bool, (text.toList == []) = x := ⟨_, rfl⟩
  rw [hp, hq, ht] at hR2
  obtain ⟨R, hR0⟩ : ∃ R, insOk nR nC nG nI 18 a b line text = R := ⟨_, rfl⟩
  rw [hR0]
  rw [hR0] at hR2
  have HR := Lib.hid hR2
  clear hR0 hR2 hl1
  have HX := Lib.hid (ins_at w (.cells #[.slice A1 nR c1, .slice A2 nC c2, .slice A3 nG c3, .int .i64 m, .slice A4 nI c4] 40) 23 (.int .i64 18) (.int .i64 a) (.int .i64 b) (.int .i64 line) (.string text))
  have HB := Lib.hid (((Below.refl w.heap.size w).alloc (Nat.le_refl _) (.cells #[.slice A1 nR c1, .slice A2 nC c2, .slice A3 nG c3, .int .i64 m, .slice A4 nI c4] 40)).alloc (by simp) (.cells #[.int .i64 18, .int .i64 a, .int .i64 b, .int .i64 line, .string text] 23))
  all_goals
    (go_enter Tryd.func41, Tryd.ntmps41
     go_wp2_with fail
     refine (isLabel_any 18 _).mono ?_
     rintro e w' ⟨rfl, hw⟩
     obtain rfl := hw.symm
     rw [show isLab 18 = false from rfl]
     go_upto_region 34 with (fail)
     cases p <;> cases q <;> cases t <;>
       (go_wp2_with fail
        go_ret
        exact ⟨by rw [HR.out]; rfl, HB.out⟩))
end Go.Proofs.YtopaeiogbijppaaDoor
