/- How much there is of a Code: sz of the laws. Printed by gen_codedata.py. -/
import Derived.Test.YtopaeiogbijppaaDoorCdData
import Derived.Test.YtopaeiogbijppaaDoorChecked
import Derived.Lib.Hide
import Derived.WalkKit
import Derived.WalkSpells
import Derived.WalkLawsBesides
import Derived.Outline
namespace Go.Proofs.YtopaeiogbijppaaDoor
open Go.RowKit

set_option maxRecDepth 100000 in
set_option maxHeartbeats 1000000 in
theorem szStringS_any (l : List ByteArray) (v : Value) (F : Nat → Prop) (w : World) (k : Int) (hl0 : 0 ≤ k) (hl1 : k ≤ 1048576) (hr : RowIs strEl 1 F w l v) :
    Calls Tryd.prog 27 #[v, .int .i64 k] w fun e w' => e = .returned (.int .i64 (leftOf (szRow ByteArray.size l) k)) ∧ Below w.heap.size w w' := by
  obtain ⟨A, c, rfl, hc, hcm, hel⟩ := hr
  unfold maxLen at hcm
  have HEL := Lib.hid hel
  clear hel
  have hb1 : (l.length : Int) ≤ 9223372036854775807 := by omega
  by_cases h0 : k < (l.length : Int)
  · have HL := Lib.hid (leftOf_no (n := szRow ByteArray.size l) (l := k) (by unfold szRow; omega))
    have t1 : decide (k - (l.length : Int) < 0) = true := by simp; omega
    go_enter Tryd.func27, Tryd.ntmps27
    go_wp2_with fail
    go_ret
    exact ⟨ret_int HL.out.symm, Below.refl _ _⟩
  · have t1 : decide (k - (l.length : Int) < 0) = false := by simp; omega
    go_enter Tryd.func27, Tryd.ntmps27
    go_wp2_with fail
    go_loopw [1, 5] (fun lv i wr => ∃ j : Nat, j ≤ l.length ∧ i = .int .i64 j ∧ lv = .int .i64 (k - l.length - szAll ByteArray.size (l.take j)) ∧ 0 ≤ k - l.length - szAll ByteArray.size (l.take j) ∧ Below w.heap.size w wr) (fun _ i _ => l.length - (intOf i).toNat)
    case atStart => exact ⟨0, Nat.zero_le _, rfl, by simp [szAll], by simp [szAll]; omega, Below.refl _ _⟩
    case round =>
    obtain ⟨j, hj, rfl, rfl, hd, hbel⟩ := hrel
    have hsz := hbel.size
    have hd1 : k - l.length - szAll ByteArray.size (l.take j) ≤ 1048576 := by omega
    obtain ⟨d, hde⟩ : ∃ d, k - l.length - szAll ByteArray.size (l.take j) = d := ⟨_, rfl⟩
    rw [hde] at hd hd1 ⊢
    have HDE := Lib.hid hde
    clear hde
    by_cases hlt : j < l.length
    · obtain ⟨b, o, cs, rfl, hF, hbl, hE, hcell⟩ := HEL.out j hlt
      have hE' := hE
      obtain ⟨rfl, hsm⟩ := hE
      have hlt' : (j : Int) < l.length := by omega
      have HS := Lib.hid (szAll_take ByteArray.size l j hlt)
      have HT := Lib.hid (szAll_le ByteArray.size l (j + 1))
      have e0 := (hbel.cell (p := ⟨b, o + j * 1 + 0, none⟩) hbl).trans (hcell 0 _ rfl)
      simp only [Nat.mul_one, Nat.add_zero] at e0
      have hsm' : (l[j].size : Int) ≤ 9223372036854775807 := by unfold maxLen at hsm; omega
      obtain ⟨s, hs⟩ : ∃ s, l[j] = s := ⟨_, rfl⟩
      rw [hs] at e0 hsm' HS
      clear hcell hsm hs
      by_cases hin : (s.size : Int) ≤ d
      · have t2 : decide (d - (s.size : Int) < 0) = false := by simp; omega
        go_wp2_with fail
        go_roundw
        case rel => exact ⟨j + 1, by omega, by go_num, by rw [HS.out, ← HDE.out]; congr 1; omega, by rw [HS.out]; have := HDE.out; omega, hbel⟩
        case measure => simp [intOf]; omega
      · have t2 : decide (d - (s.size : Int) < 0) = true := by simp; omega
        have HL : Hid (leftOf (szRow ByteArray.size l) k = -1) := Lib.hid (leftOf_no (by have := HS.out; have := HT.out; have := HDE.out; unfold szRow; omega))
        go_wp2_with fail
        go_ret
        exact ⟨ret_int HL.out.symm, hbel⟩
    · have hjl : j = l.length := by omega
      have HL : Hid (leftOf (szRow ByteArray.size l) k = d) := Lib.hid (by
        have := HDE.out
        rw [hjl, List.take_length] at this
        unfold szRow
        rw [leftOf_yes (by omega)]; omega)
      go_wp2_with fail
      go_ret
      exact ⟨ret_int HL.out.symm, hbel⟩
set_option maxRecDepth 100000 in
set_option maxHeartbeats 1000000 in
theorem szRecordType_any (r : RecordTypeD) (cs : List Value) (F : Nat → Prop) (w : World) (k : Int) (hl0 : 0 ≤ k) (hl1 : k ≤ 1048576) (h : recordTypeEl F w r cs) :
    Calls Tryd.prog 57 #[.agg cs.toArray, .int .i64 k] w fun e w' => e = .returned (.int .i64 (leftOf (szRecordTypeD r) k)) ∧ Below w.heap.size w w' := by
  obtain ⟨vfields, rfl, hname, hfields, hline⟩ := h
  have HE := Lib.hid (show szRecordTypeD r = r.name.size + (szRow ByteArray.size r.fields) from rfl)
  have hbname : (r.name.size : Int) ≤ 9223372036854775807 := by unfold maxLen at hname; omega
  have Hfields := Lib.hid hfields
  clear hfields
  have HBA := Lib.hid ((Below.refl w.heap.size w).alloc (Nat.le_refl _) (.cells #[.string r.name, vfields, .int .i64 r.line] 85))
  have HWA := Lib.hid (heap_alloc_new w (.cells #[.string r.name, vfields, .int .i64 r.line] 85))
  go_enter Tryd.func57, Tryd.ntmps57
  by_cases c0 : k < ((r.name.size : Nat) : Int)
  · have HL := Lib.hid (leftOf_no (n := szRecordTypeD r) (l := k) (by have := HE.out; omega))
    have t0 : decide (k - ((r.name.size : Nat) : Int) < 0) = true := by simp; omega
    go_wp2_with fail
    go_ret
    exact ⟨ret_int HL.out.symm, HBA.out⟩
  have t0 : decide (k - ((r.name.size : Nat) : Int) < 0) = false := by simp; omega
  obtain ⟨d0, hd0⟩ : ∃ d, k - ((r.name.size : Nat) : Int) = d := ⟨_, rfl⟩
  rw [hd0] at t0
  have HD := Lib.hid (show d0 = k - (((r.name.size) : Nat) : Int) by omega)
  have n0 : 0 ≤ d0 := by omega
  have m0 : d0 ≤ 1048576 := by omega
  clear c0
  go_wp2_with fail
  refine (szStringS_any r.fields vfields F _ d0 n0 m0 (Hfields.out.later strEl_is HBA.out)).mono ?_
  rintro e w1 ⟨rfl, hb1⟩
  have HB1 := Lib.hid (HBA.out.trans (Below.mono hb1 HBA.out.size))
  have HW1 := Lib.hid ((Below.block hb1 _ (Array.getElem?_eq_some_iff.1 HWA.out).1).trans HWA.out)
  have q1_0 := cell_of_row _ w.heap.size 0 _ _ _ HW1.out
  simp only [List.getElem?_toArray, List.getElem?_cons_succ, List.getElem?_cons_zero] at q1_0
  have q1_1 := cell_of_row _ w.heap.size 1 _ _ _ HW1.out
  simp only [List.getElem?_toArray, List.getElem?_cons_succ, List.getElem?_cons_zero] at q1_1
  have q1_2 := cell_of_row _ w.heap.size 2 _ _ _ HW1.out
  simp only [List.getElem?_toArray, List.getElem?_cons_succ, List.getElem?_cons_zero] at q1_2
  clear hb1
  by_cases c1 : d0 < ((szRow ByteArray.size r.fields : Nat) : Int)
  · rw [leftOf_no c1]
    have HL := Lib.hid (leftOf_no (n := szRecordTypeD r) (l := k) (by have := HE.out; have := HD.out; omega))
    go_wp2_with fail
    go_ret
    exact ⟨ret_int HL.out.symm, HB1.out⟩
  rw [leftOf_yes (by omega)]
  have t1 : decide (d0 - ((szRow ByteArray.size r.fields : Nat) : Int) < 0) = false := by simp; omega
  obtain ⟨d1, hd1⟩ : ∃ d, d0 - ((szRow ByteArray.size r.fields : Nat) : Int) = d := ⟨_, rfl⟩
  rw [hd1] at t1 ⊢
  replace HD := Lib.hid (show d1 = k - (((r.name.size) + (szRow ByteArray.size r.fields) : Nat) : Int) by have := HD.out; omega)
  have n1 : 0 ≤ d1 := by omega
  have m1 : d1 ≤ 1048576 := by omega
  clear hd1
  clear c1
  have HL := Lib.hid (leftOf_yes (n := szRecordTypeD r) (l := k) (by have := HE.out; have := HD.out; omega))
  go_wp2_with fail
  go_ret
  exact ⟨ret_int (by rw [HL.out]; have := HE.out; have := HD.out; omega), HB1.out⟩
set_option maxRecDepth 100000 in
set_option maxHeartbeats 1000000 in
theorem szRecordTypeS_any (l : List RecordTypeD) (v : Value) (F : Nat → Prop) (w : World) (k : Int) (hl0 : 0 ≤ k) (hl1 : k ≤ 1048576) (hr : RowIs recordTypeEl 3 F w l v) :
    Calls Tryd.prog 26 #[v, .int .i64 k] w fun e w' => e = .returned (.int .i64 (leftOf (szRow szRecordTypeD l) k)) ∧ Below w.heap.size w w' := by
  obtain ⟨A, c, rfl, hc, hcm, hel⟩ := hr
  unfold maxLen at hcm
  have HEL := Lib.hid hel
  clear hel
  have hb1 : (l.length : Int) ≤ 9223372036854775807 := by omega
  by_cases h0 : k < (l.length : Int)
  · have HL := Lib.hid (leftOf_no (n := szRow szRecordTypeD l) (l := k) (by unfold szRow; omega))
    have t1 : decide (k - (l.length : Int) < 0) = true := by simp; omega
    go_enter Tryd.func26, Tryd.ntmps26
    go_wp2_with fail
    go_ret
    exact ⟨ret_int HL.out.symm, Below.refl _ _⟩
  · have t1 : decide (k - (l.length : Int) < 0) = false := by simp; omega
    go_enter Tryd.func26, Tryd.ntmps26
    go_wp2_with fail
    go_loopw [1, 5] (fun lv i wr => ∃ j : Nat, j ≤ l.length ∧ i = .int .i64 j ∧ lv = .int .i64 (k - l.length - szAll szRecordTypeD (l.take j)) ∧ 0 ≤ k - l.length - szAll szRecordTypeD (l.take j) ∧ Below w.heap.size w wr) (fun _ i _ => l.length - (intOf i).toNat)
    case atStart => exact ⟨0, Nat.zero_le _, rfl, by simp [szAll], by simp [szAll]; omega, Below.refl _ _⟩
    case round =>
    obtain ⟨j, hj, rfl, rfl, hd, hbel⟩ := hrel
    have hsz := hbel.size
    have hd1 : k - l.length - szAll szRecordTypeD (l.take j) ≤ 1048576 := by omega
    obtain ⟨d, hde⟩ : ∃ d, k - l.length - szAll szRecordTypeD (l.take j) = d := ⟨_, rfl⟩
    rw [hde] at hd hd1 ⊢
    have HDE := Lib.hid hde
    clear hde
    by_cases hlt : j < l.length
    · obtain ⟨b, o, cs, rfl, hF, hbl, hE, hcell⟩ := HEL.out j hlt
      have hE' := hE
      obtain ⟨vfields, rfl, hfacts⟩ := hE
      have hlt' : (j : Int) < l.length := by omega
      have HS := Lib.hid (szAll_take szRecordTypeD l j hlt)
      have HT := Lib.hid (szAll_le szRecordTypeD l (j + 1))
      have e0 := (hbel.cell (p := ⟨b, o + j * 3 + 0, none⟩) hbl).trans (hcell 0 _ rfl)
      have e1 := (hbel.cell (p := ⟨b, o + j * 3 + 1, none⟩) hbl).trans (hcell 1 _ rfl)
      have e2 := (hbel.cell (p := ⟨b, o + j * 3 + 2, none⟩) hbl).trans (hcell 2 _ rfl)
      simp only [Nat.mul_one, Nat.add_zero] at e0
      have hE2 := recordTypeEl_is.keep (G := F) hE' (fun _ h => h) (Keeps.later hbel)
      have HE2 := Lib.hid hE2
      clear hE2 hE' hcell hfacts
      go_wp2_with fail
      refine (szRecordType_any l[j] _ F wr d hd hd1 HE2.out).mono ?_
      rintro e w4 ⟨rfl, hb4⟩
      have hb5 : Below w.heap.size w w4 := hbel.trans (Below.mono hb4 hsz)
      clear hb4 e0 e1 e2
      by_cases hin : (szRecordTypeD l[j] : Int) ≤ d
      · rw [leftOf_yes hin]
        have t2 : decide (d - (szRecordTypeD l[j] : Int) < 0) = false := by simp; omega
        go_wp2_with fail
        go_roundw
        case rel => exact ⟨j + 1, by omega, by go_num, by rw [HS.out, ← HDE.out]; congr 1; omega, by rw [HS.out]; have := HDE.out; omega, hb5⟩
        case measure => simp [intOf]; omega
      · rw [leftOf_no (by omega)]
        have HL : Hid (leftOf (szRow szRecordTypeD l) k = -1) := Lib.hid (leftOf_no (by have := HS.out; have := HT.out; have := HDE.out; unfold szRow; omega))
        go_wp2_with fail
        go_ret
        exact ⟨ret_int HL.out.symm, hb5⟩
    · have hjl : j = l.length := by omega
      have HL : Hid (leftOf (szRow szRecordTypeD l) k = d) := Lib.hid (by
        have := HDE.out
        rw [hjl, List.take_length] at this
        unfold szRow
        rw [leftOf_yes (by omega)]; omega)
      go_wp2_with fail
      go_ret
      exact ⟨ret_int HL.out.symm, hbel⟩

set_option maxRecDepth 100000 in
set_option maxHeartbeats 1000000 in
theorem szCodeRoutine_any (r : CodeRoutineD) (cs : List Value) (F : Nat → Prop) (w : World) (k : Int) (hl0 : 0 ≤ k) (hl1 : k ≤ 1048576) (h : codeRoutineEl F w r cs) :
    Calls Tryd.prog 56 #[.agg cs.toArray, .int .i64 k] w fun e w' => e = .returned (.int .i64 (leftOf (szCodeRoutineD r) k)) ∧ Below w.heap.size w w' := by
  obtain ⟨rfl, hname, hparams, hslots, hentry⟩ := h
  have HE := Lib.hid (show szCodeRoutineD r = r.name.size from rfl)
  have hbname : (r.name.size : Int) ≤ 9223372036854775807 := by unfold maxLen at hname; omega
  have HBA := Lib.hid ((Below.refl w.heap.size w).alloc (Nat.le_refl _) (.cells #[.string r.name, .int .i64 r.params, .int .i64 r.slots, .int .i64 r.entry] 83))
  have HWA := Lib.hid (heap_alloc_new w (.cells #[.string r.name, .int .i64 r.params, .int .i64 r.slots, .int .i64 r.entry] 83))
  go_enter Tryd.func56, Tryd.ntmps56
  by_cases c0 : k < ((r.name.size : Nat) : Int)
  · have HL := Lib.hid (leftOf_no (n := szCodeRoutineD r) (l := k) (by have := HE.out; omega))
    have t0 : decide (k - ((r.name.size : Nat) : Int) < 0) = true := by simp; omega
    go_wp2_with fail
    go_ret
    exact ⟨ret_int HL.out.symm, HBA.out⟩
  have t0 : decide (k - ((r.name.size : Nat) : Int) < 0) = false := by simp; omega
  obtain ⟨d0, hd0⟩ : ∃ d, k - ((r.name.size : Nat) : Int) = d := ⟨_, rfl⟩
  rw [hd0] at t0
  have HD := Lib.hid (show d0 = k - (((r.name.size) : Nat) : Int) by omega)
  have n0 : 0 ≤ d0 := by omega
  have m0 : d0 ≤ 1048576 := by omega
  clear c0
  have HL := Lib.hid (leftOf_yes (n := szCodeRoutineD r) (l := k) (by have := HE.out; have := HD.out; omega))
  go_wp2_with fail
  go_ret
  exact ⟨ret_int (by rw [HL.out]; have := HE.out; have := HD.out; omega), HBA.out⟩
set_option maxRecDepth 100000 in
set_option maxHeartbeats 1000000 in
theorem szCodeRoutineS_any (l : List CodeRoutineD) (v : Value) (F : Nat → Prop) (w : World) (k : Int) (hl0 : 0 ≤ k) (hl1 : k ≤ 1048576) (hr : RowIs codeRoutineEl 4 F w l v) :
    Calls Tryd.prog 25 #[v, .int .i64 k] w fun e w' => e = .returned (.int .i64 (leftOf (szRow szCodeRoutineD l) k)) ∧ Below w.heap.size w w' := by
  obtain ⟨A, c, rfl, hc, hcm, hel⟩ := hr
  unfold maxLen at hcm
  have HEL := Lib.hid hel
  clear hel
  have hb1 : (l.length : Int) ≤ 9223372036854775807 := by omega
  by_cases h0 : k < (l.length : Int)
  · have HL := Lib.hid (leftOf_no (n := szRow szCodeRoutineD l) (l := k) (by unfold szRow; omega))
    have t1 : decide (k - (l.length : Int) < 0) = true := by simp; omega
    go_enter Tryd.func25, Tryd.ntmps25
    go_wp2_with fail
    go_ret
    exact ⟨ret_int HL.out.symm, Below.refl _ _⟩
  · have t1 : decide (k - (l.length : Int) < 0) = false := by simp; omega
    go_enter Tryd.func25, Tryd.ntmps25
    go_wp2_with fail
    go_loopw [1, 5] (fun lv i wr => ∃ j : Nat, j ≤ l.length ∧ i = .int .i64 j ∧ lv = .int .i64 (k - l.length - szAll szCodeRoutineD (l.take j)) ∧ 0 ≤ k - l.length - szAll szCodeRoutineD (l.take j) ∧ Below w.heap.size w wr) (fun _ i _ => l.length - (intOf i).toNat)
    case atStart => exact ⟨0, Nat.zero_le _, rfl, by simp [szAll], by simp [szAll]; omega, Below.refl _ _⟩
    case round =>
    obtain ⟨j, hj, rfl, rfl, hd, hbel⟩ := hrel
    have hsz := hbel.size
    have hd1 : k - l.length - szAll szCodeRoutineD (l.take j) ≤ 1048576 := by omega
    obtain ⟨d, hde⟩ : ∃ d, k - l.length - szAll szCodeRoutineD (l.take j) = d := ⟨_, rfl⟩
    rw [hde] at hd hd1 ⊢
    have HDE := Lib.hid hde
    clear hde
    by_cases hlt : j < l.length
    · obtain ⟨b, o, cs, rfl, hF, hbl, hE, hcell⟩ := HEL.out j hlt
      have hE' := hE
      obtain ⟨rfl, hfacts⟩ := hE
      have hlt' : (j : Int) < l.length := by omega
      have HS := Lib.hid (szAll_take szCodeRoutineD l j hlt)
      have HT := Lib.hid (szAll_le szCodeRoutineD l (j + 1))
      have e0 := (hbel.cell (p := ⟨b, o + j * 4 + 0, none⟩) hbl).trans (hcell 0 _ rfl)
      have e1 := (hbel.cell (p := ⟨b, o + j * 4 + 1, none⟩) hbl).trans (hcell 1 _ rfl)
      have e2 := (hbel.cell (p := ⟨b, o + j * 4 + 2, none⟩) hbl).trans (hcell 2 _ rfl)
      have e3 := (hbel.cell (p := ⟨b, o + j * 4 + 3, none⟩) hbl).trans (hcell 3 _ rfl)
      simp only [Nat.mul_one, Nat.add_zero] at e0
      have hE2 := codeRoutineEl_is.keep (G := F) hE' (fun _ h => h) (Keeps.later hbel)
      have HE2 := Lib.hid hE2
      clear hE2 hE' hcell hfacts
      go_wp2_with fail
      refine (szCodeRoutine_any l[j] _ F wr d hd hd1 HE2.out).mono ?_
      rintro e w4 ⟨rfl, hb4⟩
      have hb5 : Below w.heap.size w w4 := hbel.trans (Below.mono hb4 hsz)
      clear hb4 e0 e1 e2 e3
      by_cases hin : (szCodeRoutineD l[j] : Int) ≤ d
      · rw [leftOf_yes hin]
        have t2 : decide (d - (szCodeRoutineD l[j] : Int) < 0) = false := by simp; omega
        go_wp2_with fail
        go_roundw
        case rel => exact ⟨j + 1, by omega, by go_num, by rw [HS.out, ← HDE.out]; congr 1; omega, by rw [HS.out]; have := HDE.out; omega, hb5⟩
        case measure => simp [intOf]; omega
      · rw [leftOf_no (by omega)]
        have HL : Hid (leftOf (szRow szCodeRoutineD l) k = -1) := Lib.hid (leftOf_no (by have := HS.out; have := HT.out; have := HDE.out; unfold szRow; omega))
        go_wp2_with fail
        go_ret
        exact ⟨ret_int HL.out.symm, hb5⟩
    · have hjl : j = l.length := by omega
      have HL : Hid (leftOf (szRow szCodeRoutineD l) k = d) := Lib.hid (by
        have := HDE.out
        rw [hjl, List.take_length] at this
        unfold szRow
        rw [leftOf_yes (by omega)]; omega)
      go_wp2_with fail
      go_ret
      exact ⟨ret_int HL.out.symm, hbel⟩

set_option maxRecDepth 100000 in
set_option maxHeartbeats 1000000 in
theorem szInstr_any (r : InstrD) (cs : List Value) (F : Nat → Prop) (w : World) (k : Int) (hl0 : 0 ≤ k) (hl1 : k ≤ 1048576) (h : instrEl F w r cs) :
    Calls Tryd.prog 58 #[.agg cs.toArray, .int .i64 k] w fun e w' => e = .returned (.int .i64 (leftOf (szInstrD r) k)) ∧ Below w.heap.size w w' := by
  obtain ⟨rfl, hop, ha, hb, hline, htext⟩ := h
  have HE := Lib.hid (show szInstrD r = r.text.size from rfl)
  have hbtext : (r.text.size : Int) ≤ 9223372036854775807 := by unfold maxLen at htext; omega
  have HBA := Lib.hid ((Below.refl w.heap.size w).alloc (Nat.le_refl _) (.cells #[.int .i64 r.op, .int .i64 r.a, .int .i64 r.b, .int .i64 r.line, .string r.text] 87))
  have HWA := Lib.hid (heap_alloc_new w (.cells #[.int .i64 r.op, .int .i64 r.a, .int .i64 r.b, .int .i64 r.line, .string r.text] 87))
  go_enter Tryd.func58, Tryd.ntmps58
  by_cases c0 : k < ((r.text.size : Nat) : Int)
  · have HL := Lib.hid (leftOf_no (n := szInstrD r) (l := k) (by have := HE.out; omega))
    have t0 : decide (k - ((r.text.size : Nat) : Int) < 0) = true := by simp; omega
    go_wp2_with fail
    go_ret
    exact ⟨ret_int HL.out.symm, HBA.out⟩
  have t0 : decide (k - ((r.text.size : Nat) : Int) < 0) = false := by simp; omega
  obtain ⟨d0, hd0⟩ : ∃ d, k - ((r.text.size : Nat) : Int) = d := ⟨_, rfl⟩
  rw [hd0] at t0
  have HD := Lib.hid (show d0 = k - (((r.text.size) : Nat) : Int) by omega)
  have n0 : 0 ≤ d0 := by omega
  have m0 : d0 ≤ 1048576 := by omega
  clear c0
  have HL := Lib.hid (leftOf_yes (n := szInstrD r) (l := k) (by have := HE.out; have := HD.out; omega))
  go_wp2_with fail
  go_ret
  exact ⟨ret_int (by rw [HL.out]; have := HE.out; have := HD.out; omega), HBA.out⟩
set_option maxRecDepth 100000 in
set_option maxHeartbeats 1000000 in
theorem szInstrS_any (l : List InstrD) (v : Value) (F : Nat → Prop) (w : World) (k : Int) (hl0 : 0 ≤ k) (hl1 : k ≤ 1048576) (hr : RowIs instrEl 5 F w l v) :
    Calls Tryd.prog 28 #[v, .int .i64 k] w fun e w' => e = .returned (.int .i64 (leftOf (szRow szInstrD l) k)) ∧ Below w.heap.size w w' := by
  obtain ⟨A, c, rfl, hc, hcm, hel⟩ := hr
  unfold maxLen at hcm
  have HEL := Lib.hid hel
  clear hel
  have hb1 : (l.length : Int) ≤ 9223372036854775807 := by omega
  by_cases h0 : k < (l.length : Int)
  · have HL := Lib.hid (leftOf_no (n := szRow szInstrD l) (l := k) (by unfold szRow; omega))
    have t1 : decide (k - (l.length : Int) < 0) = true := by simp; omega
    go_enter Tryd.func28, Tryd.ntmps28
    go_wp2_with fail
    go_ret
    exact ⟨ret_int HL.out.symm, Below.refl _ _⟩
  · have t1 : decide (k - (l.length : Int) < 0) = false := by simp; omega
    go_enter Tryd.func28, Tryd.ntmps28
    go_wp2_with fail
    go_loopw [1, 5] (fun lv i wr => ∃ j : Nat, j ≤ l.length ∧ i = .int .i64 j ∧ lv = .int .i64 (k - l.length - szAll szInstrD (l.take j)) ∧ 0 ≤ k - l.length - szAll szInstrD (l.take j) ∧ Below w.heap.size w wr) (fun _ i _ => l.length - (intOf i).toNat)
    case atStart => exact ⟨0, Nat.zero_le _, rfl, by simp [szAll], by simp [szAll]; omega, Below.refl _ _⟩
    case round =>
    obtain ⟨j, hj, rfl, rfl, hd, hbel⟩ := hrel
    have hsz := hbel.size
    have hd1 : k - l.length - szAll szInstrD (l.take j) ≤ 1048576 := by omega
    obtain ⟨d, hde⟩ : ∃ d, k - l.length - szAll szInstrD (l.take j) = d := ⟨_, rfl⟩
    rw [hde] at hd hd1 ⊢
    have HDE := Lib.hid hde
    clear hde
    by_cases hlt : j < l.length
    · obtain ⟨b, o, cs, rfl, hF, hbl, hE, hcell⟩ := HEL.out j hlt
      have hE' := hE
      obtain ⟨rfl, hfacts⟩ := hE
      have hlt' : (j : Int) < l.length := by omega
      have HS := Lib.hid (szAll_take szInstrD l j hlt)
      have HT := Lib.hid (szAll_le szInstrD l (j + 1))
      have e0 := (hbel.cell (p := ⟨b, o + j * 5 + 0, none⟩) hbl).trans (hcell 0 _ rfl)
      have e1 := (hbel.cell (p := ⟨b, o + j * 5 + 1, none⟩) hbl).trans (hcell 1 _ rfl)
      have e2 := (hbel.cell (p := ⟨b, o + j * 5 + 2, none⟩) hbl).trans (hcell 2 _ rfl)
      have e3 := (hbel.cell (p := ⟨b, o + j * 5 + 3, none⟩) hbl).trans (hcell 3 _ rfl)
      have e4 := (hbel.cell (p := ⟨b, o + j * 5 + 4, none⟩) hbl).trans (hcell 4 _ rfl)
      simp only [Nat.mul_one, Nat.add_zero] at e0
      have hE2 := instrEl_is.keep (G := F) hE' (fun _ h => h) (Keeps.later hbel)
      have HE2 := Lib.hid hE2
      clear hE2 hE' hcell hfacts
      go_wp2_with fail
      refine (szInstr_any l[j] _ F wr d hd hd1 HE2.out).mono ?_
      rintro e w4 ⟨rfl, hb4⟩
      have hb5 : Below w.heap.size w w4 := hbel.trans (Below.mono hb4 hsz)
      clear hb4 e0 e1 e2 e3 e4
      by_cases hin : (szInstrD l[j] : Int) ≤ d
      · rw [leftOf_yes hin]
        have t2 : decide (d - (szInstrD l[j] : Int) < 0) = false := by simp; omega
        go_wp2_with fail
        go_roundw
        case rel => exact ⟨j + 1, by omega, by go_num, by rw [HS.out, ← HDE.out]; congr 1; omega, by rw [HS.out]; have := HDE.out; omega, hb5⟩
        case measure => simp [intOf]; omega
      · rw [leftOf_no (by omega)]
        have HL : Hid (leftOf (szRow szInstrD l) k = -1) := Lib.hid (leftOf_no (by have := HS.out; have := HT.out; have := HDE.out; unfold szRow; omega))
        go_wp2_with fail
        go_ret
        exact ⟨ret_int HL.out.symm, hb5⟩
    · have hjl : j = l.length := by omega
      have HL : Hid (leftOf (szRow szInstrD l) k = d) := Lib.hid (by
        have := HDE.out
        rw [hjl, List.take_length] at this
        unfold szRow
        rw [leftOf_yes (by omega)]; omega)
      go_wp2_with fail
      go_ret
      exact ⟨ret_int HL.out.symm, hbel⟩

set_option maxRecDepth 100000 in
set_option maxHeartbeats 1000000 in
theorem szCode_any (r : CodeD) (cs : List Value) (F : Nat → Prop) (w : World) (k : Int) (hl0 : 0 ≤ k) (hl1 : k ≤ 1048576) (h : codeEl F w r cs) :
    Calls Tryd.prog 8 #[.agg cs.toArray, .int .i64 k] w fun e w' => e = .returned (.int .i64 (leftOf (szCodeD r) k)) ∧ Below w.heap.size w w' := by
  obtain ⟨vroutines, vrecords, vglobals, vinstrs, rfl, hroutines, hrecords, hglobals, hmain, hinstrs⟩ := h
  have HE := Lib.hid (show szCodeD r = szRow szCodeRoutineD r.routines + (szRow szRecordTypeD r.records + (szRow ByteArray.size r.globals + (szRow szInstrD r.instrs))) from rfl)
  have Hroutines := Lib.hid hroutines
  clear hroutines
  have Hrecords := Lib.hid hrecords
  clear hrecords
  have Hglobals := Lib.hid hglobals
  clear hglobals
  have Hinstrs := Lib.hid hinstrs
  clear hinstrs
  have HBA := Lib.hid ((Below.refl w.heap.size w).alloc (Nat.le_refl _) (.cells #[vroutines, vrecords, vglobals, .int .i64 r.main, vinstrs] 33))
  have HWA := Lib.hid (heap_alloc_new w (.cells #[vroutines, vrecords, vglobals, .int .i64 r.main, vinstrs] 33))
  go_enter Tryd.func8, Tryd.ntmps8
  go_wp2_with fail
  refine (szCodeRoutineS_any r.routines vroutines F _ k hl0 hl1 (Hroutines.out.later codeRoutineEl_is HBA.out)).mono ?_
  rintro e w0 ⟨rfl, hb0⟩
  have HB0 := Lib.hid (HBA.out.trans (Below.mono hb0 HBA.out.size))
  have HW0 := Lib.hid ((Below.block hb0 _ (Array.getElem?_eq_some_iff.1 HWA.out).1).trans HWA.out)
  have q0_0 := cell_of_row _ w.heap.size 0 _ _ _ HW0.out
  simp only [List.getElem?_toArray, List.getElem?_cons_succ, List.getElem?_cons_zero] at q0_0
  have q0_1 := cell_of_row _ w.heap.size 1 _ _ _ HW0.out
  simp only [List.getElem?_toArray, List.getElem?_cons_succ, List.getElem?_cons_zero] at q0_1
  have q0_2 := cell_of_row _ w.heap.size 2 _ _ _ HW0.out
  simp only [List.getElem?_toArray, List.getElem?_cons_succ, List.getElem?_cons_zero] at q0_2
  have q0_3 := cell_of_row _ w.heap.size 3 _ _ _ HW0.out
  simp only [List.getElem?_toArray, List.getElem?_cons_succ, List.getElem?_cons_zero] at q0_3
  have q0_4 := cell_of_row _ w.heap.size 4 _ _ _ HW0.out
  simp only [List.getElem?_toArray, List.getElem?_cons_succ, List.getElem?_cons_zero] at q0_4
  clear hb0
  by_cases c0 : k < ((szRow szCodeRoutineD r.routines : Nat) : Int)
  · rw [leftOf_no c0]
    have HL := Lib.hid (leftOf_no (n := szCodeD r) (l := k) (by have := HE.out; omega))
    go_wp2_with fail
    go_ret
    exact ⟨ret_int HL.out.symm, HB0.out⟩
  rw [leftOf_yes (by omega)]
  have t0 : decide (k - ((szRow szCodeRoutineD r.routines : Nat) : Int) < 0) = false := by simp; omega
  obtain ⟨d0, hd0⟩ : ∃ d, k - ((szRow szCodeRoutineD r.routines : Nat) : Int) = d := ⟨_, rfl⟩
  rw [hd0] at t0 ⊢
  have HD := Lib.hid (show d0 = k - (((szRow szCodeRoutineD r.routines) : Nat) : Int) by omega)
  have n0 : 0 ≤ d0 := by omega
  have m0 : d0 ≤ 1048576 := by omega
  clear hd0
  clear c0
  go_wp2_with fail
  refine (szRecordTypeS_any r.records vrecords F _ d0 n0 m0 (Hrecords.out.later recordTypeEl_is HB0.out)).mono ?_
  rintro e w1 ⟨rfl, hb1⟩
  have HB1 := Lib.hid (HB0.out.trans (Below.mono hb1 HB0.out.size))
  have HW1 := Lib.hid ((Below.block hb1 _ (Array.getElem?_eq_some_iff.1 HW0.out).1).trans HW0.out)
  have q1_0 := cell_of_row _ w.heap.size 0 _ _ _ HW1.out
  simp only [List.getElem?_toArray, List.getElem?_cons_succ, List.getElem?_cons_zero] at q1_0
  have q1_1 := cell_of_row _ w.heap.size 1 _ _ _ HW1.out
  simp only [List.getElem?_toArray, List.getElem?_cons_succ, List.getElem?_cons_zero] at q1_1
  have q1_2 := cell_of_row _ w.heap.size 2 _ _ _ HW1.out
  simp only [List.getElem?_toArray, List.getElem?_cons_succ, List.getElem?_cons_zero] at q1_2
  have q1_3 := cell_of_row _ w.heap.size 3 _ _ _ HW1.out
  simp only [List.getElem?_toArray, List.getElem?_cons_succ, List.getElem?_cons_zero] at q1_3
  have q1_4 := cell_of_row _ w.heap.size 4 _ _ _ HW1.out
  simp only [List.getElem?_toArray, List.getElem?_cons_succ, List.getElem?_cons_zero] at q1_4
  clear hb1
  by_cases c1 : d0 < ((szRow szRecordTypeD r.records : Nat) : Int)
  · rw [leftOf_no c1]
    have HL := Lib.hid (leftOf_no (n := szCodeD r) (l := k) (by have := HE.out; have := HD.out; omega))
    go_wp2_with fail
    go_ret
    exact ⟨ret_int HL.out.symm, HB1.out⟩
  rw [leftOf_yes (by omega)]
  have t1 : decide (d0 - ((szRow szRecordTypeD r.records : Nat) : Int) < 0) = false := by simp; omega
  obtain ⟨d1, hd1⟩ : ∃ d, d0 - ((szRow szRecordTypeD r.records : Nat) : Int) = d := ⟨_, rfl⟩
  rw [hd1] at t1 ⊢
  replace HD := Lib.hid (show d1 = k - (((szRow szCodeRoutineD r.routines) + (szRow szRecordTypeD r.records) : Nat) : Int) by have := HD.out; omega)
  have n1 : 0 ≤ d1 := by omega
  have m1 : d1 ≤ 1048576 := by omega
  clear hd1
  clear c1
  go_wp2_with fail
  refine (szStringS_any r.globals vglobals F _ d1 n1 m1 (Hglobals.out.later strEl_is HB1.out)).mono ?_
  rintro e w2 ⟨rfl, hb2⟩
  have HB2 := Lib.hid (HB1.out.trans (Below.mono hb2 HB1.out.size))
  have HW2 := Lib.hid ((Below.block hb2 _ (Array.getElem?_eq_some_iff.1 HW1.out).1).trans HW1.out)
  have q2_0 := cell_of_row _ w.heap.size 0 _ _ _ HW2.out
  simp only [List.getElem?_toArray, List.getElem?_cons_succ, List.getElem?_cons_zero] at q2_0
  have q2_1 := cell_of_row _ w.heap.size 1 _ _ _ HW2.out
  simp only [List.getElem?_toArray, List.getElem?_cons_succ, List.getElem?_cons_zero] at q2_1
  have q2_2 := cell_of_row _ w.heap.size 2 _ _ _ HW2.out
  simp only [List.getElem?_toArray, List.getElem?_cons_succ, List.getElem?_cons_zero] at q2_2
  have q2_3 := cell_of_row _ w.heap.size 3 _ _ _ HW2.out
  simp only [List.getElem?_toArray, List.getElem?_cons_succ, List.getElem?_cons_zero] at q2_3
  have q2_4 := cell_of_row _ w.heap.size 4 _ _ _ HW2.out
  simp only [List.getElem?_toArray, List.getElem?_cons_succ, List.getElem?_cons_zero] at q2_4
  clear hb2
  by_cases c2 : d1 < ((szRow ByteArray.size r.globals : Nat) : Int)
  · rw [leftOf_no c2]
    have HL := Lib.hid (leftOf_no (n := szCodeD r) (l := k) (by have := HE.out; have := HD.out; omega))
    go_wp2_with fail
    go_ret
    exact ⟨ret_int HL.out.symm, HB2.out⟩
  rw [leftOf_yes (by omega)]
  have t2 : decide (d1 - ((szRow ByteArray.size r.globals : Nat) : Int) < 0) = false := by simp; omega
  obtain ⟨d2, hd2⟩ : ∃ d, d1 - ((szRow ByteArray.size r.globals : Nat) : Int) = d := ⟨_, rfl⟩
  rw [hd2] at t2 ⊢
  replace HD := Lib.hid (show d2 = k - (((szRow szCodeRoutineD r.routines) + (szRow szRecordTypeD r.records) + (szRow ByteArray.size r.globals) : Nat) : Int) by have := HD.out; omega)
  have n2 : 0 ≤ d2 := by omega
  have m2 : d2 ≤ 1048576 := by omega
  clear hd2
  clear c2
  go_wp2_with fail
  refine (szInstrS_any r.instrs vinstrs F _ d2 n2 m2 (Hinstrs.out.later instrEl_is HB2.out)).mono ?_
  rintro e w3 ⟨rfl, hb3⟩
  have HB3 := Lib.hid (HB2.out.trans (Below.mono hb3 HB2.out.size))
  have HW3 := Lib.hid ((Below.block hb3 _ (Array.getElem?_eq_some_iff.1 HW2.out).1).trans HW2.out)
  have q3_0 := cell_of_row _ w.heap.size 0 _ _ _ HW3.out
  simp only [List.getElem?_toArray, List.getElem?_cons_succ, List.getElem?_cons_zero] at q3_0
  have q3_1 := cell_of_row _ w.heap.size 1 _ _ _ HW3.out
  simp only [List.getElem?_toArray, List.getElem?_cons_succ, List.getElem?_cons_zero] at q3_1
  have q3_2 := cell_of_row _ w.heap.size 2 _ _ _ HW3.out
  simp only [List.getElem?_toArray, List.getElem?_cons_succ, List.getElem?_cons_zero] at q3_2
  have q3_3 := cell_of_row _ w.heap.size 3 _ _ _ HW3.out
  simp only [List.getElem?_toArray, List.getElem?_cons_succ, List.getElem?_cons_zero] at q3_3
  have q3_4 := cell_of_row _ w.heap.size 4 _ _ _ HW3.out
  simp only [List.getElem?_toArray, List.getElem?_cons_succ, List.getElem?_cons_zero] at q3_4
  clear hb3
  by_cases c3 : d2 < ((szRow szInstrD r.instrs : Nat) : Int)
  · rw [leftOf_no c3]
    have HL := Lib.hid (leftOf_no (n := szCodeD r) (l := k) (by have := HE.out; have := HD.out; omega))
    go_wp2_with fail
    go_ret
    exact ⟨ret_int HL.out.symm, HB3.out⟩
  rw [leftOf_yes (by omega)]
  have t3 : decide (d2 - ((szRow szInstrD r.instrs : Nat) : Int) < 0) = false := by simp; omega
  obtain ⟨d3, hd3⟩ : ∃ d, d2 - ((szRow szInstrD r.instrs : Nat) : Int) = d := ⟨_, rfl⟩
  rw [hd3] at t3 ⊢
  replace HD := Lib.hid (show d3 = k - (((szRow szCodeRoutineD r.routines) + (szRow szRecordTypeD r.records) + (szRow ByteArray.size r.globals) + (szRow szInstrD r.instrs) : Nat) : Int) by have := HD.out; omega)
  have n3 : 0 ≤ d3 := by omega
  have m3 : d3 ≤ 1048576 := by omega
  clear hd3
  clear c3
  have HL := Lib.hid (leftOf_yes (n := szCodeD r) (l := k) (by have := HE.out; have := HD.out; omega))
  go_wp2_with fail
  go_ret
  exact ⟨ret_int (by rw [HL.out]; have := HE.out; have := HD.out; omega), HB3.out⟩
end Go.Proofs.YtopaeiogbijppaaDoor
