/- Part of the walks that the claim stands on. -/
import Derived.Test.YtpmhelkiicigfaaGreatDoorS1
import Derived.Test.YtpmhelkiicigfaaGreatDoorChecked
import Derived.Lib.Hide
import Derived.WalkKit
import Derived.WalkSpells
import Derived.WalkLawsBesides
import Derived.Outline
import Derived.Deep.DeepCutAuto
import Derived.Laws.AppendOwn
import Derived.OwnWalk
import Derived.WalkSmall
import Derived.Laws.AppendOwnNone
import Derived.Deep.QuietTactic
import Derived.BigQuiet
import Derived.Maps.AppendAt
import Derived.Deep.AppendLies
import Derived.Test.YtpmhelkiicigfaaGreatDoorShelf
import Derived.Deep.CutBlock
import Derived.Lib.AppendIntMem
import Derived.Test.YtpmhelkiicigfaaGreatDoorS2
set_option maxRecDepth 100000
set_option maxHeartbeats 40000000
namespace Go.Proofs.YtpmhelkiicigfaaGreatDoor
open Go.RowKit
theorem Zh1 {α : Type} : ∀ l : List α, Za0 (fun _ => 0) l = 0
 | [] => rfl
 | _ :: l => by simp [Za0, Zh1 l]
theorem Zee (l : List ByteArray) (v : Value) (F : Nat → Prop) (w : World) (k : Int) (hl0 : 0 ≤ k) (hl1 : k ≤ 1048576) (hr : Zo Zbz 1 F w l v) :
  Calls Tryz.prog 53 #[v, .int .i64 k] w fun e w' => e = .returned (.int .i64 (Zci (Zk ByteArray.size l) k)) ∧ Below w.heap.size w w' := by
 obtain ⟨A, c, rfl, hc, hcm, hel⟩ := hr;unfold maxLen at hcm;have HEL := zh hel;clear hel;have hb1 : (l.length : Int) ≤ 9223372036854775807 := by omega
 by_cases h0 : k < (l.length : Int)
 ·have HL := zh (Z8 (n := Zk ByteArray.size l) (l := k) (by unfold Zk; omega));have t1 : decide (k - (l.length : Int) < 0) = true := by simp; omega
  go_enter Tryz.func53, Tryz.ntmps53;go_wp2_with fail;go_ret;exact ⟨Zak HL.o.symm, Below.refl _ _⟩
 ·have t1 : decide (k - (l.length : Int) < 0) = false := by simp; omega
  go_enter Tryz.func53, Tryz.ntmps53;go_wp2_with fail
  go_loopw [1, 5] (fun lv i wr => ∃ j : Nat, j ≤ l.length ∧ i = .int .i64 j ∧ lv = .int .i64 (k - l.length - Za0 ByteArray.size (l.take j)) ∧ 0 ≤ k - l.length - Za0 ByteArray.size (l.take j) ∧ Below w.heap.size w wr) (fun _ i _ => l.length - (intOf i).toNat)
  case atStart => exact ⟨0, Nat.zero_le _, rfl, by simp [Za0], by simp [Za0]; omega, Below.refl _ _⟩
  case round =>
  obtain ⟨j, hj, rfl, rfl, hd, hbel⟩ := hrel;have hsz := hbel.size;have hd1 : k - l.length - Za0 ByteArray.size (l.take j) ≤ 1048576 := by omega
  obtain ⟨d, hde⟩ : ∃ d, k - l.length - Za0 ByteArray.size (l.take j) = d := ⟨_, rfl⟩;rw [hde] at hd hd1 ⊢;have HDE := zh hde;clear hde
  by_cases hlt : j < l.length
  ·obtain ⟨b, o, cs, rfl, hF, hbl, hE, hcell⟩ := HEL.o j hlt;have hE' := hE;obtain ⟨rfl, hsm⟩ := hE;have hlt' : (j : Int) < l.length := by omega
   have HS := zh (Ze0 ByteArray.size l j hlt);have HT := zh (Zgj ByteArray.size l (j + 1));have e0 := (hbel.cell (p := ⟨b, o + j * 1 + 0, none⟩) hbl).trans (hcell 0 _ rfl);simp only [Nat.mul_one, Nat.add_zero] at e0;have hsm' : (l[j].size : Int) ≤ 9223372036854775807 := by unfold maxLen at hsm; omega
   obtain ⟨s, hs⟩ : ∃ s, l[j] = s := ⟨_, rfl⟩;rw [hs] at e0 hsm' HS;clear hcell hsm hs
   by_cases hin : (s.size : Int) ≤ d
   ·have t2 : decide (d - (s.size : Int) < 0) = false := by simp; omega
    go_wp2_with fail
    go_roundw
    case rel => exact ⟨j + 1, by omega, by go_num, by rw [HS.o, ← HDE.o]; congr 1; omega, by rw [HS.o]; have := HDE.o; omega, hbel⟩
    case measure => simp [intOf]; omega
   ·have t2 : decide (d - (s.size : Int) < 0) = true := by simp; omega
    have HL : Hd (Zci (Zk ByteArray.size l) k = -1) := zh (Z8 (by have := HS.o; have := HT.o; have := HDE.o; unfold Zk; omega));go_wp2_with fail;go_ret;exact ⟨Zak HL.o.symm, hbel⟩
  ·have hjl : j = l.length := by omega
   have HL : Hd (Zci (Zk ByteArray.size l) k = d) := zh (by
    have := HDE.o;rw [hjl, List.take_length] at this;unfold Zk;rw [Zan (by omega)]; omega)
   go_wp2_with fail;go_ret;exact ⟨Zak HL.o.symm, hbel⟩
theorem Zjh (r : Za3) (cs : List Value) (F : Nat → Prop) (w : World) (k : Int) (hl0 : 0 ≤ k) (hl1 : k ≤ 1048576) (h : Za1 F w r cs) :
  Calls Tryz.prog 109 #[.agg cs.toArray, .int .i64 k] w fun e w' => e = .returned (.int .i64 (Zci (Zp r) k)) ∧ Below w.heap.size w w' := by
 obtain ⟨aU, rfl, bR, bS, bT⟩ := h;have HE := zh (show Zp r = r.name.size + (Zk ByteArray.size r.fields) from rfl);have hbname : (r.name.size : Int) ≤ 9223372036854775807 := by unfold maxLen at bR; omega
 have Hfields := zh bS;clear bS;have HBA := zh ((Below.refl w.heap.size w).alloc (Nat.le_refl _) (.cells #[.string r.name, aU, .int .i64 r.line] 143));have HWA := zh (heap_alloc_new w (.cells #[.string r.name, aU, .int .i64 r.line] 143));go_enter Tryz.func109, Tryz.ntmps109
 by_cases c0 : k < ((r.name.size : Nat) : Int)
 ·have HL := zh (Z8 (n := Zp r) (l := k) (by have := HE.o; omega));have t0 : decide (k - ((r.name.size : Nat) : Int) < 0) = true := by simp; omega
  go_wp2_with fail;go_ret;exact ⟨Zak HL.o.symm, HBA.o⟩
 have t0 : decide (k - ((r.name.size : Nat) : Int) < 0) = false := by simp; omega
 obtain ⟨d0, hd0⟩ : ∃ d, k - ((r.name.size : Nat) : Int) = d := ⟨_, rfl⟩;rw [hd0] at t0;have HD := zh (show d0 = k - (((r.name.size) : Nat) : Int) by omega);have n0 : 0 ≤ d0 := by omega
 have m0 : d0 ≤ 1048576 := by omega
 clear c0;go_wp2_with fail;refine (Zee r.fields aU F _ d0 n0 m0 (Hfields.o.later Zad HBA.o)).mono ?_;rintro e w1 ⟨rfl, hb1⟩;have HB1 := zh (HBA.o.trans (Below.mono hb1 HBA.o.size));have HW1 := zC hb1 HWA;have q1_0 := cq HW1.o 0;simp only [nD, nE, nF] at q1_0;have q1_1 := cq HW1.o 1;simp only [nD, nE, nF] at q1_1;have q1_2 := cq HW1.o 2;simp only [nD, nE, nF] at q1_2;clear hb1
 by_cases c1 : d0 < ((Zk ByteArray.size r.fields : Nat) : Int)
 ·rw [Z8 c1];have HL := zh (Z8 (n := Zp r) (l := k) (by have := HE.o; have := HD.o; omega));go_wp2_with fail;go_ret;exact ⟨Zak HL.o.symm, HB1.o⟩
 rw [Zan (by omega)];have t1 : decide (d0 - ((Zk ByteArray.size r.fields : Nat) : Int) < 0) = false := by simp; omega
 obtain ⟨d1, hd1⟩ : ∃ d, d0 - ((Zk ByteArray.size r.fields : Nat) : Int) = d := ⟨_, rfl⟩;rw [hd1] at t1 ⊢;replace HD := zh (show d1 = k - (((r.name.size) + (Zk ByteArray.size r.fields) : Nat) : Int) by have := HD.o; omega);have n1 : 0 ≤ d1 := by omega
 have m1 : d1 ≤ 1048576 := by omega
 clear hd1;clear c1;have HL := zh (Zan (n := Zp r) (l := k) (by have := HE.o; have := HD.o; omega));go_wp2_with fail;go_ret;exact ⟨Zak (by rw [HL.o]; have := HE.o; have := HD.o; omega), HB1.o⟩
theorem Zip (l : List Za3) (v : Value) (F : Nat → Prop) (w : World) (k : Int) (hl0 : 0 ≤ k) (hl1 : k ≤ 1048576) (hr : Zo Za1 3 F w l v) :
  Calls Tryz.prog 54 #[v, .int .i64 k] w fun e w' => e = .returned (.int .i64 (Zci (Zk Zp l) k)) ∧ Below w.heap.size w w' := by
 obtain ⟨A, c, rfl, hc, hcm, hel⟩ := hr;unfold maxLen at hcm;have HEL := zh hel;clear hel;have hb1 : (l.length : Int) ≤ 9223372036854775807 := by omega
 by_cases h0 : k < (l.length : Int)
 ·have HL := zh (Z8 (n := Zk Zp l) (l := k) (by unfold Zk; omega));have t1 : decide (k - (l.length : Int) < 0) = true := by simp; omega
  go_enter Tryz.func54, Tryz.ntmps54;go_wp2_with fail;go_ret;exact ⟨Zak HL.o.symm, Below.refl _ _⟩
 ·have t1 : decide (k - (l.length : Int) < 0) = false := by simp; omega
  go_enter Tryz.func54, Tryz.ntmps54;go_wp2_with fail
  go_loopw [1, 5] (fun lv i wr => ∃ j : Nat, j ≤ l.length ∧ i = .int .i64 j ∧ lv = .int .i64 (k - l.length - Za0 Zp (l.take j)) ∧ 0 ≤ k - l.length - Za0 Zp (l.take j) ∧ Below w.heap.size w wr) (fun _ i _ => l.length - (intOf i).toNat)
  case atStart => exact ⟨0, Nat.zero_le _, rfl, by simp [Za0], by simp [Za0]; omega, Below.refl _ _⟩
  case round =>
  obtain ⟨j, hj, rfl, rfl, hd, hbel⟩ := hrel;have hsz := hbel.size;have hd1 : k - l.length - Za0 Zp (l.take j) ≤ 1048576 := by omega
  obtain ⟨d, hde⟩ : ∃ d, k - l.length - Za0 Zp (l.take j) = d := ⟨_, rfl⟩;rw [hde] at hd hd1 ⊢;have HDE := zh hde;clear hde
  by_cases hlt : j < l.length
  ·obtain ⟨b, o, cs, rfl, hF, hbl, hE, hcell⟩ := HEL.o j hlt;have hE' := hE;obtain ⟨aU, rfl, hfacts⟩ := hE;have hlt' : (j : Int) < l.length := by omega
   have HS := zh (Ze0 Zp l j hlt);have HT := zh (Zgj Zp l (j + 1));have e0 := (hbel.cell (p := ⟨b, o + j * 3 + 0, none⟩) hbl).trans (hcell 0 _ rfl);have e1 := (hbel.cell (p := ⟨b, o + j * 3 + 1, none⟩) hbl).trans (hcell 1 _ rfl);have e2 := (hbel.cell (p := ⟨b, o + j * 3 + 2, none⟩) hbl).trans (hcell 2 _ rfl);simp only [Nat.mul_one, Nat.add_zero] at e0;have hE2 := Zah.keep (G := F) hE' (fun _ h => h) (Ze.later hbel);have HE2 := zh hE2;clear hE2 hE' hcell hfacts;go_wp2_with fail;refine (Zjh l[j] _ F wr d hd hd1 HE2.o).mono ?_;rintro e w4 ⟨rfl, hb4⟩;have hb5 : Below w.heap.size w w4 := hbel.trans (Below.mono hb4 hsz);clear hb4 e0 e1 e2
   by_cases hin : (Zp l[j] : Int) ≤ d
   ·rw [Zan hin];have t2 : decide (d - (Zp l[j] : Int) < 0) = false := by simp; omega
    go_wp2_with fail
    go_roundw
    case rel => exact ⟨j + 1, by omega, by go_num, by rw [HS.o, ← HDE.o]; congr 1; omega, by rw [HS.o]; have := HDE.o; omega, hb5⟩
    case measure => simp [intOf]; omega
   ·rw [Z8 (by omega)];have HL : Hd (Zci (Zk Zp l) k = -1) := zh (Z8 (by have := HS.o; have := HT.o; have := HDE.o; unfold Zk; omega));go_wp2_with fail;go_ret;exact ⟨Zak HL.o.symm, hb5⟩
  ·have hjl : j = l.length := by omega
   have HL : Hd (Zci (Zk Zp l) k = d) := zh (by
    have := HDE.o;rw [hjl, List.take_length] at this;unfold Zk;rw [Zan (by omega)]; omega)
   go_wp2_with fail;go_ret;exact ⟨Zak HL.o.symm, hbel⟩
theorem Zgr (r : Zd) (cs : List Value) (F : Nat → Prop) (w : World) (k : Int) (hl0 : 0 ≤ k) (hl1 : k ≤ 1048576) (h : Zg F w r cs) :
  Calls Tryz.prog 16 #[.agg cs.toArray, .int .i64 k] w fun e w' => e = .returned (.int .i64 (Zci (Zw r) k)) ∧ Below w.heap.size w w' := by
 obtain ⟨rfl, bH, bI, bJ, bK, bL, bM⟩ := h;have HE := zh (show Zw r = r.text.size from rfl);have hbtext : (r.text.size : Int) ≤ 9223372036854775807 := by unfold maxLen at bK; omega
 have HBA := zh ((Below.refl w.heap.size w).alloc (Nat.le_refl _) (.cells #[.int .i64 r.kind, .int .i64 r.aH, .int .i64 r.index, .string r.text, .int .i64 r.set_.low, .int .i64 r.set_.high] 50));have HWA := zh (heap_alloc_new w (.cells #[.int .i64 r.kind, .int .i64 r.aH, .int .i64 r.index, .string r.text, .int .i64 r.set_.low, .int .i64 r.set_.high] 50));go_enter Tryz.func16, Tryz.ntmps16
 by_cases c0 : k < ((r.text.size : Nat) : Int)
 ·have HL := zh (Z8 (n := Zw r) (l := k) (by have := HE.o; omega));have t0 : decide (k - ((r.text.size : Nat) : Int) < 0) = true := by simp; omega
  go_wp2_with fail;go_ret;exact ⟨Zak HL.o.symm, HBA.o⟩
 have t0 : decide (k - ((r.text.size : Nat) : Int) < 0) = false := by simp; omega
 obtain ⟨d0, hd0⟩ : ∃ d, k - ((r.text.size : Nat) : Int) = d := ⟨_, rfl⟩;rw [hd0] at t0;have HD := zh (show d0 = k - (((r.text.size) : Nat) : Int) by omega);have n0 : 0 ≤ d0 := by omega
 have m0 : d0 ≤ 1048576 := by omega
 clear c0;have HL := zh (Zan (n := Zw r) (l := k) (by have := HE.o; have := HD.o; omega));go_wp2_with fail;go_ret;exact ⟨Zak (by rw [HL.o]; have := HE.o; have := HD.o; omega), HBA.o⟩
theorem Zf5 (l : List Zd) (v : Value) (F : Nat → Prop) (w : World) (k : Int) (hl0 : 0 ≤ k) (hl1 : k ≤ 1048576) (hr : Zo Zg 6 F w l v) :
  Calls Tryz.prog 56 #[v, .int .i64 k] w fun e w' => e = .returned (.int .i64 (Zci (Zk Zw l) k)) ∧ Below w.heap.size w w' := by
 obtain ⟨A, c, rfl, hc, hcm, hel⟩ := hr;unfold maxLen at hcm;have HEL := zh hel;clear hel;have hb1 : (l.length : Int) ≤ 9223372036854775807 := by omega
 by_cases h0 : k < (l.length : Int)
 ·have HL := zh (Z8 (n := Zk Zw l) (l := k) (by unfold Zk; omega));have t1 : decide (k - (l.length : Int) < 0) = true := by simp; omega
  go_enter Tryz.func56, Tryz.ntmps56;go_wp2_with fail;go_ret;exact ⟨Zak HL.o.symm, Below.refl _ _⟩
 ·have t1 : decide (k - (l.length : Int) < 0) = false := by simp; omega
  go_enter Tryz.func56, Tryz.ntmps56;go_wp2_with fail
  go_loopw [1, 5] (fun lv i wr => ∃ j : Nat, j ≤ l.length ∧ i = .int .i64 j ∧ lv = .int .i64 (k - l.length - Za0 Zw (l.take j)) ∧ 0 ≤ k - l.length - Za0 Zw (l.take j) ∧ Below w.heap.size w wr) (fun _ i _ => l.length - (intOf i).toNat)
  case atStart => exact ⟨0, Nat.zero_le _, rfl, by simp [Za0], by simp [Za0]; omega, Below.refl _ _⟩
  case round =>
  obtain ⟨j, hj, rfl, rfl, hd, hbel⟩ := hrel;have hsz := hbel.size;have hd1 : k - l.length - Za0 Zw (l.take j) ≤ 1048576 := by omega
  obtain ⟨d, hde⟩ : ∃ d, k - l.length - Za0 Zw (l.take j) = d := ⟨_, rfl⟩;rw [hde] at hd hd1 ⊢;have HDE := zh hde;clear hde
  by_cases hlt : j < l.length
  ·obtain ⟨b, o, cs, rfl, hF, hbl, hE, hcell⟩ := HEL.o j hlt;have hE' := hE;obtain ⟨rfl, hfacts⟩ := hE;have hlt' : (j : Int) < l.length := by omega
   have HS := zh (Ze0 Zw l j hlt);have HT := zh (Zgj Zw l (j + 1));have e0 := (hbel.cell (p := ⟨b, o + j * 6 + 0, none⟩) hbl).trans (hcell 0 _ rfl);have e1 := (hbel.cell (p := ⟨b, o + j * 6 + 1, none⟩) hbl).trans (hcell 1 _ rfl);have e2 := (hbel.cell (p := ⟨b, o + j * 6 + 2, none⟩) hbl).trans (hcell 2 _ rfl);have e3 := (hbel.cell (p := ⟨b, o + j * 6 + 3, none⟩) hbl).trans (hcell 3 _ rfl);have e4 := (hbel.cell (p := ⟨b, o + j * 6 + 4, none⟩) hbl).trans (hcell 4 _ rfl);have e5 := (hbel.cell (p := ⟨b, o + j * 6 + 5, none⟩) hbl).trans (hcell 5 _ rfl);simp only [Nat.mul_one, Nat.add_zero] at e0;have hE2 := Zc.keep (G := F) hE' (fun _ h => h) (Ze.later hbel);have HE2 := zh hE2;clear hE2 hE' hcell hfacts;go_wp2_with fail;refine (Zgr l[j] _ F wr d hd hd1 HE2.o).mono ?_;rintro e w4 ⟨rfl, hb4⟩;have hb5 : Below w.heap.size w w4 := hbel.trans (Below.mono hb4 hsz);clear hb4 e0 e1 e2 e3 e4 e5
   by_cases hin : (Zw l[j] : Int) ≤ d
   ·rw [Zan hin];have t2 : decide (d - (Zw l[j] : Int) < 0) = false := by simp; omega
    go_wp2_with fail
    go_roundw
    case rel => exact ⟨j + 1, by omega, by go_num, by rw [HS.o, ← HDE.o]; congr 1; omega, by rw [HS.o]; have := HDE.o; omega, hb5⟩
    case measure => simp [intOf]; omega
   ·rw [Z8 (by omega)];have HL : Hd (Zci (Zk Zw l) k = -1) := zh (Z8 (by have := HS.o; have := HT.o; have := HDE.o; unfold Zk; omega));go_wp2_with fail;go_ret;exact ⟨Zak HL.o.symm, hb5⟩
  ·have hjl : j = l.length := by omega
   have HL : Hd (Zci (Zk Zw l) k = d) := zh (by
    have := HDE.o;rw [hjl, List.take_length] at this;unfold Zk;rw [Zan (by omega)]; omega)
   go_wp2_with fail;go_ret;exact ⟨Zak HL.o.symm, hbel⟩
theorem Zmv (r : Zam) (cs : List Value) (F : Nat → Prop) (w : World) (k : Int) (hl0 : 0 ≤ k) (hl1 : k ≤ 1048576) (h : Zbk F w r cs) :
  Calls Tryz.prog 110 #[.agg cs.toArray, .int .i64 k] w fun e w' => e = .returned (.int .i64 (Zci (Zs r) k)) ∧ Below w.heap.size w w' := by
 obtain ⟨aS, aT, rfl, bH, bN, bO, bP, bQ⟩ := h;have HE := zh (show Zs r = Zk Zw r.aJ + (Zk Zw r.aK) from rfl);have Hitems := zh bP;clear bP;have Hkeys := zh bQ;clear bQ;have HBA := zh ((Below.refl w.heap.size w).alloc (Nat.le_refl _) (.cells #[.int .i64 r.kind, .int .i64 r.tag, .int .i64 r.aI, aS, aT] 146));have HWA := zh (heap_alloc_new w (.cells #[.int .i64 r.kind, .int .i64 r.tag, .int .i64 r.aI, aS, aT] 146));go_enter Tryz.func110, Tryz.ntmps110;go_wp2_with fail;refine (Zf5 r.aJ aS F _ k hl0 hl1 (Hitems.o.later Zc HBA.o)).mono ?_;rintro e w0 ⟨rfl, hb0⟩;have HB0 := zh (HBA.o.trans (Below.mono hb0 HBA.o.size));have HW0 := zC hb0 HWA;have q0_0 := cq HW0.o 0;simp only [nD, nE, nF] at q0_0;have q0_1 := cq HW0.o 1;simp only [nD, nE, nF] at q0_1;have q0_2 := cq HW0.o 2;simp only [nD, nE, nF] at q0_2;have q0_3 := cq HW0.o 3;simp only [nD, nE, nF] at q0_3;have q0_4 := cq HW0.o 4;simp only [nD, nE, nF] at q0_4;clear hb0
 by_cases c0 : k < ((Zk Zw r.aJ : Nat) : Int)
 ·rw [Z8 c0];have HL := zh (Z8 (n := Zs r) (l := k) (by have := HE.o; omega));go_wp2_with fail;go_ret;exact ⟨Zak HL.o.symm, HB0.o⟩
 rw [Zan (by omega)];have t0 : decide (k - ((Zk Zw r.aJ : Nat) : Int) < 0) = false := by simp; omega
 obtain ⟨d0, hd0⟩ : ∃ d, k - ((Zk Zw r.aJ : Nat) : Int) = d := ⟨_, rfl⟩;rw [hd0] at t0 ⊢;have HD := zh (show d0 = k - (((Zk Zw r.aJ) : Nat) : Int) by omega);have n0 : 0 ≤ d0 := by omega
 have m0 : d0 ≤ 1048576 := by omega
 clear hd0;clear c0;go_wp2_with fail;refine (Zf5 r.aK aT F _ d0 n0 m0 (Hkeys.o.later Zc HB0.o)).mono ?_;rintro e w1 ⟨rfl, hb1⟩;have HB1 := zh (HB0.o.trans (Below.mono hb1 HB0.o.size));have HW1 := zC hb1 HW0;have q1_0 := cq HW1.o 0;simp only [nD, nE, nF] at q1_0;have q1_1 := cq HW1.o 1;simp only [nD, nE, nF] at q1_1;have q1_2 := cq HW1.o 2;simp only [nD, nE, nF] at q1_2;have q1_3 := cq HW1.o 3;simp only [nD, nE, nF] at q1_3;have q1_4 := cq HW1.o 4;simp only [nD, nE, nF] at q1_4;clear hb1
 by_cases c1 : d0 < ((Zk Zw r.aK : Nat) : Int)
 ·rw [Z8 c1];have HL := zh (Z8 (n := Zs r) (l := k) (by have := HE.o; have := HD.o; omega));go_wp2_with fail;go_ret;exact ⟨Zak HL.o.symm, HB1.o⟩
 rw [Zan (by omega)];have t1 : decide (d0 - ((Zk Zw r.aK : Nat) : Int) < 0) = false := by simp; omega
 obtain ⟨d1, hd1⟩ : ∃ d, d0 - ((Zk Zw r.aK : Nat) : Int) = d := ⟨_, rfl⟩;rw [hd1] at t1 ⊢;replace HD := zh (show d1 = k - (((Zk Zw r.aJ) + (Zk Zw r.aK) : Nat) : Int) by have := HD.o; omega);have n1 : 0 ≤ d1 := by omega
 have m1 : d1 ≤ 1048576 := by omega
 clear hd1;clear c1;have HL := zh (Zan (n := Zs r) (l := k) (by have := HE.o; have := HD.o; omega));go_wp2_with fail;go_ret;exact ⟨Zak (by rw [HL.o]; have := HE.o; have := HD.o; omega), HB1.o⟩
theorem Zlq (l : List Zam) (v : Value) (F : Nat → Prop) (w : World) (k : Int) (hl0 : 0 ≤ k) (hl1 : k ≤ 1048576) (hr : Zo Zbk 5 F w l v) :
  Calls Tryz.prog 55 #[v, .int .i64 k] w fun e w' => e = .returned (.int .i64 (Zci (Zk Zs l) k)) ∧ Below w.heap.size w w' := by
 obtain ⟨A, c, rfl, hc, hcm, hel⟩ := hr;unfold maxLen at hcm;have HEL := zh hel;clear hel;have hb1 : (l.length : Int) ≤ 9223372036854775807 := by omega
 by_cases h0 : k < (l.length : Int)
 ·have HL := zh (Z8 (n := Zk Zs l) (l := k) (by unfold Zk; omega));have t1 : decide (k - (l.length : Int) < 0) = true := by simp; omega
  go_enter Tryz.func55, Tryz.ntmps55;go_wp2_with fail;go_ret;exact ⟨Zak HL.o.symm, Below.refl _ _⟩
 ·have t1 : decide (k - (l.length : Int) < 0) = false := by simp; omega
  go_enter Tryz.func55, Tryz.ntmps55;go_wp2_with fail
  go_loopw [1, 5] (fun lv i wr => ∃ j : Nat, j ≤ l.length ∧ i = .int .i64 j ∧ lv = .int .i64 (k - l.length - Za0 Zs (l.take j)) ∧ 0 ≤ k - l.length - Za0 Zs (l.take j) ∧ Below w.heap.size w wr) (fun _ i _ => l.length - (intOf i).toNat)
  case atStart => exact ⟨0, Nat.zero_le _, rfl, by simp [Za0], by simp [Za0]; omega, Below.refl _ _⟩
  case round =>
  obtain ⟨j, hj, rfl, rfl, hd, hbel⟩ := hrel;have hsz := hbel.size;have hd1 : k - l.length - Za0 Zs (l.take j) ≤ 1048576 := by omega
  obtain ⟨d, hde⟩ : ∃ d, k - l.length - Za0 Zs (l.take j) = d := ⟨_, rfl⟩;rw [hde] at hd hd1 ⊢;have HDE := zh hde;clear hde
  by_cases hlt : j < l.length
  ·obtain ⟨b, o, cs, rfl, hF, hbl, hE, hcell⟩ := HEL.o j hlt;have hE' := hE;obtain ⟨aS, aT, rfl, hfacts⟩ := hE;have hlt' : (j : Int) < l.length := by omega
   have HS := zh (Ze0 Zs l j hlt);have HT := zh (Zgj Zs l (j + 1));have e0 := (hbel.cell (p := ⟨b, o + j * 5 + 0, none⟩) hbl).trans (hcell 0 _ rfl);have e1 := (hbel.cell (p := ⟨b, o + j * 5 + 1, none⟩) hbl).trans (hcell 1 _ rfl);have e2 := (hbel.cell (p := ⟨b, o + j * 5 + 2, none⟩) hbl).trans (hcell 2 _ rfl);have e3 := (hbel.cell (p := ⟨b, o + j * 5 + 3, none⟩) hbl).trans (hcell 3 _ rfl);have e4 := (hbel.cell (p := ⟨b, o + j * 5 + 4, none⟩) hbl).trans (hcell 4 _ rfl);simp only [Nat.mul_one, Nat.add_zero] at e0;have hE2 := Za4.keep (G := F) hE' (fun _ h => h) (Ze.later hbel);have HE2 := zh hE2;clear hE2 hE' hcell hfacts;go_wp2_with fail;refine (Zmv l[j] _ F wr d hd hd1 HE2.o).mono ?_;rintro e w4 ⟨rfl, hb4⟩;have hb5 : Below w.heap.size w w4 := hbel.trans (Below.mono hb4 hsz);clear hb4 e0 e1 e2 e3 e4
   by_cases hin : (Zs l[j] : Int) ≤ d
   ·rw [Zan hin];have t2 : decide (d - (Zs l[j] : Int) < 0) = false := by simp; omega
    go_wp2_with fail
    go_roundw
    case rel => exact ⟨j + 1, by omega, by go_num, by rw [HS.o, ← HDE.o]; congr 1; omega, by rw [HS.o]; have := HDE.o; omega, hb5⟩
    case measure => simp [intOf]; omega
   ·rw [Z8 (by omega)];have HL : Hd (Zci (Zk Zs l) k = -1) := zh (Z8 (by have := HS.o; have := HT.o; have := HDE.o; unfold Zk; omega));go_wp2_with fail;go_ret;exact ⟨Zak HL.o.symm, hb5⟩
  ·have hjl : j = l.length := by omega
   have HL : Hd (Zci (Zk Zs l) k = d) := zh (by
    have := HDE.o;rw [hjl, List.take_length] at this;unfold Zk;rw [Zan (by omega)]; omega)
   go_wp2_with fail;go_ret;exact ⟨Zak HL.o.symm, hbel⟩
theorem Zlr (l : List Zc4) (v : Value) (F : Nat → Prop) (w : World) (k : Int) (hl0 : 0 ≤ k) (hl1 : k ≤ 1048576) (hr : Zo Zbg 2 F w l v) :
  Calls Tryz.prog 57 #[v, .int .i64 k] w fun e w' => e = .returned (.int .i64 (Zci (Zk (fun _ => 0) l) k)) ∧ Below w.heap.size w w' := by
 obtain ⟨A, c, rfl, hc, hcm, hel⟩ := hr;unfold maxLen at hcm;have HEL := zh hel;clear hel;have hb1 : (l.length : Int) ≤ 9223372036854775807 := by omega
 by_cases h0 : k < (l.length : Int)
 ·have HL := zh (Z8 (n := Zk (fun _ => 0) l) (l := k) (by unfold Zk; omega));have t1 : decide (k - (l.length : Int) < 0) = true := by simp; omega
  go_enter Tryz.func57, Tryz.ntmps57;go_wp2_with fail;go_ret;exact ⟨Zak HL.o.symm, Below.refl _ _⟩
 ·have HL := zh (Zan (n := Zk (fun _ => 0) l) (l := k) (by have := Zh1 l; unfold Zk; omega));have t1 : decide (k - (l.length : Int) < 0) = false := by simp; omega
  go_enter Tryz.func57, Tryz.ntmps57;go_wp2_with fail;go_ret;exact ⟨Zak (by rw [HL.o]; have := Zh1 l; unfold Zk; omega), Below.refl _ _⟩
theorem Zj4 (r : Zf) (cs : List Value) (F : Nat → Prop) (w : World) (k : Int) (hl0 : 0 ≤ k) (hl1 : k ≤ 1048576) (h : Zcf F w r cs) :
  Calls Tryz.prog 15 #[.agg cs.toArray, .int .i64 k] w fun e w' => e = .returned (.int .i64 (Zci (Zav r) k)) ∧ Below w.heap.size w w' := by
 obtain ⟨aL, aM, aN, aO, aP, aQ, aR, rfl, aV, aW, aX, aY, aZ, bA, bB, bC, bD, bE, bF, bG⟩ := h;have HE := zh (show Zav r = Zk ByteArray.size r.names + (Zk Zp r.aB + (Zk Zs r.aA + (Zk Zw r.globals + (r.aC.size + (Zk ByteArray.size r.output + (Zk ByteArray.size r.trace + (Zk (fun _ => 0) r.aE))))))) from rfl);have Hnames := zh aV;clear aV;have Hrecords := zh aW;clear aW;have Hobjects := zh aX;clear aX;have Hglobals := zh aY;clear aY;have hbsubject : (r.aC.size : Int) ≤ 9223372036854775807 := by unfold maxLen at aZ; omega
 have Houtput := zh bB;clear bB;have Htrace := zh bC;clear bC;have Hactives := zh bD;clear bD;have HBA := zh ((Below.refl w.heap.size w).alloc (Nat.le_refl _) (.cells #[aL, aM, aN, aO, .string r.aC, .int .i64 r.aD, aP, aQ, aR, .bool r.aF, .int .i64 r.ticks, .int .i64 r.aG, .int .i64 r.made] 47));have HWA := zh (heap_alloc_new w (.cells #[aL, aM, aN, aO, .string r.aC, .int .i64 r.aD, aP, aQ, aR, .bool r.aF, .int .i64 r.ticks, .int .i64 r.aG, .int .i64 r.made] 47));go_enter Tryz.func15, Tryz.ntmps15;go_wp2_with fail;refine (Zee r.names aL F _ k hl0 hl1 (Hnames.o.later Zad HBA.o)).mono ?_;rintro e w0 ⟨rfl, hb0⟩;have HB0 := zh (HBA.o.trans (Below.mono hb0 HBA.o.size));have HW0 := zC hb0 HWA;have q0_0 := cq HW0.o 0;simp only [nD, nE, nF] at q0_0;have q0_1 := cq HW0.o 1;simp only [nD, nE, nF] at q0_1;have q0_2 := cq HW0.o 2;simp only [nD, nE, nF] at q0_2;have q0_3 := cq HW0.o 3;simp only [nD, nE, nF] at q0_3;have q0_4 := cq HW0.o 4;simp only [nD, nE, nF] at q0_4;have q0_5 := cq HW0.o 5;simp only [nD, nE, nF] at q0_5;have q0_6 := cq HW0.o 6;simp only [nD, nE, nF] at q0_6;have q0_7 := cq HW0.o 7;simp only [nD, nE, nF] at q0_7;have q0_8 := cq HW0.o 8;simp only [nD, nE, nF] at q0_8;have q0_9 := cq HW0.o 9;simp only [nD, nE, nF] at q0_9;have q0_10 := cq HW0.o 10;simp only [nD, nE, nF] at q0_10;have q0_11 := cq HW0.o 11;simp only [nD, nE, nF] at q0_11
 have q0_12 := cq HW0.o 12;simp only [nD, nE, nF] at q0_12;clear hb0
 by_cases c0 : k < ((Zk ByteArray.size r.names : Nat) : Int)
 ·rw [Z8 c0];have HL := zh (Z8 (n := Zav r) (l := k) (by have := HE.o; omega));go_wp2_with fail;go_ret;exact ⟨Zak HL.o.symm, HB0.o⟩
 rw [Zan (by omega)];have t0 : decide (k - ((Zk ByteArray.size r.names : Nat) : Int) < 0) = false := by simp; omega
 obtain ⟨d0, hd0⟩ : ∃ d, k - ((Zk ByteArray.size r.names : Nat) : Int) = d := ⟨_, rfl⟩;rw [hd0] at t0 ⊢;have HD := zh (show d0 = k - (((Zk ByteArray.size r.names) : Nat) : Int) by omega);have n0 : 0 ≤ d0 := by omega
 have m0 : d0 ≤ 1048576 := by omega
 clear hd0;clear c0;go_wp2_with fail;refine (Zip r.aB aM F _ d0 n0 m0 (Hrecords.o.later Zah HB0.o)).mono ?_;rintro e w1 ⟨rfl, hb1⟩;have HB1 := zh (HB0.o.trans (Below.mono hb1 HB0.o.size));have HW1 := zC hb1 HW0;have q1_0 := cq HW1.o 0;simp only [nD, nE, nF] at q1_0;have q1_1 := cq HW1.o 1;simp only [nD, nE, nF] at q1_1;have q1_2 := cq HW1.o 2;simp only [nD, nE, nF] at q1_2;have q1_3 := cq HW1.o 3;simp only [nD, nE, nF] at q1_3;have q1_4 := cq HW1.o 4;simp only [nD, nE, nF] at q1_4;have q1_5 := cq HW1.o 5;simp only [nD, nE, nF] at q1_5;have q1_6 := cq HW1.o 6;simp only [nD, nE, nF] at q1_6;have q1_7 := cq HW1.o 7;simp only [nD, nE, nF] at q1_7;have q1_8 := cq HW1.o 8;simp only [nD, nE, nF] at q1_8;have q1_9 := cq HW1.o 9;simp only [nD, nE, nF] at q1_9;have q1_10 := cq HW1.o 10;simp only [nD, nE, nF] at q1_10;have q1_11 := cq HW1.o 11;simp only [nD, nE, nF] at q1_11;have q1_12 := cq HW1.o 12;simp only [nD, nE, nF] at q1_12;clear hb1
 by_cases c1 : d0 < ((Zk Zp r.aB : Nat) : Int)
 ·rw [Z8 c1];have HL := zh (Z8 (n := Zav r) (l := k) (by have := HE.o; have := HD.o; omega));go_wp2_with fail;go_ret;exact ⟨Zak HL.o.symm, HB1.o⟩
 rw [Zan (by omega)];have t1 : decide (d0 - ((Zk Zp r.aB : Nat) : Int) < 0) = false := by simp; omega
 obtain ⟨d1, hd1⟩ : ∃ d, d0 - ((Zk Zp r.aB : Nat) : Int) = d := ⟨_, rfl⟩;rw [hd1] at t1 ⊢;replace HD := zh (show d1 = k - (((Zk ByteArray.size r.names) + (Zk Zp r.aB) : Nat) : Int) by have := HD.o; omega);have n1 : 0 ≤ d1 := by omega
 have m1 : d1 ≤ 1048576 := by omega
 clear hd1;clear c1;go_wp2_with fail;refine (Zlq r.aA aN F _ d1 n1 m1 (Hobjects.o.later Za4 HB1.o)).mono ?_;rintro e w2 ⟨rfl, hb2⟩;have HB2 := zh (HB1.o.trans (Below.mono hb2 HB1.o.size));have HW2 := zC hb2 HW1;have q2_0 := cq HW2.o 0;simp only [nD, nE, nF] at q2_0;have q2_1 := cq HW2.o 1;simp only [nD, nE, nF] at q2_1;have q2_2 := cq HW2.o 2;simp only [nD, nE, nF] at q2_2;have q2_3 := cq HW2.o 3;simp only [nD, nE, nF] at q2_3;have q2_4 := cq HW2.o 4;simp only [nD, nE, nF] at q2_4;have q2_5 := cq HW2.o 5;simp only [nD, nE, nF] at q2_5;have q2_6 := cq HW2.o 6;simp only [nD, nE, nF] at q2_6;have q2_7 := cq HW2.o 7;simp only [nD, nE, nF] at q2_7;have q2_8 := cq HW2.o 8;simp only [nD, nE, nF] at q2_8;have q2_9 := cq HW2.o 9;simp only [nD, nE, nF] at q2_9;have q2_10 := cq HW2.o 10;simp only [nD, nE, nF] at q2_10;have q2_11 := cq HW2.o 11;simp only [nD, nE, nF] at q2_11;have q2_12 := cq HW2.o 12;simp only [nD, nE, nF] at q2_12;clear hb2
 by_cases c2 : d1 < ((Zk Zs r.aA : Nat) : Int)
 ·rw [Z8 c2];have HL := zh (Z8 (n := Zav r) (l := k) (by have := HE.o; have := HD.o; omega));go_wp2_with fail;go_ret;exact ⟨Zak HL.o.symm, HB2.o⟩
 rw [Zan (by omega)];have t2 : decide (d1 - ((Zk Zs r.aA : Nat) : Int) < 0) = false := by simp; omega
 obtain ⟨d2, hd2⟩ : ∃ d, d1 - ((Zk Zs r.aA : Nat) : Int) = d := ⟨_, rfl⟩;rw [hd2] at t2 ⊢;replace HD := zh (show d2 = k - (((Zk ByteArray.size r.names) + (Zk Zp r.aB) + (Zk Zs r.aA) : Nat) : Int) by have := HD.o; omega);have n2 : 0 ≤ d2 := by omega
 have m2 : d2 ≤ 1048576 := by omega
 clear hd2;clear c2;go_wp2_with fail;refine (Zf5 r.globals aO F _ d2 n2 m2 (Hglobals.o.later Zc HB2.o)).mono ?_;rintro e w3 ⟨rfl, hb3⟩;have HB3 := zh (HB2.o.trans (Below.mono hb3 HB2.o.size));have HW3 := zC hb3 HW2;have q3_0 := cq HW3.o 0;simp only [nD, nE, nF] at q3_0;have q3_1 := cq HW3.o 1;simp only [nD, nE, nF] at q3_1;have q3_2 := cq HW3.o 2;simp only [nD, nE, nF] at q3_2;have q3_3 := cq HW3.o 3;simp only [nD, nE, nF] at q3_3;have q3_4 := cq HW3.o 4;simp only [nD, nE, nF] at q3_4;have q3_5 := cq HW3.o 5;simp only [nD, nE, nF] at q3_5;have q3_6 := cq HW3.o 6;simp only [nD, nE, nF] at q3_6;have q3_7 := cq HW3.o 7;simp only [nD, nE, nF] at q3_7;have q3_8 := cq HW3.o 8;simp only [nD, nE, nF] at q3_8;have q3_9 := cq HW3.o 9;simp only [nD, nE, nF] at q3_9;have q3_10 := cq HW3.o 10;simp only [nD, nE, nF] at q3_10;have q3_11 := cq HW3.o 11;simp only [nD, nE, nF] at q3_11;have q3_12 := cq HW3.o 12;simp only [nD, nE, nF] at q3_12;clear hb3
 by_cases c3 : d2 < ((Zk Zw r.globals : Nat) : Int)
 ·rw [Z8 c3];have HL := zh (Z8 (n := Zav r) (l := k) (by have := HE.o; have := HD.o; omega));go_wp2_with fail;go_ret;exact ⟨Zak HL.o.symm, HB3.o⟩
 rw [Zan (by omega)];have t3 : decide (d2 - ((Zk Zw r.globals : Nat) : Int) < 0) = false := by simp; omega
 obtain ⟨d3, hd3⟩ : ∃ d, d2 - ((Zk Zw r.globals : Nat) : Int) = d := ⟨_, rfl⟩;rw [hd3] at t3 ⊢;replace HD := zh (show d3 = k - (((Zk ByteArray.size r.names) + (Zk Zp r.aB) + (Zk Zs r.aA) + (Zk Zw r.globals) : Nat) : Int) by have := HD.o; omega);have n3 : 0 ≤ d3 := by omega
 have m3 : d3 ≤ 1048576 := by omega
 clear hd3;clear c3
 by_cases c4 : d3 < ((r.aC.size : Nat) : Int)
 ·have HL := zh (Z8 (n := Zav r) (l := k) (by have := HE.o; have := HD.o; omega));have t4 : decide (d3 - ((r.aC.size : Nat) : Int) < 0) = true := by simp; omega
  go_wp2_with fail;go_ret;exact ⟨Zak HL.o.symm, HB3.o⟩
 have t4 : decide (d3 - ((r.aC.size : Nat) : Int) < 0) = false := by simp; omega
 obtain ⟨d4, hd4⟩ : ∃ d, d3 - ((r.aC.size : Nat) : Int) = d := ⟨_, rfl⟩;rw [hd4] at t4;replace HD := zh (show d4 = k - (((Zk ByteArray.size r.names) + (Zk Zp r.aB) + (Zk Zs r.aA) + (Zk Zw r.globals) + (r.aC.size) : Nat) : Int) by have := HD.o; omega);have n4 : 0 ≤ d4 := by omega
 have m4 : d4 ≤ 1048576 := by omega
 clear c4;go_wp2_with fail;refine (Zee r.output aP F _ d4 n4 m4 (Houtput.o.later Zad HB3.o)).mono ?_;rintro e w5 ⟨rfl, hb5⟩;have HB5 := zh (HB3.o.trans (Below.mono hb5 HB3.o.size));have HW5 := zC hb5 HW3;have q5_0 := cq HW5.o 0;simp only [nD, nE, nF] at q5_0;have q5_1 := cq HW5.o 1;simp only [nD, nE, nF] at q5_1;have q5_2 := cq HW5.o 2;simp only [nD, nE, nF] at q5_2;have q5_3 := cq HW5.o 3;simp only [nD, nE, nF] at q5_3;have q5_4 := cq HW5.o 4;simp only [nD, nE, nF] at q5_4;have q5_5 := cq HW5.o 5;simp only [nD, nE, nF] at q5_5;have q5_6 := cq HW5.o 6;simp only [nD, nE, nF] at q5_6;have q5_7 := cq HW5.o 7;simp only [nD, nE, nF] at q5_7;have q5_8 := cq HW5.o 8;simp only [nD, nE, nF] at q5_8;have q5_9 := cq HW5.o 9;simp only [nD, nE, nF] at q5_9;have q5_10 := cq HW5.o 10;simp only [nD, nE, nF] at q5_10;have q5_11 := cq HW5.o 11;simp only [nD, nE, nF] at q5_11;have q5_12 := cq HW5.o 12;simp only [nD, nE, nF] at q5_12;clear hb5
 by_cases c5 : d4 < ((Zk ByteArray.size r.output : Nat) : Int)
 ·rw [Z8 c5];have HL := zh (Z8 (n := Zav r) (l := k) (by have := HE.o; have := HD.o; omega));go_wp2_with fail;go_ret;exact ⟨Zak HL.o.symm, HB5.o⟩
 rw [Zan (by omega)];have t5 : decide (d4 - ((Zk ByteArray.size r.output : Nat) : Int) < 0) = false := by simp; omega
 obtain ⟨d5, hd5⟩ : ∃ d, d4 - ((Zk ByteArray.size r.output : Nat) : Int) = d := ⟨_, rfl⟩;rw [hd5] at t5 ⊢;replace HD := zh (show d5 = k - (((Zk ByteArray.size r.names) + (Zk Zp r.aB) + (Zk Zs r.aA) + (Zk Zw r.globals) + (r.aC.size) + (Zk ByteArray.size r.output) : Nat) : Int) by have := HD.o; omega);have n5 : 0 ≤ d5 := by omega
 have m5 : d5 ≤ 1048576 := by omega
 clear hd5;clear c5;go_wp2_with fail;refine (Zee r.trace aQ F _ d5 n5 m5 (Htrace.o.later Zad HB5.o)).mono ?_;rintro e w6 ⟨rfl, hb6⟩;have HB6 := zh (HB5.o.trans (Below.mono hb6 HB5.o.size));have HW6 := zC hb6 HW5;have q6_0 := cq HW6.o 0;simp only [nD, nE, nF] at q6_0;have q6_1 := cq HW6.o 1;simp only [nD, nE, nF] at q6_1;have q6_2 := cq HW6.o 2;simp only [nD, nE, nF] at q6_2;have q6_3 := cq HW6.o 3;simp only [nD, nE, nF] at q6_3;have q6_4 := cq HW6.o 4;simp only [nD, nE, nF] at q6_4;have q6_5 := cq HW6.o 5;simp only [nD, nE, nF] at q6_5;have q6_6 := cq HW6.o 6;simp only [nD, nE, nF] at q6_6;have q6_7 := cq HW6.o 7;simp only [nD, nE, nF] at q6_7;have q6_8 := cq HW6.o 8;simp only [nD, nE, nF] at q6_8;have q6_9 := cq HW6.o 9;simp only [nD, nE, nF] at q6_9;have q6_10 := cq HW6.o 10;simp only [nD, nE, nF] at q6_10;have q6_11 := cq HW6.o 11;simp only [nD, nE, nF] at q6_11;have q6_12 := cq HW6.o 12;simp only [nD, nE, nF] at q6_12;clear hb6
 by_cases c6 : d5 < ((Zk ByteArray.size r.trace : Nat) : Int)
 ·rw [Z8 c6];have HL := zh (Z8 (n := Zav r) (l := k) (by have := HE.o; have := HD.o; omega));go_wp2_with fail;go_ret;exact ⟨Zak HL.o.symm, HB6.o⟩
 rw [Zan (by omega)];have t6 : decide (d5 - ((Zk ByteArray.size r.trace : Nat) : Int) < 0) = false := by simp; omega
 obtain ⟨d6, hd6⟩ : ∃ d, d5 - ((Zk ByteArray.size r.trace : Nat) : Int) = d := ⟨_, rfl⟩;rw [hd6] at t6 ⊢;replace HD := zh (show d6 = k - (((Zk ByteArray.size r.names) + (Zk Zp r.aB) + (Zk Zs r.aA) + (Zk Zw r.globals) + (r.aC.size) + (Zk ByteArray.size r.output) + (Zk ByteArray.size r.trace) : Nat) : Int) by have := HD.o; omega);have n6 : 0 ≤ d6 := by omega
 have m6 : d6 ≤ 1048576 := by omega
 clear hd6;clear c6;go_wp2_with fail;refine (Zlr r.aE aR F _ d6 n6 m6 (Hactives.o.later Zbd HB6.o)).mono ?_;rintro e w7 ⟨rfl, hb7⟩;have HB7 := zh (HB6.o.trans (Below.mono hb7 HB6.o.size));have HW7 := zC hb7 HW6;have q7_0 := cq HW7.o 0;simp only [nD, nE, nF] at q7_0;have q7_1 := cq HW7.o 1;simp only [nD, nE, nF] at q7_1;have q7_2 := cq HW7.o 2;simp only [nD, nE, nF] at q7_2;have q7_3 := cq HW7.o 3;simp only [nD, nE, nF] at q7_3;have q7_4 := cq HW7.o 4;simp only [nD, nE, nF] at q7_4;have q7_5 := cq HW7.o 5;simp only [nD, nE, nF] at q7_5;have q7_6 := cq HW7.o 6;simp only [nD, nE, nF] at q7_6;have q7_7 := cq HW7.o 7;simp only [nD, nE, nF] at q7_7;have q7_8 := cq HW7.o 8;simp only [nD, nE, nF] at q7_8;have q7_9 := cq HW7.o 9;simp only [nD, nE, nF] at q7_9;have q7_10 := cq HW7.o 10;simp only [nD, nE, nF] at q7_10;have q7_11 := cq HW7.o 11;simp only [nD, nE, nF] at q7_11;have q7_12 := cq HW7.o 12;simp only [nD, nE, nF] at q7_12;clear hb7
 by_cases c7 : d6 < ((Zk (fun _ => 0) r.aE : Nat) : Int)
 ·rw [Z8 c7];have HL := zh (Z8 (n := Zav r) (l := k) (by have := HE.o; have := HD.o; omega));go_wp2_with fail;go_ret;exact ⟨Zak HL.o.symm, HB7.o⟩
 rw [Zan (by omega)];have t7 : decide (d6 - ((Zk (fun _ => 0) r.aE : Nat) : Int) < 0) = false := by simp; omega
 obtain ⟨d7, hd7⟩ : ∃ d, d6 - ((Zk (fun _ => 0) r.aE : Nat) : Int) = d := ⟨_, rfl⟩;rw [hd7] at t7 ⊢;replace HD := zh (show d7 = k - (((Zk ByteArray.size r.names) + (Zk Zp r.aB) + (Zk Zs r.aA) + (Zk Zw r.globals) + (r.aC.size) + (Zk ByteArray.size r.output) + (Zk ByteArray.size r.trace) + (Zk (fun _ => 0) r.aE) : Nat) : Int) by have := HD.o; omega);have n7 : 0 ≤ d7 := by omega
 have m7 : d7 ≤ 1048576 := by omega
 clear hd7;clear c7;have HL := zh (Zan (n := Zav r) (l := k) (by have := HE.o; have := HD.o; omega));go_wp2_with fail;go_ret;exact ⟨Zak (by rw [HL.o]; have := HE.o; have := HD.o; omega), HB7.o⟩
theorem Zbl (w : World) (o : Obj) : (w.alloc o).heap.size = w.heap.size + 1 := by simp
theorem Zor : (Tryz.prog.info? 9).map (fun i => (i.zero, i.size, i.bytes)) = some (some (.string ⟨#[]⟩), 1, 16) := by kernel_rfl
theorem Zos (n : Nat) (hn : n ≤ 2097152) : ∃ cur : Array Value, cur.size = n * 1 ∧ ∀ w : World, (Instr.makeSlice 24 (.int .i64 (n : Int)) (.int .i64 (n : Int))).run Tryz.prog w = .ok (.slice (some ⟨w.heap.size, 0, none⟩) n n) (w.alloc (.cells cur 9)) := by
 obtain ⟨i, hi, hz0, hz1, hz2⟩ := info_parts Zor;refine ⟨madeCells (Value.cells (.string ⟨#[]⟩)) (n * 1), size_madeCells _ _, fun w => ?_⟩;have := run_make (P := Tryz.prog) w 24 9 i _ Tryz.underlying24 hi hz0 .i64 .i64 n n (by omega) (by omega) (by rw [hz2]; omega) (by omega);rw [hz1] at this
 simpa using this
theorem Zef (l : List ByteArray) (v : Value) (F : Nat → Prop) (w : World) (hsz : Zk ByteArray.size l ≤ 1048576) (hr : Zo Zbz 1 F w l v) :
  Calls Tryz.prog 60 #[v] w fun e w' => ∃ v', e = .returned v' ∧ Zbe Zbz 1 9 (fun b => w.heap.size ≤ b) w' l v' ∧ Below w.heap.size w w' := by
 obtain ⟨A, c, rfl, hc, hcm, hel⟩ := hr;have HEL := zh hel;have hlen : l.length ≤ 1048576 := by unfold Zk at hsz; omega
 have HSZ := zh (show Za0 ByteArray.size l ≤ 1048576 by unfold Zk at hsz; omega);clear hel hsz hcm;obtain ⟨cur0, hcur0, hmkr⟩ := Zos l.length (by omega);have HC0 := zh hcur0;clear hcur0;go_enter Tryz.func60, Tryz.ntmps60;go_wp2_with fail;obtain ⟨B, hB⟩ : ∃ B, w.heap.size = B := ⟨_, rfl⟩;have hwB : w.heap.size ≤ B := by omega
 have HS0 : Hd (SMk Zbz 1 9 B l 0 (w.alloc (.cells cur0 9))) := zh (SMk.start (by rw [← hB]; exact heap_alloc_new w _) HC0.o);have HBe := zh ((Below.refl w.heap.size w).alloc (Nat.le_refl _) (.cells cur0 9));rw [hB];clear hmkr HC0;have HBw := zh hB;clear hB
 go_loopw [4] (fun i wr => ∃ j : Nat, j ≤ l.length ∧ i = .int .i64 j ∧ SMk Zbz 1 9 B l j wr ∧ Below w.heap.size w wr) (fun i _ => l.length - (intOf i).toNat)
 case atStart => exact ⟨0, Nat.zero_le _, rfl, HS0.o, HBe.o⟩
 case round =>
  obtain ⟨j, hj, rfl, hmk, hbel⟩ := hrel;have hBw : B < wr.heap.size := hmk.lt
  by_cases hlt : j < l.length
  ·obtain ⟨b, o, cs, rfl, hF, hbl, hE, hcell⟩ := HEL.o j hlt
   skip
   obtain ⟨rfl, hsm⟩ := hE;have hlt' : (j : Int) < l.length := by omega
   have e0 := (hbel.cell (p := ⟨b, o + j * 1 + 0, none⟩) hbl).trans (hcell 0 _ rfl);simp only [Nat.mul_one, Nat.add_zero] at e0;have hmk4 := hmk;have hB4 := hmk4.at_ hlt;have HN := zh (SMk.next Zq hmk (Za.refl _) hlt (cs := [.string l[j]]) ⟨rfl, hsm⟩);have HB5 := zh (Zae hwB [.string l[j]] wr (j * 1) hbel);rw [Nat.mul_one] at HN HB5;obtain ⟨hce, hfr⟩ := hB4;have f0 := hfr (j * 1 + 0);obtain ⟨u0, c0⟩ := hce 0 (by decide);simp only [Nat.mul_one, Nat.add_zero] at c0 f0;clear hce hfr hmk4 hmk;go_wp2_with fail
   go_roundw
   case rel => exact ⟨j + 1, by omega, by go_num, HN.o, HB5.o⟩
   case measure => simp [intOf]; omega
  ·have hjl : j = l.length := by omega
   have HD := zh (SMk.done Zq (by rw [hjl] at hmk; exact hmk) (G := fun b => w.heap.size ≤ b) (fun b h => by have := HBw.o; omega) (by unfold maxLen; omega));clear hmk;go_wp2_with fail;go_ret;exact ⟨_, rfl, HD.o, hbel⟩
theorem Zp5 (r : Zjx) (cs : List Value) (F : Nat → Prop) (w : World) (h : Ze2 F w r cs) :
  Calls Tryz.prog 65 #[.agg cs.toArray] w fun e w' => ∃ cs', e = .returned (.agg cs'.toArray) ∧ Ze2 (fun b => w.heap.size ≤ b) w' r cs' ∧ Below w.heap.size w w' := by
 obtain ⟨rfl, hlow, hhigh⟩ := h;have HF := zh (And.intro trivial (And.intro hlow (hhigh)));clear hlow hhigh;go_enter Tryz.func65, Tryz.ntmps65;go_wp2_with fail;refine bodyPost_ret (v := .agg #[.int .i64 r.low, .int .i64 r.high]) (by simp [results, Tryz.results65, go_sem]) rfl ⟨[.int .i64 r.low, .int .i64 r.high], rfl, ⟨rfl, HF.o.2⟩, ?_⟩;exact (((Below.refl _ _).alloc (Nat.le_refl _) _).alloc (by simp) _).alloc (by simp; omega) _
theorem Zji (r : Za3) (cs : List Value) (F : Nat → Prop) (w : World) (hsz : Zp r ≤ 1048576) (h : Za1 F w r cs) :
  Calls Tryz.prog 114 #[.agg cs.toArray] w fun e w' => ∃ cs', e = .returned (.agg cs'.toArray) ∧ Zbx (fun b => w.heap.size ≤ b) w' r cs' ∧ Below w.heap.size w w' := by
 obtain ⟨aU, rfl, bR, bS, bT⟩ := h;have HSZ := zh (show r.name.size + (Zk ByteArray.size r.fields) ≤ 1048576 from hsz);clear hsz;have Hname := zh bR;clear bR;have Hfields := zh bS;clear bS;have Hline := zh bT;clear bT;have HP := zh (((Za.refl _).alloc (.cells #[.string ⟨#[]⟩, .slice none 0 0, .int .i64 0] 136)).alloc (.cells #[.string r.name, .slice none 0 0, .int .i64 0] 136) |>.block _ (by simp) |>.trans (heap_alloc_new w (.cells #[.string r.name, aU, .int .i64 r.line] 143)));have HZ := zh ((Za.refl _).alloc (.cells #[.string r.name, .slice none 0 0, .int .i64 0] 136) |>.block _ (by simp) |>.trans (heap_alloc_new (w.alloc (.cells #[.string r.name, aU, .int .i64 r.line] 143)) (.cells #[.string ⟨#[]⟩, .slice none 0 0, .int .i64 0] 136)));have HO := zh (heap_alloc_new ((w.alloc (.cells #[.string r.name, aU, .int .i64 r.line] 143)).alloc (.cells #[.string ⟨#[]⟩, .slice none 0 0, .int .i64 0] 136)) (.cells #[.string r.name, .slice none 0 0, .int .i64 0] 136));simp only [Zbl] at HZ HO;have HB := zh ((((Below.refl w.heap.size w).alloc (Nat.le_refl _) (.cells #[.string r.name, aU, .int .i64 r.line] 143)).alloc (by simp) (.cells #[.string ⟨#[]⟩, .slice none 0 0, .int .i64 0] 136)).alloc (by simp; omega) (.cells #[.string r.name, .slice none 0 0, .int .i64 0] 136));have hne1 : ¬ w.heap.size = w.heap.size + 2 := by omega
 have hne2 : ¬ w.heap.size + 1 = w.heap.size + 2 := by omega
 have hne3 : ¬ w.heap.size + 2 = w.heap.size + 1 := by omega
 have hne4 : ¬ w.heap.size = w.heap.size + 1 := by omega
 go_enter Tryz.func114, Tryz.ntmps114;go_wp2_with fail;have hlo := (Array.getElem?_eq_some_iff.1 HO.o).1;refine (Zef r.fields aU F _ (by have := HSZ.o; omega) (Hfields.o.later Zad HB.o)).mono ?_;rintro e w1 ⟨v', rfl, hr1, hb1⟩;obtain ⟨A1, c1, rfl, _⟩ := id hr1;have HR1 := zh ((hr1.trim Zq).keep Zq.is (G := fun b => w.heap.size + 2 < b ∧ b < w1.heap.size) (fun b h => ⟨by have := h.1; have := hlo; omega, h.2⟩) (Ze.refl _ _));have HM1 := zh (show w.heap.size + 3 ≤ w1.heap.size from by have := hlo; have := Below.size hb1; omega);replace HP := zC hb1 HP;replace HZ := zC hb1 HZ;replace HO := zC hb1 HO;replace HB := zh (HB.o.trans (Below.mono hb1 HB.o.size));clear hr1 hb1 hlo;have p0 := cz3 HP.o;have z0 := cz3 HZ.o;have o0 := cz3 HO.o;have fz0 := fz HZ.o;have fo0 := fz HO.o;replace HO := zh (Zaa (o := 2) (Zaa (o := 1) HO.o (.slice A1 r.fields.length c1)) (.int .i64 r.line));simp only [List.setIfInBounds_toArray, List.set_cons_zero, List.set_cons_succ] at HO;replace HP := zh ((Below.heap_setCell _ ⟨w.heap.size + 2, 2, none⟩ (.int .i64 r.line) _ hne1).trans ((Below.heap_setCell _ ⟨w.heap.size + 2, 1, none⟩ (.slice A1 r.fields.length c1) _ hne1).trans HP.o));replace HZ := zh ((Below.heap_setCell _ ⟨w.heap.size + 2, 2, none⟩ (.int .i64 r.line) _ hne2).trans ((Below.heap_setCell _ ⟨w.heap.size + 2, 1, none⟩ (.slice A1 r.fields.length c1) _ hne2).trans HZ.o));replace HB := zh ((HB.o.setCell (p := ⟨w.heap.size + 2, 1, none⟩) (by simp) (.slice A1 r.fields.length c1)).setCell (p := ⟨w.heap.size + 2, 2, none⟩) (by simp) (.int .i64 r.line))
 replace HR1 := zh (HR1.o.keep Zq.is (fun _ h => h) (((Ze.later (F := _) (Za.refl w1)).set (B := w.heap.size + 2) (by have := HM1.o; omega) 1 (.slice A1 r.fields.length c1)).set (B := w.heap.size + 2) (by have := HM1.o; omega) 2 (.int .i64 r.line)));have HN := zh (show w1.heap.size ≤ _ from ((((Ze.later (F := fun _ => False) (Za.refl w1)).set (B := w.heap.size + 2) (fun h => h) 1 (.slice A1 r.fields.length c1)).set (B := w.heap.size + 2) (fun h => h) 2 (.int .i64 r.line))).size);go_upto_region 5 with (fail);clear p0 z0 o0 fz0 fo0;obtain ⟨wf, hwf⟩ : ∃ wf, wf = ((w1.setCell ⟨w.heap.size + 2, 1, none⟩ (.slice A1 r.fields.length c1)).setCell ⟨w.heap.size + 2, 2, none⟩ (.int .i64 r.line)) := ⟨_, rfl⟩;rw [← hwf] at HO HP HZ HB HR1 ⊢;clear hwf;have z0 := cz3 HZ.o;have o0 := cz3 HO.o;have fz0 := fz HZ.o;go_wp2_with fail;refine bodyPost_ret (v := .agg #[.string r.name, .slice A1 r.fields.length c1, .int .i64 r.line]) (by simp [results, Tryz.results114, go_sem, z0, o0, fz0, hne3]) rfl ⟨[.string r.name, .slice A1 r.fields.length c1, .int .i64 r.line], rfl, ?_, (((HB.o.setCell (p := ⟨w.heap.size + 1, 0, none⟩) (by simp) _).setCell (p := ⟨w.heap.size + 1, 1, none⟩) (by simp) _).setCell (p := ⟨w.heap.size + 1, 2, none⟩) (by simp) _)⟩;have := HM1.o;have kk := Zaf (F := fun y => y ≠ w.heap.size + 1) (fun h => h rfl) [.string r.name, .slice A1 r.fields.length c1, .int .i64 r.line] wf 0 (Ze.refl _ _);simp only [Zz, Nat.zero_add, Nat.reduceAdd] at kk
 exact ⟨(fun y => (0 : Nat)), _, rfl, Hname.o, HR1.o.keep Zq.is (fun b h => ⟨by have := h.1; omega, rfl⟩) (kk.mono fun b h => by have := h.1; have := h.2; omega), Hline.o⟩
theorem Zkd : (Tryz.prog.info? 136).map (fun i => (i.zero, i.size, i.bytes)) = some (some (.agg #[.string ⟨#[]⟩, .slice none 0 0, .int .i64 0]), 3, 48) := by kernel_rfl
theorem Zke (n : Nat) (hn : n ≤ 2097152) : ∃ cur : Array Value, cur.size = n * 3 ∧ ∀ w : World, (Instr.makeSlice 25 (.int .i64 (n : Int)) (.int .i64 (n : Int))).run Tryz.prog w = .ok (.slice (some ⟨w.heap.size, 0, none⟩) n n) (w.alloc (.cells cur 136)) := by
 obtain ⟨i, hi, hz0, hz1, hz2⟩ := info_parts Zkd;refine ⟨madeCells (Value.cells (.agg #[.string ⟨#[]⟩, .slice none 0 0, .int .i64 0])) (n * 3), size_madeCells _ _, fun w => ?_⟩;have := run_make (P := Tryz.prog) w 25 136 i _ Tryz.underlying25 hi hz0 .i64 .i64 n n (by omega) (by omega) (by rw [hz2]; omega) (by omega);rw [hz1] at this
 simpa using this
theorem Ziq (l : List Za3) (v : Value) (F : Nat → Prop) (w : World) (hsz : Zk Zp l ≤ 1048576) (hr : Zo Za1 3 F w l v) :
  Calls Tryz.prog 61 #[v] w fun e w' => ∃ v', e = .returned v' ∧ Zbe Zbx 3 136 (fun b => w.heap.size ≤ b) w' l v' ∧ Below w.heap.size w w' := by
 obtain ⟨A, c, rfl, hc, hcm, hel⟩ := hr;have HEL := zh hel;have hlen : l.length ≤ 1048576 := by unfold Zk at hsz; omega
 have HSZ := zh (show Za0 Zp l ≤ 1048576 by unfold Zk at hsz; omega);clear hel hsz hcm;obtain ⟨cur0, hcur0, hmkr⟩ := Zke l.length (by omega);have HC0 := zh hcur0;clear hcur0;go_enter Tryz.func61, Tryz.ntmps61;go_wp2_with fail;obtain ⟨B, hB⟩ : ∃ B, w.heap.size = B := ⟨_, rfl⟩;have hwB : w.heap.size ≤ B := by omega
 have HS0 : Hd (SMk Zbx 3 136 B l 0 (w.alloc (.cells cur0 136))) := zh (SMk.start (by rw [← hB]; exact heap_alloc_new w _) HC0.o);have HBe := zh ((Below.refl w.heap.size w).alloc (Nat.le_refl _) (.cells cur0 136));rw [hB];clear hmkr HC0;have HBw := zh hB;clear hB
 go_loopw [4] (fun i wr => ∃ j : Nat, j ≤ l.length ∧ i = .int .i64 j ∧ SMk Zbx 3 136 B l j wr ∧ Below w.heap.size w wr) (fun i _ => l.length - (intOf i).toNat)
 case atStart => exact ⟨0, Nat.zero_le _, rfl, HS0.o, HBe.o⟩
 case round =>
  obtain ⟨j, hj, rfl, hmk, hbel⟩ := hrel;have hBw : B < wr.heap.size := hmk.lt
  by_cases hlt : j < l.length
  ·obtain ⟨b, o, cs, rfl, hF, hbl, hE, hcell⟩ := HEL.o j hlt;have hE' := hE;obtain ⟨aU, rfl, hfacts⟩ := hE;have hlt' : (j : Int) < l.length := by omega
   have e0 := (hbel.cell (p := ⟨b, o + j * 3 + 0, none⟩) hbl).trans (hcell 0 _ rfl);have e1 := (hbel.cell (p := ⟨b, o + j * 3 + 1, none⟩) hbl).trans (hcell 1 _ rfl);have e2 := (hbel.cell (p := ⟨b, o + j * 3 + 2, none⟩) hbl).trans (hcell 2 _ rfl);simp only [Nat.mul_one, Nat.add_zero] at e0;have HE2 := zh (Zah.keep (G := F) hE' (fun _ h => h) (Ze.later hbel));have HS := zh (Nat.le_trans (Zdz Zp l l[j] (List.getElem_mem hlt)) (HSZ.o));clear hE' hcell hfacts;go_wp2_with fail;refine (Zji l[j] _ F wr HS.o HE2.o).mono ?_;rintro e w4 ⟨cs4, rfl, hE4, hb4⟩;have hmk4 := hmk.later Zt.is hb4;have hB4 := hmk4.at_ hlt;have HN := zh (SMk.next Zt hmk hb4 hlt hE4);have hbel4 : Below w.heap.size w w4 := hbel.trans (Below.mono hb4 hbel.size);have HB5 := zh (Zae hwB cs4 w4 (j * 3) hbel4);obtain ⟨tag4, aU, rfl, hfacts⟩ := hE4;obtain ⟨_, _, rfl, _⟩ := hfacts.2.1;obtain ⟨hce, hfr⟩ := hB4;have f0 := hfr (j * 3 + 0);obtain ⟨u0, c0⟩ := hce 0 (by decide);have f1 := hfr (j * 3 + 1);obtain ⟨u1, c1⟩ := hce 1 (by decide);have f2 := hfr (j * 3 + 2);obtain ⟨u2, c2⟩ := hce 2 (by decide);simp only [Nat.add_zero] at c0 f0;clear hce hfr hmk4 hmk hb4 hbel4;go_wp2_with fail
   go_roundw
   case rel => exact ⟨j + 1, by omega, by go_num, HN.o, HB5.o⟩
   case measure => simp [intOf]; omega
  ·have hjl : j = l.length := by omega
   have HD := zh (SMk.done Zt (by rw [hjl] at hmk; exact hmk) (G := fun b => w.heap.size ≤ b) (fun b h => by have := HBw.o; omega) (by unfold maxLen; omega));clear hmk;go_wp2_with fail;go_ret;exact ⟨_, rfl, HD.o, hbel⟩
theorem Zfa (r : Zd) (cs : List Value) (F : Nat → Prop) (w : World) (hsz : Zw r ≤ 1048576) (h : Zg F w r cs) :
  Calls Tryz.prog 19 #[.agg cs.toArray] w fun e w' => ∃ cs', e = .returned (.agg cs'.toArray) ∧ Zg (fun b => w.heap.size ≤ b) w' r cs' ∧ Below w.heap.size w w' := by
 obtain ⟨rfl, bH, bI, bJ, bK, bL, bM⟩ := h;have HSZ := zh (show r.text.size ≤ 1048576 from hsz);clear hsz;have Hset_ := zh (show Ze2 F w r.set_ [.int .i64 r.set_.low, .int .i64 r.set_.high] from ⟨rfl, bL, bM⟩);have Hkind := zh bH;clear bH;have Hnumber := zh bI;clear bI;have Hindex := zh bJ;clear bJ;have Htext := zh bK;clear bK;clear bL;clear bM;have HP := zh (((Za.refl _).alloc (.cells #[.int .i64 0, .int .i64 0, .int .i64 0, .string ⟨#[]⟩, .int .i64 0, .int .i64 0] 34)).alloc (.cells #[.int .i64 r.kind, .int .i64 r.aH, .int .i64 r.index, .string r.text, .int .i64 0, .int .i64 0] 34) |>.block _ (by simp) |>.trans (heap_alloc_new w (.cells #[.int .i64 r.kind, .int .i64 r.aH, .int .i64 r.index, .string r.text, .int .i64 r.set_.low, .int .i64 r.set_.high] 50)));have HZ := zh ((Za.refl _).alloc (.cells #[.int .i64 r.kind, .int .i64 r.aH, .int .i64 r.index, .string r.text, .int .i64 0, .int .i64 0] 34) |>.block _ (by simp) |>.trans (heap_alloc_new (w.alloc (.cells #[.int .i64 r.kind, .int .i64 r.aH, .int .i64 r.index, .string r.text, .int .i64 r.set_.low, .int .i64 r.set_.high] 50)) (.cells #[.int .i64 0, .int .i64 0, .int .i64 0, .string ⟨#[]⟩, .int .i64 0, .int .i64 0] 34)));have HO := zh (heap_alloc_new ((w.alloc (.cells #[.int .i64 r.kind, .int .i64 r.aH, .int .i64 r.index, .string r.text, .int .i64 r.set_.low, .int .i64 r.set_.high] 50)).alloc (.cells #[.int .i64 0, .int .i64 0, .int .i64 0, .string ⟨#[]⟩, .int .i64 0, .int .i64 0] 34)) (.cells #[.int .i64 r.kind, .int .i64 r.aH, .int .i64 r.index, .string r.text, .int .i64 0, .int .i64 0] 34))
 simp only [Zbl] at HZ HO;have HB := zh ((((Below.refl w.heap.size w).alloc (Nat.le_refl _) (.cells #[.int .i64 r.kind, .int .i64 r.aH, .int .i64 r.index, .string r.text, .int .i64 r.set_.low, .int .i64 r.set_.high] 50)).alloc (by simp) (.cells #[.int .i64 0, .int .i64 0, .int .i64 0, .string ⟨#[]⟩, .int .i64 0, .int .i64 0] 34)).alloc (by simp; omega) (.cells #[.int .i64 r.kind, .int .i64 r.aH, .int .i64 r.index, .string r.text, .int .i64 0, .int .i64 0] 34));have hne1 : ¬ w.heap.size = w.heap.size + 2 := by omega
 have hne2 : ¬ w.heap.size + 1 = w.heap.size + 2 := by omega
 have hne3 : ¬ w.heap.size + 2 = w.heap.size + 1 := by omega
 have hne4 : ¬ w.heap.size = w.heap.size + 1 := by omega
 go_enter Tryz.func19, Tryz.ntmps19;go_wp2_with fail;refine (Zp5 r.set_ _ F _ (Zd2.keep Hset_.o (fun _ h => h) (Ze.later HB.o))).mono ?_;rintro e w4 ⟨cs4, rfl, hr4, hb4⟩;have hlo := (Array.getElem?_eq_some_iff.1 HO.o).1;have HR4 := zh (Zd2.keep (G := fun b => w.heap.size + 2 < b) hr4 (fun b h => Nat.lt_of_lt_of_le hlo h) (Ze.later (Za.refl _)));obtain ⟨rfl, g4_0, g4_1⟩ := hr4;clear g4_0 g4_1;replace HP := zC hb4 HP;replace HZ := zC hb4 HZ;replace HO := zC hb4 HO;replace HB := zh (HB.o.trans (Below.mono hb4 HB.o.size));clear hb4 hlo;have p0 := cz6 HP.o;have z0 := cz6 HZ.o;have o0 := cz6 HO.o;have fz0 := fz HZ.o;have fo0 := fz HO.o;replace HO := zh (Zaa (o := 5) (Zaa (o := 4) HO.o (.int .i64 r.set_.low)) (.int .i64 r.set_.high));simp only [List.setIfInBounds_toArray, List.set_cons_zero, List.set_cons_succ] at HO;replace HP := zh ((Below.heap_setCell _ ⟨w.heap.size + 2, 5, none⟩ (.int .i64 r.set_.high) _ hne1).trans ((Below.heap_setCell _ ⟨w.heap.size + 2, 4, none⟩ (.int .i64 r.set_.low) _ hne1).trans HP.o));replace HZ := zh ((Below.heap_setCell _ ⟨w.heap.size + 2, 5, none⟩ (.int .i64 r.set_.high) _ hne2).trans ((Below.heap_setCell _ ⟨w.heap.size + 2, 4, none⟩ (.int .i64 r.set_.low) _ hne2).trans HZ.o));replace HB := zh ((HB.o.setCell (p := ⟨w.heap.size + 2, 4, none⟩) (by simp) (.int .i64 r.set_.low)).setCell (p := ⟨w.heap.size + 2, 5, none⟩) (by simp) (.int .i64 r.set_.high))
 replace HR4 := zh (Zd2.keep HR4.o (fun _ h => h) (((Ze.later (Za.refl w4)).set (B := w.heap.size + 2) (by omega) 4 (.int .i64 r.set_.low)).set (B := w.heap.size + 2) (by omega) 5 (.int .i64 r.set_.high)));go_upto_region 7 with (fail);clear p0 z0 o0 fz0 fo0;obtain ⟨wf, hwf⟩ : ∃ wf, wf = ((w4.setCell ⟨w.heap.size + 2, 4, none⟩ (.int .i64 r.set_.low)).setCell ⟨w.heap.size + 2, 5, none⟩ (.int .i64 r.set_.high)) := ⟨_, rfl⟩;rw [← hwf] at HO HP HZ HB HR4 ⊢;clear hwf;have z0 := cz6 HZ.o;have o0 := cz6 HO.o;have fz0 := fz HZ.o;go_wp2_with fail;refine bodyPost_ret (v := .agg #[.int .i64 r.kind, .int .i64 r.aH, .int .i64 r.index, .string r.text, .int .i64 r.set_.low, .int .i64 r.set_.high]) (by simp [results, Tryz.results19, go_sem, z0, o0, fz0, hne3]) rfl ⟨[.int .i64 r.kind, .int .i64 r.aH, .int .i64 r.index, .string r.text, .int .i64 r.set_.low, .int .i64 r.set_.high], rfl, ?_, ((((((HB.o.setCell (p := ⟨w.heap.size + 1, 0, none⟩) (by simp) _).setCell (p := ⟨w.heap.size + 1, 1, none⟩) (by simp) _).setCell (p := ⟨w.heap.size + 1, 2, none⟩) (by simp) _).setCell (p := ⟨w.heap.size + 1, 3, none⟩) (by simp) _).setCell (p := ⟨w.heap.size + 1, 4, none⟩) (by simp) _).setCell (p := ⟨w.heap.size + 1, 5, none⟩) (by simp) _)⟩;obtain ⟨e4, k4_0, k4_1⟩ := HR4.o;exact ⟨rfl, Hkind.o, Hnumber.o, Hindex.o, Htext.o, k4_0, k4_1⟩
theorem Zh2 : (Tryz.prog.info? 34).map (fun i => (i.zero, i.size, i.bytes)) = some (some (.agg #[.int .i64 0, .int .i64 0, .int .i64 0, .string ⟨#[]⟩, .int .i64 0, .int .i64 0]), 6, 56) := by kernel_rfl
theorem Zp6 (n : Nat) (hn : n ≤ 2097152) : ∃ cur : Array Value, cur.size = n * 6 ∧ ∀ w : World, (Instr.makeSlice 27 (.int .i64 (n : Int)) (.int .i64 (n : Int))).run Tryz.prog w = .ok (.slice (some ⟨w.heap.size, 0, none⟩) n n) (w.alloc (.cells cur 34)) := by
 obtain ⟨i, hi, hz0, hz1, hz2⟩ := info_parts Zh2;refine ⟨madeCells (Value.cells (.agg #[.int .i64 0, .int .i64 0, .int .i64 0, .string ⟨#[]⟩, .int .i64 0, .int .i64 0])) (n * 6), size_madeCells _ _, fun w => ?_⟩;have := run_make (P := Tryz.prog) w 27 34 i _ Tryz.underlying27 hi hz0 .i64 .i64 n n (by omega) (by omega) (by rw [hz2]; omega) (by omega);rw [hz1] at this
 simpa using this
theorem Zf6 (l : List Zd) (v : Value) (F : Nat → Prop) (w : World) (hsz : Zk Zw l ≤ 1048576) (hr : Zo Zg 6 F w l v) :
  Calls Tryz.prog 63 #[v] w fun e w' => ∃ v', e = .returned v' ∧ Zbe Zg 6 34 (fun b => w.heap.size ≤ b) w' l v' ∧ Below w.heap.size w w' := by
 obtain ⟨A, c, rfl, hc, hcm, hel⟩ := hr;have HEL := zh hel;have hlen : l.length ≤ 1048576 := by unfold Zk at hsz; omega
 have HSZ := zh (show Za0 Zw l ≤ 1048576 by unfold Zk at hsz; omega);clear hel hsz hcm;obtain ⟨cur0, hcur0, hmkr⟩ := Zp6 l.length (by omega);have HC0 := zh hcur0;clear hcur0;go_enter Tryz.func63, Tryz.ntmps63;go_wp2_with fail;obtain ⟨B, hB⟩ : ∃ B, w.heap.size = B := ⟨_, rfl⟩;have hwB : w.heap.size ≤ B := by omega
 have HS0 : Hd (SMk Zg 6 34 B l 0 (w.alloc (.cells cur0 34))) := zh (SMk.start (by rw [← hB]; exact heap_alloc_new w _) HC0.o);have HBe := zh ((Below.refl w.heap.size w).alloc (Nat.le_refl _) (.cells cur0 34));rw [hB];clear hmkr HC0;have HBw := zh hB;clear hB
 go_loopw [4] (fun i wr => ∃ j : Nat, j ≤ l.length ∧ i = .int .i64 j ∧ SMk Zg 6 34 B l j wr ∧ Below w.heap.size w wr) (fun i _ => l.length - (intOf i).toNat)
 case atStart => exact ⟨0, Nat.zero_le _, rfl, HS0.o, HBe.o⟩
 case round =>
  obtain ⟨j, hj, rfl, hmk, hbel⟩ := hrel;have hBw : B < wr.heap.size := hmk.lt
  by_cases hlt : j < l.length
  ·obtain ⟨b, o, cs, rfl, hF, hbl, hE, hcell⟩ := HEL.o j hlt;have hE' := hE;obtain ⟨rfl, hfacts⟩ := hE;have hlt' : (j : Int) < l.length := by omega
   have e0 := (hbel.cell (p := ⟨b, o + j * 6 + 0, none⟩) hbl).trans (hcell 0 _ rfl);have e1 := (hbel.cell (p := ⟨b, o + j * 6 + 1, none⟩) hbl).trans (hcell 1 _ rfl);have e2 := (hbel.cell (p := ⟨b, o + j * 6 + 2, none⟩) hbl).trans (hcell 2 _ rfl);have e3 := (hbel.cell (p := ⟨b, o + j * 6 + 3, none⟩) hbl).trans (hcell 3 _ rfl);have e4 := (hbel.cell (p := ⟨b, o + j * 6 + 4, none⟩) hbl).trans (hcell 4 _ rfl);have e5 := (hbel.cell (p := ⟨b, o + j * 6 + 5, none⟩) hbl).trans (hcell 5 _ rfl);simp only [Nat.mul_one, Nat.add_zero] at e0;have HE2 := zh (Zc.keep (G := F) hE' (fun _ h => h) (Ze.later hbel));have HS := zh (Nat.le_trans (Zdz Zw l l[j] (List.getElem_mem hlt)) (HSZ.o));clear hE' hcell hfacts;go_wp2_with fail;refine (Zfa l[j] _ F wr HS.o HE2.o).mono ?_;rintro e w4 ⟨cs4, rfl, hE4, hb4⟩;have hmk4 := hmk.later Zl.is hb4;have hB4 := hmk4.at_ hlt;have HN := zh (SMk.next Zl hmk hb4 hlt hE4);have hbel4 : Below w.heap.size w w4 := hbel.trans (Below.mono hb4 hbel.size);have HB5 := zh (Zae hwB cs4 w4 (j * 6) hbel4);obtain ⟨rfl, hfacts⟩ := hE4;obtain ⟨hce, hfr⟩ := hB4;have f0 := hfr (j * 6 + 0);obtain ⟨u0, c0⟩ := hce 0 (by decide);have f1 := hfr (j * 6 + 1);obtain ⟨u1, c1⟩ := hce 1 (by decide);have f2 := hfr (j * 6 + 2);obtain ⟨u2, c2⟩ := hce 2 (by decide);have f3 := hfr (j * 6 + 3);obtain ⟨u3, c3⟩ := hce 3 (by decide);have f4 := hfr (j * 6 + 4);obtain ⟨u4, c4⟩ := hce 4 (by decide);have f5 := hfr (j * 6 + 5);obtain ⟨u5, c5⟩ := hce 5 (by decide)
   simp only [Nat.add_zero] at c0 f0;clear hce hfr hmk4 hmk hb4 hbel4;go_wp2_with fail
   go_roundw
   case rel => exact ⟨j + 1, by omega, by go_num, HN.o, HB5.o⟩
   case measure => simp [intOf]; omega
  ·have hjl : j = l.length := by omega
   have HD := zh (SMk.done Zl (by rw [hjl] at hmk; exact hmk) (G := fun b => w.heap.size ≤ b) (fun b h => by have := HBw.o; omega) (by unfold maxLen; omega));clear hmk;go_wp2_with fail;go_ret;exact ⟨_, rfl, HD.o, hbel⟩
theorem Zmw (r : Zam) (cs : List Value) (F : Nat → Prop) (w : World) (hsz : Zs r ≤ 1048576) (h : Zbk F w r cs) :
  Calls Tryz.prog 115 #[.agg cs.toArray] w fun e w' => ∃ cs', e = .returned (.agg cs'.toArray) ∧ Zc9 (fun b => w.heap.size ≤ b) w' r cs' ∧ Below w.heap.size w w' := by
 obtain ⟨aS, aT, rfl, bH, bN, bO, bP, bQ⟩ := h;have HSZ := zh (show Zk Zw r.aJ + (Zk Zw r.aK) ≤ 1048576 from hsz);clear hsz;have Hkind := zh bH;clear bH;have Htag := zh bN;clear bN;have Hserial := zh bO;clear bO;have Hitems := zh bP;clear bP;have Hkeys := zh bQ;clear bQ;have HP := zh (((Za.refl _).alloc (.cells #[.int .i64 0, .int .i64 0, .int .i64 0, .slice none 0 0, .slice none 0 0] 94)).alloc (.cells #[.int .i64 r.kind, .int .i64 r.tag, .int .i64 r.aI, .slice none 0 0, .slice none 0 0] 94) |>.block _ (by simp) |>.trans (heap_alloc_new w (.cells #[.int .i64 r.kind, .int .i64 r.tag, .int .i64 r.aI, aS, aT] 146)));have HZ := zh ((Za.refl _).alloc (.cells #[.int .i64 r.kind, .int .i64 r.tag, .int .i64 r.aI, .slice none 0 0, .slice none 0 0] 94) |>.block _ (by simp) |>.trans (heap_alloc_new (w.alloc (.cells #[.int .i64 r.kind, .int .i64 r.tag, .int .i64 r.aI, aS, aT] 146)) (.cells #[.int .i64 0, .int .i64 0, .int .i64 0, .slice none 0 0, .slice none 0 0] 94)));have HO := zh (heap_alloc_new ((w.alloc (.cells #[.int .i64 r.kind, .int .i64 r.tag, .int .i64 r.aI, aS, aT] 146)).alloc (.cells #[.int .i64 0, .int .i64 0, .int .i64 0, .slice none 0 0, .slice none 0 0] 94)) (.cells #[.int .i64 r.kind, .int .i64 r.tag, .int .i64 r.aI, .slice none 0 0, .slice none 0 0] 94));simp only [Zbl] at HZ HO;have HB := zh ((((Below.refl w.heap.size w).alloc (Nat.le_refl _) (.cells #[.int .i64 r.kind, .int .i64 r.tag, .int .i64 r.aI, aS, aT] 146)).alloc (by simp) (.cells #[.int .i64 0, .int .i64 0, .int .i64 0, .slice none 0 0, .slice none 0 0] 94)).alloc (by simp; omega) (.cells #[.int .i64 r.kind, .int .i64 r.tag, .int .i64 r.aI, .slice none 0 0, .slice none 0 0] 94))
 have hne1 : ¬ w.heap.size = w.heap.size + 2 := by omega
 have hne2 : ¬ w.heap.size + 1 = w.heap.size + 2 := by omega
 have hne3 : ¬ w.heap.size + 2 = w.heap.size + 1 := by omega
 have hne4 : ¬ w.heap.size = w.heap.size + 1 := by omega
 go_enter Tryz.func115, Tryz.ntmps115;go_wp2_with fail;have hlo := (Array.getElem?_eq_some_iff.1 HO.o).1;refine (Zf6 r.aJ aS F _ (by have := HSZ.o; omega) (Hitems.o.later Zc HB.o)).mono ?_;rintro e w3 ⟨v', rfl, hr3, hb3⟩;obtain ⟨A3, c3, rfl, _⟩ := id hr3;have HR3 := zh ((hr3.trim Zl).keep Zl.is (G := fun b => w.heap.size + 2 < b ∧ b < w3.heap.size) (fun b h => ⟨by have := h.1; have := hlo; omega, h.2⟩) (Ze.refl _ _));have HM3 := zh (show w.heap.size + 3 ≤ w3.heap.size from by have := hlo; have := Below.size hb3; omega);replace HP := zC hb3 HP;replace HZ := zC hb3 HZ;replace HO := zC hb3 HO;replace HB := zh (HB.o.trans (Below.mono hb3 HB.o.size));clear hr3 hb3 hlo;have p0 := cz5 HP.o;have z0 := cz5 HZ.o;have o0 := cz5 HO.o;have fz0 := fz HZ.o;have fo0 := fz HO.o;replace HO := zh (Zaa (o := 3) HO.o (.slice A3 r.aJ.length c3));simp only [List.setIfInBounds_toArray, List.set_cons_zero, List.set_cons_succ] at HO;replace HP := zh ((Below.heap_setCell _ ⟨w.heap.size + 2, 3, none⟩ (.slice A3 r.aJ.length c3) _ hne1).trans HP.o);replace HZ := zh ((Below.heap_setCell _ ⟨w.heap.size + 2, 3, none⟩ (.slice A3 r.aJ.length c3) _ hne2).trans HZ.o);replace HB := zh (HB.o.setCell (p := ⟨w.heap.size + 2, 3, none⟩) (by simp) (.slice A3 r.aJ.length c3));replace HR3 := zh (HR3.o.keep Zl.is (fun _ h => h) ((Ze.later (F := _) (Za.refl w3)).set (B := w.heap.size + 2) (by have := HM3.o; omega) 3 (.slice A3 r.aJ.length c3)))
 have HN := zh (show w3.heap.size ≤ _ from (((Ze.later (F := fun _ => False) (Za.refl w3)).set (B := w.heap.size + 2) (fun h => h) 3 (.slice A3 r.aJ.length c3))).size);go_upto_region 6 with (fail);clear p0 z0 o0 fz0 fo0;have p0 := cz5 HP.o;go_wp2_with fail;have hlo := (Array.getElem?_eq_some_iff.1 HO.o).1;refine (Zf6 r.aK aT F _ (by have := HSZ.o; omega) (Hkeys.o.later Zc HB.o)).mono ?_;rintro e w4 ⟨v', rfl, hr4, hb4⟩;obtain ⟨A4, c4, rfl, _⟩ := id hr4;have HR4 := zh ((hr4.trim Zl).keep Zl.is (G := fun b => w3.heap.size ≤ b ∧ b < w4.heap.size) (fun b h => ⟨by have := h.1; have := HN.o; omega, h.2⟩) (Ze.refl _ _));have HM4 := zh (show w3.heap.size ≤ w4.heap.size from by have := HN.o; have := Below.size hb4; omega);replace HR3 := zh (HR3.o.keep Zl.is (fun _ h => h) (Ze.later hb4));replace HP := zC hb4 HP;replace HZ := zC hb4 HZ;replace HO := zC hb4 HO;replace HB := zh (HB.o.trans (Below.mono hb4 HB.o.size));clear hr4 hb4 hlo;have p0 := cz5 HP.o;have z0 := cz5 HZ.o;have o0 := cz5 HO.o;have fz0 := fz HZ.o;have fo0 := fz HO.o;replace HO := zh (Zaa (o := 4) HO.o (.slice A4 r.aK.length c4));simp only [List.setIfInBounds_toArray, List.set_cons_zero, List.set_cons_succ] at HO;replace HP := zh ((Below.heap_setCell _ ⟨w.heap.size + 2, 4, none⟩ (.slice A4 r.aK.length c4) _ hne1).trans HP.o);replace HZ := zh ((Below.heap_setCell _ ⟨w.heap.size + 2, 4, none⟩ (.slice A4 r.aK.length c4) _ hne2).trans HZ.o)
 replace HB := zh (HB.o.setCell (p := ⟨w.heap.size + 2, 4, none⟩) (by simp) (.slice A4 r.aK.length c4));replace HR3 := zh (HR3.o.keep Zl.is (fun _ h => h) ((Ze.later (F := _) (Za.refl w4)).set (B := w.heap.size + 2) (by have := HM3.o; have := HM4.o; omega) 4 (.slice A4 r.aK.length c4)));replace HR4 := zh (HR4.o.keep Zl.is (fun _ h => h) ((Ze.later (F := _) (Za.refl w4)).set (B := w.heap.size + 2) (by have := HM3.o; have := HM4.o; omega) 4 (.slice A4 r.aK.length c4)));replace HN := zh (show w4.heap.size ≤ _ from (((Ze.later (F := fun _ => False) (Za.refl w4)).set (B := w.heap.size + 2) (fun h => h) 4 (.slice A4 r.aK.length c4))).size);go_upto_region 7 with (fail);clear p0 z0 o0 fz0 fo0;obtain ⟨wf, hwf⟩ : ∃ wf, wf = (w4.setCell ⟨w.heap.size + 2, 4, none⟩ (.slice A4 r.aK.length c4)) := ⟨_, rfl⟩;rw [← hwf] at HO HP HZ HB HR3 HR4 ⊢;clear hwf;have z0 := cz5 HZ.o;have o0 := cz5 HO.o;have fz0 := fz HZ.o;go_wp2_with fail;refine bodyPost_ret (v := .agg #[.int .i64 r.kind, .int .i64 r.tag, .int .i64 r.aI, .slice A3 r.aJ.length c3, .slice A4 r.aK.length c4]) (by simp [results, Tryz.results115, go_sem, z0, o0, fz0, hne3]) rfl ⟨[.int .i64 r.kind, .int .i64 r.tag, .int .i64 r.aI, .slice A3 r.aJ.length c3, .slice A4 r.aK.length c4], rfl, ?_, (((((HB.o.setCell (p := ⟨w.heap.size + 1, 0, none⟩) (by simp) _).setCell (p := ⟨w.heap.size + 1, 1, none⟩) (by simp) _).setCell (p := ⟨w.heap.size + 1, 2, none⟩) (by simp) _).setCell (p := ⟨w.heap.size + 1, 3, none⟩) (by simp) _).setCell (p := ⟨w.heap.size + 1, 4, none⟩) (by simp) _)⟩
 have := HM3.o; have := HM4.o;have kk := Zaf (F := fun y => y ≠ w.heap.size + 1) (fun h => h rfl) [.int .i64 r.kind, .int .i64 r.tag, .int .i64 r.aI, .slice A3 r.aJ.length c3, .slice A4 r.aK.length c4] wf 0 (Ze.refl _ _);simp only [Zz, Nat.zero_add, Nat.reduceAdd] at kk;exact ⟨(fun y => if y < w3.heap.size then 0 else (1 : Nat)), _, _, rfl, Hkind.o, Htag.o, Hserial.o, HR3.o.keep Zl.is (fun b h => ⟨by have := h.1; omega, by have := h.1; have := h.2; dsimp only; (repeat' split) <;> omega⟩) (kk.mono fun b h => by have := h.1; have := h.2; omega), HR4.o.keep Zl.is (fun b h => ⟨by have := h.1; omega, by have := h.1; have := h.2; dsimp only; (repeat' split) <;> omega⟩) (kk.mono fun b h => by have := h.1; have := h.2; omega)⟩
theorem Zot : (Tryz.prog.info? 94).map (fun i => (i.zero, i.size, i.bytes)) = some (some (.agg #[.int .i64 0, .int .i64 0, .int .i64 0, .slice none 0 0, .slice none 0 0]), 5, 72) := by kernel_rfl
theorem Zou (n : Nat) (hn : n ≤ 2097152) : ∃ cur : Array Value, cur.size = n * 5 ∧ ∀ w : World, (Instr.makeSlice 26 (.int .i64 (n : Int)) (.int .i64 (n : Int))).run Tryz.prog w = .ok (.slice (some ⟨w.heap.size, 0, none⟩) n n) (w.alloc (.cells cur 94)) := by
 obtain ⟨i, hi, hz0, hz1, hz2⟩ := info_parts Zot;refine ⟨madeCells (Value.cells (.agg #[.int .i64 0, .int .i64 0, .int .i64 0, .slice none 0 0, .slice none 0 0])) (n * 5), size_madeCells _ _, fun w => ?_⟩;have := run_make (P := Tryz.prog) w 26 94 i _ Tryz.underlying26 hi hz0 .i64 .i64 n n (by omega) (by omega) (by rw [hz2]; omega) (by omega);rw [hz1] at this
 simpa using this
theorem Zls (l : List Zam) (v : Value) (F : Nat → Prop) (w : World) (hsz : Zk Zs l ≤ 1048576) (hr : Zo Zbk 5 F w l v) :
  Calls Tryz.prog 62 #[v] w fun e w' => ∃ v', e = .returned v' ∧ Zbe Zc9 5 94 (fun b => w.heap.size ≤ b) w' l v' ∧ Below w.heap.size w w' := by
 obtain ⟨A, c, rfl, hc, hcm, hel⟩ := hr;have HEL := zh hel;have hlen : l.length ≤ 1048576 := by unfold Zk at hsz; omega
 have HSZ := zh (show Za0 Zs l ≤ 1048576 by unfold Zk at hsz; omega);clear hel hsz hcm;obtain ⟨cur0, hcur0, hmkr⟩ := Zou l.length (by omega);have HC0 := zh hcur0;clear hcur0;go_enter Tryz.func62, Tryz.ntmps62;go_wp2_with fail;obtain ⟨B, hB⟩ : ∃ B, w.heap.size = B := ⟨_, rfl⟩;have hwB : w.heap.size ≤ B := by omega
 have HS0 : Hd (SMk Zc9 5 94 B l 0 (w.alloc (.cells cur0 94))) := zh (SMk.start (by rw [← hB]; exact heap_alloc_new w _) HC0.o);have HBe := zh ((Below.refl w.heap.size w).alloc (Nat.le_refl _) (.cells cur0 94));rw [hB];clear hmkr HC0;have HBw := zh hB;clear hB
 go_loopw [4] (fun i wr => ∃ j : Nat, j ≤ l.length ∧ i = .int .i64 j ∧ SMk Zc9 5 94 B l j wr ∧ Below w.heap.size w wr) (fun i _ => l.length - (intOf i).toNat)
 case atStart => exact ⟨0, Nat.zero_le _, rfl, HS0.o, HBe.o⟩
 case round =>
  obtain ⟨j, hj, rfl, hmk, hbel⟩ := hrel;have hBw : B < wr.heap.size := hmk.lt
  by_cases hlt : j < l.length
  ·obtain ⟨b, o, cs, rfl, hF, hbl, hE, hcell⟩ := HEL.o j hlt;have hE' := hE;obtain ⟨aS, aT, rfl, hfacts⟩ := hE;have hlt' : (j : Int) < l.length := by omega
   have e0 := (hbel.cell (p := ⟨b, o + j * 5 + 0, none⟩) hbl).trans (hcell 0 _ rfl);have e1 := (hbel.cell (p := ⟨b, o + j * 5 + 1, none⟩) hbl).trans (hcell 1 _ rfl);have e2 := (hbel.cell (p := ⟨b, o + j * 5 + 2, none⟩) hbl).trans (hcell 2 _ rfl);have e3 := (hbel.cell (p := ⟨b, o + j * 5 + 3, none⟩) hbl).trans (hcell 3 _ rfl);have e4 := (hbel.cell (p := ⟨b, o + j * 5 + 4, none⟩) hbl).trans (hcell 4 _ rfl);simp only [Nat.mul_one, Nat.add_zero] at e0;have HE2 := zh (Za4.keep (G := F) hE' (fun _ h => h) (Ze.later hbel));have HS := zh (Nat.le_trans (Zdz Zs l l[j] (List.getElem_mem hlt)) (HSZ.o));clear hE' hcell hfacts;go_wp2_with fail;refine (Zmw l[j] _ F wr HS.o HE2.o).mono ?_;rintro e w4 ⟨cs4, rfl, hE4, hb4⟩;have hmk4 := hmk.later Z7.is hb4;have hB4 := hmk4.at_ hlt;have HN := zh (SMk.next Z7 hmk hb4 hlt hE4);have hbel4 : Below w.heap.size w w4 := hbel.trans (Below.mono hb4 hbel.size);have HB5 := zh (Zae hwB cs4 w4 (j * 5) hbel4);obtain ⟨tag4, aS, aT, rfl, hfacts⟩ := hE4;obtain ⟨_, _, rfl, _⟩ := hfacts.2.2.2.1;obtain ⟨_, _, rfl, _⟩ := hfacts.2.2.2.2;obtain ⟨hce, hfr⟩ := hB4;have f0 := hfr (j * 5 + 0);obtain ⟨u0, c0⟩ := hce 0 (by decide);have f1 := hfr (j * 5 + 1);obtain ⟨u1, c1⟩ := hce 1 (by decide);have f2 := hfr (j * 5 + 2);obtain ⟨u2, c2⟩ := hce 2 (by decide);have f3 := hfr (j * 5 + 3);obtain ⟨u3, c3⟩ := hce 3 (by decide);have f4 := hfr (j * 5 + 4);obtain ⟨u4, c4⟩ := hce 4 (by decide);simp only [Nat.add_zero] at c0 f0
   clear hce hfr hmk4 hmk hb4 hbel4;go_wp2_with fail
   go_roundw
   case rel => exact ⟨j + 1, by omega, by go_num, HN.o, HB5.o⟩
   case measure => simp [intOf]; omega
  ·have hjl : j = l.length := by omega
   have HD := zh (SMk.done Z7 (by rw [hjl] at hmk; exact hmk) (G := fun b => w.heap.size ≤ b) (fun b h => by have := HBw.o; omega) (by unfold maxLen; omega));clear hmk;go_wp2_with fail;go_ret;exact ⟨_, rfl, HD.o, hbel⟩
theorem Zmx (r : Zc4) (cs : List Value) (F : Nat → Prop) (w : World) (h : Zbg F w r cs) :
  Calls Tryz.prog 116 #[.agg cs.toArray] w fun e w' => ∃ cs', e = .returned (.agg cs'.toArray) ∧ Zbg (fun b => w.heap.size ≤ b) w' r cs' ∧ Below w.heap.size w w' := by
 obtain ⟨rfl, hroutine, hframe⟩ := h;have HF := zh (And.intro trivial (And.intro hroutine (hframe)));clear hroutine hframe;go_enter Tryz.func116, Tryz.ntmps116;go_wp2_with fail;refine bodyPost_ret (v := .agg #[.int .i64 r.routine, .int .i64 r.frame]) (by simp [results, Tryz.results116, go_sem]) rfl ⟨[.int .i64 r.routine, .int .i64 r.frame], rfl, ⟨rfl, HF.o.2⟩, ?_⟩;exact (((Below.refl _ _).alloc (Nat.le_refl _) _).alloc (by simp) _).alloc (by simp; omega) _
theorem Zov : (Tryz.prog.info? 89).map (fun i => (i.zero, i.size, i.bytes)) = some (some (.agg #[.int .i64 0, .int .i64 0]), 2, 16) := by kernel_rfl
theorem Zow (n : Nat) (hn : n ≤ 2097152) : ∃ cur : Array Value, cur.size = n * 2 ∧ ∀ w : World, (Instr.makeSlice 28 (.int .i64 (n : Int)) (.int .i64 (n : Int))).run Tryz.prog w = .ok (.slice (some ⟨w.heap.size, 0, none⟩) n n) (w.alloc (.cells cur 89)) := by
 obtain ⟨i, hi, hz0, hz1, hz2⟩ := info_parts Zov;refine ⟨madeCells (Value.cells (.agg #[.int .i64 0, .int .i64 0])) (n * 2), size_madeCells _ _, fun w => ?_⟩;have := run_make (P := Tryz.prog) w 28 89 i _ Tryz.underlying28 hi hz0 .i64 .i64 n n (by omega) (by omega) (by rw [hz2]; omega) (by omega);rw [hz1] at this
 simpa using this
theorem Zlt (l : List Zc4) (v : Value) (F : Nat → Prop) (w : World) (hsz : Zk (fun _ => 0) l ≤ 1048576) (hr : Zo Zbg 2 F w l v) :
  Calls Tryz.prog 64 #[v] w fun e w' => ∃ v', e = .returned v' ∧ Zbe Zbg 2 89 (fun b => w.heap.size ≤ b) w' l v' ∧ Below w.heap.size w w' := by
 obtain ⟨A, c, rfl, hc, hcm, hel⟩ := hr;have HEL := zh hel;have hlen : l.length ≤ 1048576 := by unfold Zk at hsz; omega
 have HSZ := zh (show Za0 (fun _ => 0) l ≤ 1048576 by unfold Zk at hsz; omega);clear hel hsz hcm;obtain ⟨cur0, hcur0, hmkr⟩ := Zow l.length (by omega);have HC0 := zh hcur0;clear hcur0;go_enter Tryz.func64, Tryz.ntmps64;go_wp2_with fail;obtain ⟨B, hB⟩ : ∃ B, w.heap.size = B := ⟨_, rfl⟩;have hwB : w.heap.size ≤ B := by omega
 have HS0 : Hd (SMk Zbg 2 89 B l 0 (w.alloc (.cells cur0 89))) := zh (SMk.start (by rw [← hB]; exact heap_alloc_new w _) HC0.o);have HBe := zh ((Below.refl w.heap.size w).alloc (Nat.le_refl _) (.cells cur0 89));rw [hB];clear hmkr HC0;have HBw := zh hB;clear hB
 go_loopw [4] (fun i wr => ∃ j : Nat, j ≤ l.length ∧ i = .int .i64 j ∧ SMk Zbg 2 89 B l j wr ∧ Below w.heap.size w wr) (fun i _ => l.length - (intOf i).toNat)
 case atStart => exact ⟨0, Nat.zero_le _, rfl, HS0.o, HBe.o⟩
 case round =>
  obtain ⟨j, hj, rfl, hmk, hbel⟩ := hrel;have hBw : B < wr.heap.size := hmk.lt
  by_cases hlt : j < l.length
  ·obtain ⟨b, o, cs, rfl, hF, hbl, hE, hcell⟩ := HEL.o j hlt;have hE' := hE;obtain ⟨rfl, hfacts⟩ := hE;have hlt' : (j : Int) < l.length := by omega
   have e0 := (hbel.cell (p := ⟨b, o + j * 2 + 0, none⟩) hbl).trans (hcell 0 _ rfl);have e1 := (hbel.cell (p := ⟨b, o + j * 2 + 1, none⟩) hbl).trans (hcell 1 _ rfl);simp only [Nat.mul_one, Nat.add_zero] at e0;have HE2 := zh (Zbd.keep (G := F) hE' (fun _ h => h) (Ze.later hbel));have HS := zh (Nat.le_trans (Zdz (fun _ => 0) l l[j] (List.getElem_mem hlt)) (HSZ.o));clear hE' hcell hfacts;go_wp2_with fail;refine (Zmx l[j] _ F wr HE2.o).mono ?_;rintro e w4 ⟨cs4, rfl, hE4, hb4⟩;have hmk4 := hmk.later Zaq.is hb4;have hB4 := hmk4.at_ hlt;have HN := zh (SMk.next Zaq hmk hb4 hlt hE4);have hbel4 : Below w.heap.size w w4 := hbel.trans (Below.mono hb4 hbel.size);have HB5 := zh (Zae hwB cs4 w4 (j * 2) hbel4);obtain ⟨rfl, hfacts⟩ := hE4;obtain ⟨hce, hfr⟩ := hB4;have f0 := hfr (j * 2 + 0);obtain ⟨u0, c0⟩ := hce 0 (by decide);have f1 := hfr (j * 2 + 1);obtain ⟨u1, c1⟩ := hce 1 (by decide);simp only [Nat.add_zero] at c0 f0;clear hce hfr hmk4 hmk hb4 hbel4;go_wp2_with fail
   go_roundw
   case rel => exact ⟨j + 1, by omega, by go_num, HN.o, HB5.o⟩
   case measure => simp [intOf]; omega
  ·have hjl : j = l.length := by omega
   have HD := zh (SMk.done Zaq (by rw [hjl] at hmk; exact hmk) (G := fun b => w.heap.size ≤ b) (fun b h => by have := HBw.o; omega) (by unfold maxLen; omega));clear hmk;go_wp2_with fail;go_ret;exact ⟨_, rfl, HD.o, hbel⟩
theorem Zfb (r : Zf) (cs : List Value) (F : Nat → Prop) (w : World) (hsz : Zav r ≤ 1048576) (h : Zcf F w r cs) :
  Calls Tryz.prog 18 #[.agg cs.toArray] w fun e w' => ∃ cs', e = .returned (.agg cs'.toArray) ∧ Zec (fun b => w.heap.size ≤ b) w' r cs' ∧ Below w.heap.size w w' := by
 obtain ⟨aL, aM, aN, aO, aP, aQ, aR, rfl, aV, aW, aX, aY, aZ, bA, bB, bC, bD, bE, bF, bG⟩ := h;have HSZ := zh (show Zk ByteArray.size r.names + (Zk Zp r.aB + (Zk Zs r.aA + (Zk Zw r.globals + (r.aC.size + (Zk ByteArray.size r.output + (Zk ByteArray.size r.trace + (Zk (fun _ => 0) r.aE))))))) ≤ 1048576 from hsz);clear hsz;have Hnames := zh aV;clear aV;have Hrecords := zh aW;clear aW;have Hobjects := zh aX;clear aX;have Hglobals := zh aY;clear aY;have Hsubject := zh aZ;clear aZ;have Hposition := zh bA;clear bA;have Houtput := zh bB;clear bB;have Htrace := zh bC;clear bC;have Hactives := zh bD;clear bD;have Hticks := zh bE;clear bE;have Hbudget := zh bF;clear bF;have Hmade := zh bG;clear bG;have HP := zh (((Za.refl _).alloc (.cells #[.slice none 0 0, .slice none 0 0, .slice none 0 0, .slice none 0 0, .string ⟨#[]⟩, .int .i64 0, .slice none 0 0, .slice none 0 0, .slice none 0 0, .bool false, .int .i64 0, .int .i64 0, .int .i64 0] 30)).alloc (.cells #[.slice none 0 0, .slice none 0 0, .slice none 0 0, .slice none 0 0, .string ⟨#[]⟩, .int .i64 0, .slice none 0 0, .slice none 0 0, .slice none 0 0, .bool false, .int .i64 0, .int .i64 0, .int .i64 0] 30) |>.block _ (by simp) |>.trans (heap_alloc_new w (.cells #[aL, aM, aN, aO, .string r.aC, .int .i64 r.aD, aP, aQ, aR, .bool r.aF, .int .i64 r.ticks, .int .i64 r.aG, .int .i64 r.made] 47)))
 have HZ := zh ((Za.refl _).alloc (.cells #[.slice none 0 0, .slice none 0 0, .slice none 0 0, .slice none 0 0, .string ⟨#[]⟩, .int .i64 0, .slice none 0 0, .slice none 0 0, .slice none 0 0, .bool false, .int .i64 0, .int .i64 0, .int .i64 0] 30) |>.block _ (by simp) |>.trans (heap_alloc_new (w.alloc (.cells #[aL, aM, aN, aO, .string r.aC, .int .i64 r.aD, aP, aQ, aR, .bool r.aF, .int .i64 r.ticks, .int .i64 r.aG, .int .i64 r.made] 47)) (.cells #[.slice none 0 0, .slice none 0 0, .slice none 0 0, .slice none 0 0, .string ⟨#[]⟩, .int .i64 0, .slice none 0 0, .slice none 0 0, .slice none 0 0, .bool false, .int .i64 0, .int .i64 0, .int .i64 0] 30)));have HO := zh (heap_alloc_new ((w.alloc (.cells #[aL, aM, aN, aO, .string r.aC, .int .i64 r.aD, aP, aQ, aR, .bool r.aF, .int .i64 r.ticks, .int .i64 r.aG, .int .i64 r.made] 47)).alloc (.cells #[.slice none 0 0, .slice none 0 0, .slice none 0 0, .slice none 0 0, .string ⟨#[]⟩, .int .i64 0, .slice none 0 0, .slice none 0 0, .slice none 0 0, .bool false, .int .i64 0, .int .i64 0, .int .i64 0] 30)) (.cells #[.slice none 0 0, .slice none 0 0, .slice none 0 0, .slice none 0 0, .string ⟨#[]⟩, .int .i64 0, .slice none 0 0, .slice none 0 0, .slice none 0 0, .bool false, .int .i64 0, .int .i64 0, .int .i64 0] 30));simp only [Zbl] at HZ HO;have HB := zh ((((Below.refl w.heap.size w).alloc (Nat.le_refl _) (.cells #[aL, aM, aN, aO, .string r.aC, .int .i64 r.aD, aP, aQ, aR, .bool r.aF, .int .i64 r.ticks, .int .i64 r.aG, .int .i64 r.made] 47)).alloc (by simp) (.cells #[.slice none 0 0, .slice none 0 0, .slice none 0 0, .slice none 0 0, .string ⟨#[]⟩, .int .i64 0, .slice none 0 0, .slice none 0 0, .slice none 0 0, .bool false, .int .i64 0, .int .i64 0, .int .i64 0] 30)).alloc (by simp; omega) (.cells #[.slice none 0 0, .slice none 0 0, .slice none 0 0, .slice none 0 0, .string ⟨#[]⟩, .int .i64 0, .slice none 0 0, .slice none 0 0, .slice none 0 0, .bool false, .int .i64 0, .int .i64 0, .int .i64 0] 30))
 have hne1 : ¬ w.heap.size = w.heap.size + 2 := by omega
 have hne2 : ¬ w.heap.size + 1 = w.heap.size + 2 := by omega
 have hne3 : ¬ w.heap.size + 2 = w.heap.size + 1 := by omega
 have hne4 : ¬ w.heap.size = w.heap.size + 1 := by omega
 go_enter Tryz.func18, Tryz.ntmps18;go_wp2_with fail;have hlo := (Array.getElem?_eq_some_iff.1 HO.o).1;refine (Zef r.names aL F _ (by have := HSZ.o; omega) (Hnames.o.later Zad HB.o)).mono ?_;rintro e w0 ⟨v', rfl, hr0, hb0⟩;obtain ⟨A0, c0, rfl, _⟩ := id hr0;have HR0 := zh ((hr0.trim Zq).keep Zq.is (G := fun b => w.heap.size + 2 < b ∧ b < w0.heap.size) (fun b h => ⟨by have := h.1; have := hlo; omega, h.2⟩) (Ze.refl _ _));have HM0 := zh (show w.heap.size + 3 ≤ w0.heap.size from by have := hlo; have := Below.size hb0; omega);replace HP := zC hb0 HP;replace HZ := zC hb0 HZ;replace HO := zC hb0 HO;replace HB := zh (HB.o.trans (Below.mono hb0 HB.o.size));clear hr0 hb0 hlo;have p0 := Zbb HP.o;have z0 := Zbb HZ.o;have o0 := Zbb HO.o;have fz0 := fz HZ.o;have fo0 := fz HO.o;replace HO := zh (Zaa (o := 0) HO.o (.slice A0 r.names.length c0));simp only [List.setIfInBounds_toArray, List.set_cons_zero, List.set_cons_succ] at HO;replace HP := zh ((Below.heap_setCell _ ⟨w.heap.size + 2, 0, none⟩ (.slice A0 r.names.length c0) _ hne1).trans HP.o);replace HZ := zh ((Below.heap_setCell _ ⟨w.heap.size + 2, 0, none⟩ (.slice A0 r.names.length c0) _ hne2).trans HZ.o);replace HB := zh (HB.o.setCell (p := ⟨w.heap.size + 2, 0, none⟩) (by simp) (.slice A0 r.names.length c0));replace HR0 := zh (HR0.o.keep Zq.is (fun _ h => h) ((Ze.later (F := _) (Za.refl w0)).set (B := w.heap.size + 2) (by have := HM0.o; omega) 0 (.slice A0 r.names.length c0)))
 have HN := zh (show w0.heap.size ≤ _ from (((Ze.later (F := fun _ => False) (Za.refl w0)).set (B := w.heap.size + 2) (fun h => h) 0 (.slice A0 r.names.length c0))).size);go_upto_region 3 with (fail);clear p0 z0 o0 fz0 fo0;have p0 := Zbb HP.o;go_wp2_with fail;have hlo := (Array.getElem?_eq_some_iff.1 HO.o).1;refine (Ziq r.aB aM F _ (by have := HSZ.o; omega) (Hrecords.o.later Zah HB.o)).mono ?_;rintro e w1 ⟨v', rfl, hr1, hb1⟩;obtain ⟨A1, c1, rfl, _⟩ := id hr1;have HR1 := zh ((hr1.trim Zt).keep Zt.is (G := fun b => w0.heap.size ≤ b ∧ b < w1.heap.size) (fun b h => ⟨by have := h.1; have := HN.o; omega, h.2⟩) (Ze.refl _ _));have HM1 := zh (show w0.heap.size ≤ w1.heap.size from by have := HN.o; have := Below.size hb1; omega);replace HR0 := zh (HR0.o.keep Zq.is (fun _ h => h) (Ze.later hb1));replace HP := zC hb1 HP;replace HZ := zC hb1 HZ;replace HO := zC hb1 HO;replace HB := zh (HB.o.trans (Below.mono hb1 HB.o.size));clear hr1 hb1 hlo;have p0 := Zbb HP.o;have z0 := Zbb HZ.o;have o0 := Zbb HO.o;have fz0 := fz HZ.o;have fo0 := fz HO.o;replace HO := zh (Zaa (o := 1) HO.o (.slice A1 r.aB.length c1))
 simp only [List.setIfInBounds_toArray, List.set_cons_zero, List.set_cons_succ] at HO;replace HP := zh ((Below.heap_setCell _ ⟨w.heap.size + 2, 1, none⟩ (.slice A1 r.aB.length c1) _ hne1).trans HP.o);replace HZ := zh ((Below.heap_setCell _ ⟨w.heap.size + 2, 1, none⟩ (.slice A1 r.aB.length c1) _ hne2).trans HZ.o);replace HB := zh (HB.o.setCell (p := ⟨w.heap.size + 2, 1, none⟩) (by simp) (.slice A1 r.aB.length c1));replace HR0 := zh (HR0.o.keep Zq.is (fun _ h => h) ((Ze.later (F := _) (Za.refl w1)).set (B := w.heap.size + 2) (by have := HM0.o; have := HM1.o; omega) 1 (.slice A1 r.aB.length c1)));replace HR1 := zh (HR1.o.keep Zt.is (fun _ h => h) ((Ze.later (F := _) (Za.refl w1)).set (B := w.heap.size + 2) (by have := HM0.o; have := HM1.o; omega) 1 (.slice A1 r.aB.length c1)));replace HN := zh (show w1.heap.size ≤ _ from (((Ze.later (F := fun _ => False) (Za.refl w1)).set (B := w.heap.size + 2) (fun h => h) 1 (.slice A1 r.aB.length c1))).size);go_upto_region 4 with (fail);clear p0 z0 o0 fz0 fo0;have p0 := Zbb HP.o;go_wp2_with fail;have hlo := (Array.getElem?_eq_some_iff.1 HO.o).1;refine (Zls r.aA aN F _ (by have := HSZ.o; omega) (Hobjects.o.later Za4 HB.o)).mono ?_;rintro e w2 ⟨v', rfl, hr2, hb2⟩;obtain ⟨A2, c2, rfl, _⟩ := id hr2
 have HR2 := zh ((hr2.trim Z7).keep Z7.is (G := fun b => w1.heap.size ≤ b ∧ b < w2.heap.size) (fun b h => ⟨by have := h.1; have := HN.o; omega, h.2⟩) (Ze.refl _ _));have HM2 := zh (show w1.heap.size ≤ w2.heap.size from by have := HN.o; have := Below.size hb2; omega);replace HR0 := zh (HR0.o.keep Zq.is (fun _ h => h) (Ze.later hb2));replace HR1 := zh (HR1.o.keep Zt.is (fun _ h => h) (Ze.later hb2));replace HP := zC hb2 HP;replace HZ := zC hb2 HZ;replace HO := zC hb2 HO;replace HB := zh (HB.o.trans (Below.mono hb2 HB.o.size));clear hr2 hb2 hlo;have p0 := Zbb HP.o;have z0 := Zbb HZ.o;have o0 := Zbb HO.o;have fz0 := fz HZ.o;have fo0 := fz HO.o;replace HO := zh (Zaa (o := 2) HO.o (.slice A2 r.aA.length c2));simp only [List.setIfInBounds_toArray, List.set_cons_zero, List.set_cons_succ] at HO;replace HP := zh ((Below.heap_setCell _ ⟨w.heap.size + 2, 2, none⟩ (.slice A2 r.aA.length c2) _ hne1).trans HP.o);replace HZ := zh ((Below.heap_setCell _ ⟨w.heap.size + 2, 2, none⟩ (.slice A2 r.aA.length c2) _ hne2).trans HZ.o);replace HB := zh (HB.o.setCell (p := ⟨w.heap.size + 2, 2, none⟩) (by simp) (.slice A2 r.aA.length c2));replace HR0 := zh (HR0.o.keep Zq.is (fun _ h => h) ((Ze.later (F := _) (Za.refl w2)).set (B := w.heap.size + 2) (by have := HM0.o; have := HM1.o; have := HM2.o; omega) 2 (.slice A2 r.aA.length c2)))
 replace HR1 := zh (HR1.o.keep Zt.is (fun _ h => h) ((Ze.later (F := _) (Za.refl w2)).set (B := w.heap.size + 2) (by have := HM0.o; have := HM1.o; have := HM2.o; omega) 2 (.slice A2 r.aA.length c2)));replace HR2 := zh (HR2.o.keep Z7.is (fun _ h => h) ((Ze.later (F := _) (Za.refl w2)).set (B := w.heap.size + 2) (by have := HM0.o; have := HM1.o; have := HM2.o; omega) 2 (.slice A2 r.aA.length c2)));replace HN := zh (show w2.heap.size ≤ _ from (((Ze.later (F := fun _ => False) (Za.refl w2)).set (B := w.heap.size + 2) (fun h => h) 2 (.slice A2 r.aA.length c2))).size);go_upto_region 5 with (fail);clear p0 z0 o0 fz0 fo0;have p0 := Zbb HP.o;go_wp2_with fail;have hlo := (Array.getElem?_eq_some_iff.1 HO.o).1;refine (Zf6 r.globals aO F _ (by have := HSZ.o; omega) (Hglobals.o.later Zc HB.o)).mono ?_;rintro e w3 ⟨v', rfl, hr3, hb3⟩;obtain ⟨A3, c3, rfl, _⟩ := id hr3;have HR3 := zh ((hr3.trim Zl).keep Zl.is (G := fun b => w2.heap.size ≤ b ∧ b < w3.heap.size) (fun b h => ⟨by have := h.1; have := HN.o; omega, h.2⟩) (Ze.refl _ _));have HM3 := zh (show w2.heap.size ≤ w3.heap.size from by have := HN.o; have := Below.size hb3; omega);replace HR0 := zh (HR0.o.keep Zq.is (fun _ h => h) (Ze.later hb3));replace HR1 := zh (HR1.o.keep Zt.is (fun _ h => h) (Ze.later hb3))
 replace HR2 := zh (HR2.o.keep Z7.is (fun _ h => h) (Ze.later hb3));replace HP := zC hb3 HP;replace HZ := zC hb3 HZ;replace HO := zC hb3 HO;replace HB := zh (HB.o.trans (Below.mono hb3 HB.o.size));clear hr3 hb3 hlo;have p0 := Zbb HP.o;have z0 := Zbb HZ.o;have o0 := Zbb HO.o;have fz0 := fz HZ.o;have fo0 := fz HO.o;replace HO := zh (Zaa (o := 5) (Zaa (o := 4) (Zaa (o := 3) HO.o (.slice A3 r.globals.length c3)) (.string r.aC)) (.int .i64 r.aD));simp only [List.setIfInBounds_toArray, List.set_cons_zero, List.set_cons_succ] at HO;replace HP := zh ((Below.heap_setCell _ ⟨w.heap.size + 2, 5, none⟩ (.int .i64 r.aD) _ hne1).trans ((Below.heap_setCell _ ⟨w.heap.size + 2, 4, none⟩ (.string r.aC) _ hne1).trans ((Below.heap_setCell _ ⟨w.heap.size + 2, 3, none⟩ (.slice A3 r.globals.length c3) _ hne1).trans HP.o)));replace HZ := zh ((Below.heap_setCell _ ⟨w.heap.size + 2, 5, none⟩ (.int .i64 r.aD) _ hne2).trans ((Below.heap_setCell _ ⟨w.heap.size + 2, 4, none⟩ (.string r.aC) _ hne2).trans ((Below.heap_setCell _ ⟨w.heap.size + 2, 3, none⟩ (.slice A3 r.globals.length c3) _ hne2).trans HZ.o)));replace HB := zh (((HB.o.setCell (p := ⟨w.heap.size + 2, 3, none⟩) (by simp) (.slice A3 r.globals.length c3)).setCell (p := ⟨w.heap.size + 2, 4, none⟩) (by simp) (.string r.aC)).setCell (p := ⟨w.heap.size + 2, 5, none⟩) (by simp) (.int .i64 r.aD))
 replace HR0 := zh (HR0.o.keep Zq.is (fun _ h => h) ((((Ze.later (F := _) (Za.refl w3)).set (B := w.heap.size + 2) (by have := HM0.o; have := HM1.o; have := HM2.o; have := HM3.o; omega) 3 (.slice A3 r.globals.length c3)).set (B := w.heap.size + 2) (by have := HM0.o; have := HM1.o; have := HM2.o; have := HM3.o; omega) 4 (.string r.aC)).set (B := w.heap.size + 2) (by have := HM0.o; have := HM1.o; have := HM2.o; have := HM3.o; omega) 5 (.int .i64 r.aD)));replace HR1 := zh (HR1.o.keep Zt.is (fun _ h => h) ((((Ze.later (F := _) (Za.refl w3)).set (B := w.heap.size + 2) (by have := HM0.o; have := HM1.o; have := HM2.o; have := HM3.o; omega) 3 (.slice A3 r.globals.length c3)).set (B := w.heap.size + 2) (by have := HM0.o; have := HM1.o; have := HM2.o; have := HM3.o; omega) 4 (.string r.aC)).set (B := w.heap.size + 2) (by have := HM0.o; have := HM1.o; have := HM2.o; have := HM3.o; omega) 5 (.int .i64 r.aD)));replace HR2 := zh (HR2.o.keep Z7.is (fun _ h => h) ((((Ze.later (F := _) (Za.refl w3)).set (B := w.heap.size + 2) (by have := HM0.o; have := HM1.o; have := HM2.o; have := HM3.o; omega) 3 (.slice A3 r.globals.length c3)).set (B := w.heap.size + 2) (by have := HM0.o; have := HM1.o; have := HM2.o; have := HM3.o; omega) 4 (.string r.aC)).set (B := w.heap.size + 2) (by have := HM0.o; have := HM1.o; have := HM2.o; have := HM3.o; omega) 5 (.int .i64 r.aD)));replace HR3 := zh (HR3.o.keep Zl.is (fun _ h => h) ((((Ze.later (F := _) (Za.refl w3)).set (B := w.heap.size + 2) (by have := HM0.o; have := HM1.o; have := HM2.o; have := HM3.o; omega) 3 (.slice A3 r.globals.length c3)).set (B := w.heap.size + 2) (by have := HM0.o; have := HM1.o; have := HM2.o; have := HM3.o; omega) 4 (.string r.aC)).set (B := w.heap.size + 2) (by have := HM0.o; have := HM1.o; have := HM2.o; have := HM3.o; omega) 5 (.int .i64 r.aD)))
 replace HN := zh (show w3.heap.size ≤ _ from (((((Ze.later (F := fun _ => False) (Za.refl w3)).set (B := w.heap.size + 2) (fun h => h) 3 (.slice A3 r.globals.length c3)).set (B := w.heap.size + 2) (fun h => h) 4 (.string r.aC)).set (B := w.heap.size + 2) (fun h => h) 5 (.int .i64 r.aD))).size);go_upto_region 8 with (fail);clear p0 z0 o0 fz0 fo0;have p0 := Zbb HP.o;go_wp2_with fail;have hlo := (Array.getElem?_eq_some_iff.1 HO.o).1;refine (Zef r.output aP F _ (by have := HSZ.o; omega) (Houtput.o.later Zad HB.o)).mono ?_;rintro e w6 ⟨v', rfl, hr6, hb6⟩;obtain ⟨A6, c6, rfl, _⟩ := id hr6;have HR6 := zh ((hr6.trim Zq).keep Zq.is (G := fun b => w3.heap.size ≤ b ∧ b < w6.heap.size) (fun b h => ⟨by have := h.1; have := HN.o; omega, h.2⟩) (Ze.refl _ _));have HM6 := zh (show w3.heap.size ≤ w6.heap.size from by have := HN.o; have := Below.size hb6; omega);replace HR0 := zh (HR0.o.keep Zq.is (fun _ h => h) (Ze.later hb6));replace HR1 := zh (HR1.o.keep Zt.is (fun _ h => h) (Ze.later hb6));replace HR2 := zh (HR2.o.keep Z7.is (fun _ h => h) (Ze.later hb6));replace HR3 := zh (HR3.o.keep Zl.is (fun _ h => h) (Ze.later hb6));replace HP := zC hb6 HP;replace HZ := zC hb6 HZ;replace HO := zC hb6 HO;replace HB := zh (HB.o.trans (Below.mono hb6 HB.o.size))
 clear hr6 hb6 hlo;have p0 := Zbb HP.o;have z0 := Zbb HZ.o;have o0 := Zbb HO.o;have fz0 := fz HZ.o;have fo0 := fz HO.o;replace HO := zh (Zaa (o := 6) HO.o (.slice A6 r.output.length c6));simp only [List.setIfInBounds_toArray, List.set_cons_zero, List.set_cons_succ] at HO;replace HP := zh ((Below.heap_setCell _ ⟨w.heap.size + 2, 6, none⟩ (.slice A6 r.output.length c6) _ hne1).trans HP.o);replace HZ := zh ((Below.heap_setCell _ ⟨w.heap.size + 2, 6, none⟩ (.slice A6 r.output.length c6) _ hne2).trans HZ.o);replace HB := zh (HB.o.setCell (p := ⟨w.heap.size + 2, 6, none⟩) (by simp) (.slice A6 r.output.length c6));replace HR0 := zh (HR0.o.keep Zq.is (fun _ h => h) ((Ze.later (F := _) (Za.refl w6)).set (B := w.heap.size + 2) (by have := HM0.o; have := HM1.o; have := HM2.o; have := HM3.o; have := HM6.o; omega) 6 (.slice A6 r.output.length c6)));replace HR1 := zh (HR1.o.keep Zt.is (fun _ h => h) ((Ze.later (F := _) (Za.refl w6)).set (B := w.heap.size + 2) (by have := HM0.o; have := HM1.o; have := HM2.o; have := HM3.o; have := HM6.o; omega) 6 (.slice A6 r.output.length c6)));replace HR2 := zh (HR2.o.keep Z7.is (fun _ h => h) ((Ze.later (F := _) (Za.refl w6)).set (B := w.heap.size + 2) (by have := HM0.o; have := HM1.o; have := HM2.o; have := HM3.o; have := HM6.o; omega) 6 (.slice A6 r.output.length c6)))
 replace HR3 := zh (HR3.o.keep Zl.is (fun _ h => h) ((Ze.later (F := _) (Za.refl w6)).set (B := w.heap.size + 2) (by have := HM0.o; have := HM1.o; have := HM2.o; have := HM3.o; have := HM6.o; omega) 6 (.slice A6 r.output.length c6)));replace HR6 := zh (HR6.o.keep Zq.is (fun _ h => h) ((Ze.later (F := _) (Za.refl w6)).set (B := w.heap.size + 2) (by have := HM0.o; have := HM1.o; have := HM2.o; have := HM3.o; have := HM6.o; omega) 6 (.slice A6 r.output.length c6)));replace HN := zh (show w6.heap.size ≤ _ from (((Ze.later (F := fun _ => False) (Za.refl w6)).set (B := w.heap.size + 2) (fun h => h) 6 (.slice A6 r.output.length c6))).size);go_upto_region 9 with (fail);clear p0 z0 o0 fz0 fo0;have p0 := Zbb HP.o;go_wp2_with fail;have hlo := (Array.getElem?_eq_some_iff.1 HO.o).1;refine (Zef r.trace aQ F _ (by have := HSZ.o; omega) (Htrace.o.later Zad HB.o)).mono ?_;rintro e w7 ⟨v', rfl, hr7, hb7⟩;obtain ⟨A7, c7, rfl, _⟩ := id hr7;have HR7 := zh ((hr7.trim Zq).keep Zq.is (G := fun b => w6.heap.size ≤ b ∧ b < w7.heap.size) (fun b h => ⟨by have := h.1; have := HN.o; omega, h.2⟩) (Ze.refl _ _));have HM7 := zh (show w6.heap.size ≤ w7.heap.size from by have := HN.o; have := Below.size hb7; omega);replace HR0 := zh (HR0.o.keep Zq.is (fun _ h => h) (Ze.later hb7))
 replace HR1 := zh (HR1.o.keep Zt.is (fun _ h => h) (Ze.later hb7));replace HR2 := zh (HR2.o.keep Z7.is (fun _ h => h) (Ze.later hb7));replace HR3 := zh (HR3.o.keep Zl.is (fun _ h => h) (Ze.later hb7));replace HR6 := zh (HR6.o.keep Zq.is (fun _ h => h) (Ze.later hb7));replace HP := zC hb7 HP;replace HZ := zC hb7 HZ;replace HO := zC hb7 HO;replace HB := zh (HB.o.trans (Below.mono hb7 HB.o.size));clear hr7 hb7 hlo;have p0 := Zbb HP.o;have z0 := Zbb HZ.o;have o0 := Zbb HO.o;have fz0 := fz HZ.o;have fo0 := fz HO.o;replace HO := zh (Zaa (o := 7) HO.o (.slice A7 r.trace.length c7));simp only [List.setIfInBounds_toArray, List.set_cons_zero, List.set_cons_succ] at HO;replace HP := zh ((Below.heap_setCell _ ⟨w.heap.size + 2, 7, none⟩ (.slice A7 r.trace.length c7) _ hne1).trans HP.o);replace HZ := zh ((Below.heap_setCell _ ⟨w.heap.size + 2, 7, none⟩ (.slice A7 r.trace.length c7) _ hne2).trans HZ.o);replace HB := zh (HB.o.setCell (p := ⟨w.heap.size + 2, 7, none⟩) (by simp) (.slice A7 r.trace.length c7));replace HR0 := zh (HR0.o.keep Zq.is (fun _ h => h) ((Ze.later (F := _) (Za.refl w7)).set (B := w.heap.size + 2) (by have := HM0.o; have := HM1.o; have := HM2.o; have := HM3.o; have := HM6.o; have := HM7.o; omega) 7 (.slice A7 r.trace.length c7)));replace HR1 := zh (HR1.o.keep Zt.is (fun _ h => h) ((Ze.later (F := _) (Za.refl w7)).set (B := w.heap.size + 2) (by have := HM0.o; have := HM1.o; have := HM2.o; have := HM3.o; have := HM6.o; have := HM7.o; omega) 7 (.slice A7 r.trace.length c7)))
 replace HR2 := zh (HR2.o.keep Z7.is (fun _ h => h) ((Ze.later (F := _) (Za.refl w7)).set (B := w.heap.size + 2) (by have := HM0.o; have := HM1.o; have := HM2.o; have := HM3.o; have := HM6.o; have := HM7.o; omega) 7 (.slice A7 r.trace.length c7)));replace HR3 := zh (HR3.o.keep Zl.is (fun _ h => h) ((Ze.later (F := _) (Za.refl w7)).set (B := w.heap.size + 2) (by have := HM0.o; have := HM1.o; have := HM2.o; have := HM3.o; have := HM6.o; have := HM7.o; omega) 7 (.slice A7 r.trace.length c7)));replace HR6 := zh (HR6.o.keep Zq.is (fun _ h => h) ((Ze.later (F := _) (Za.refl w7)).set (B := w.heap.size + 2) (by have := HM0.o; have := HM1.o; have := HM2.o; have := HM3.o; have := HM6.o; have := HM7.o; omega) 7 (.slice A7 r.trace.length c7)));replace HR7 := zh (HR7.o.keep Zq.is (fun _ h => h) ((Ze.later (F := _) (Za.refl w7)).set (B := w.heap.size + 2) (by have := HM0.o; have := HM1.o; have := HM2.o; have := HM3.o; have := HM6.o; have := HM7.o; omega) 7 (.slice A7 r.trace.length c7)));replace HN := zh (show w7.heap.size ≤ _ from (((Ze.later (F := fun _ => False) (Za.refl w7)).set (B := w.heap.size + 2) (fun h => h) 7 (.slice A7 r.trace.length c7))).size);go_upto_region 10 with (fail);clear p0 z0 o0 fz0 fo0;have p0 := Zbb HP.o;go_wp2_with fail;have hlo := (Array.getElem?_eq_some_iff.1 HO.o).1
 refine (Zlt r.aE aR F _ (by have := HSZ.o; omega) (Hactives.o.later Zbd HB.o)).mono ?_;rintro e w8 ⟨v', rfl, hr8, hb8⟩;obtain ⟨A8, c8, rfl, _⟩ := id hr8;have HR8 := zh ((hr8.trim Zaq).keep Zaq.is (G := fun b => w7.heap.size ≤ b ∧ b < w8.heap.size) (fun b h => ⟨by have := h.1; have := HN.o; omega, h.2⟩) (Ze.refl _ _));have HM8 := zh (show w7.heap.size ≤ w8.heap.size from by have := HN.o; have := Below.size hb8; omega);replace HR0 := zh (HR0.o.keep Zq.is (fun _ h => h) (Ze.later hb8));replace HR1 := zh (HR1.o.keep Zt.is (fun _ h => h) (Ze.later hb8));replace HR2 := zh (HR2.o.keep Z7.is (fun _ h => h) (Ze.later hb8));replace HR3 := zh (HR3.o.keep Zl.is (fun _ h => h) (Ze.later hb8));replace HR6 := zh (HR6.o.keep Zq.is (fun _ h => h) (Ze.later hb8));replace HR7 := zh (HR7.o.keep Zq.is (fun _ h => h) (Ze.later hb8));replace HP := zC hb8 HP;replace HZ := zC hb8 HZ;replace HO := zC hb8 HO;replace HB := zh (HB.o.trans (Below.mono hb8 HB.o.size));clear hr8 hb8 hlo;have p0 := Zbb HP.o;have z0 := Zbb HZ.o;have o0 := Zbb HO.o;have fz0 := fz HZ.o;have fo0 := fz HO.o;replace HO := zh (Zaa (o := 12) (Zaa (o := 11) (Zaa (o := 10) (Zaa (o := 9) (Zaa (o := 8) HO.o (.slice A8 r.aE.length c8)) (.bool r.aF)) (.int .i64 r.ticks)) (.int .i64 r.aG)) (.int .i64 r.made))
 simp only [List.setIfInBounds_toArray, List.set_cons_zero, List.set_cons_succ] at HO;replace HP := zh ((Below.heap_setCell _ ⟨w.heap.size + 2, 12, none⟩ (.int .i64 r.made) _ hne1).trans ((Below.heap_setCell _ ⟨w.heap.size + 2, 11, none⟩ (.int .i64 r.aG) _ hne1).trans ((Below.heap_setCell _ ⟨w.heap.size + 2, 10, none⟩ (.int .i64 r.ticks) _ hne1).trans ((Below.heap_setCell _ ⟨w.heap.size + 2, 9, none⟩ (.bool r.aF) _ hne1).trans ((Below.heap_setCell _ ⟨w.heap.size + 2, 8, none⟩ (.slice A8 r.aE.length c8) _ hne1).trans HP.o)))));replace HZ := zh ((Below.heap_setCell _ ⟨w.heap.size + 2, 12, none⟩ (.int .i64 r.made) _ hne2).trans ((Below.heap_setCell _ ⟨w.heap.size + 2, 11, none⟩ (.int .i64 r.aG) _ hne2).trans ((Below.heap_setCell _ ⟨w.heap.size + 2, 10, none⟩ (.int .i64 r.ticks) _ hne2).trans ((Below.heap_setCell _ ⟨w.heap.size + 2, 9, none⟩ (.bool r.aF) _ hne2).trans ((Below.heap_setCell _ ⟨w.heap.size + 2, 8, none⟩ (.slice A8 r.aE.length c8) _ hne2).trans HZ.o)))));replace HB := zh (((((HB.o.setCell (p := ⟨w.heap.size + 2, 8, none⟩) (by simp) (.slice A8 r.aE.length c8)).setCell (p := ⟨w.heap.size + 2, 9, none⟩) (by simp) (.bool r.aF)).setCell (p := ⟨w.heap.size + 2, 10, none⟩) (by simp) (.int .i64 r.ticks)).setCell (p := ⟨w.heap.size + 2, 11, none⟩) (by simp) (.int .i64 r.aG)).setCell (p := ⟨w.heap.size + 2, 12, none⟩) (by simp) (.int .i64 r.made));replace HR0 := zh (HR0.o.keep Zq.is (fun _ h => h) ((((((Ze.later (F := _) (Za.refl w8)).set (B := w.heap.size + 2) (by have := HM0.o; have := HM1.o; have := HM2.o; have := HM3.o; have := HM6.o; have := HM7.o; have := HM8.o; omega) 8 (.slice A8 r.aE.length c8)).set (B := w.heap.size + 2) (by have := HM0.o; have := HM1.o; have := HM2.o; have := HM3.o; have := HM6.o; have := HM7.o; have := HM8.o; omega) 9 (.bool r.aF)).set (B := w.heap.size + 2) (by have := HM0.o; have := HM1.o; have := HM2.o; have := HM3.o; have := HM6.o; have := HM7.o; have := HM8.o; omega) 10 (.int .i64 r.ticks)).set (B := w.heap.size + 2) (by have := HM0.o; have := HM1.o; have := HM2.o; have := HM3.o; have := HM6.o; have := HM7.o; have := HM8.o; omega) 11 (.int .i64 r.aG)).set (B := w.heap.size + 2) (by have := HM0.o; have := HM1.o; have := HM2.o; have := HM3.o; have := HM6.o; have := HM7.o; have := HM8.o; omega) 12 (.int .i64 r.made)))
 replace HR1 := zh (HR1.o.keep Zt.is (fun _ h => h) ((((((Ze.later (F := _) (Za.refl w8)).set (B := w.heap.size + 2) (by have := HM0.o; have := HM1.o; have := HM2.o; have := HM3.o; have := HM6.o; have := HM7.o; have := HM8.o; omega) 8 (.slice A8 r.aE.length c8)).set (B := w.heap.size + 2) (by have := HM0.o; have := HM1.o; have := HM2.o; have := HM3.o; have := HM6.o; have := HM7.o; have := HM8.o; omega) 9 (.bool r.aF)).set (B := w.heap.size + 2) (by have := HM0.o; have := HM1.o; have := HM2.o; have := HM3.o; have := HM6.o; have := HM7.o; have := HM8.o; omega) 10 (.int .i64 r.ticks)).set (B := w.heap.size + 2) (by have := HM0.o; have := HM1.o; have := HM2.o; have := HM3.o; have := HM6.o; have := HM7.o; have := HM8.o; omega) 11 (.int .i64 r.aG)).set (B := w.heap.size + 2) (by have := HM0.o; have := HM1.o; have := HM2.o; have := HM3.o; have := HM6.o; have := HM7.o; have := HM8.o; omega) 12 (.int .i64 r.made)));replace HR2 := zh (HR2.o.keep Z7.is (fun _ h => h) ((((((Ze.later (F := _) (Za.refl w8)).set (B := w.heap.size + 2) (by have := HM0.o; have := HM1.o; have := HM2.o; have := HM3.o; have := HM6.o; have := HM7.o; have := HM8.o; omega) 8 (.slice A8 r.aE.length c8)).set (B := w.heap.size + 2) (by have := HM0.o; have := HM1.o; have := HM2.o; have := HM3.o; have := HM6.o; have := HM7.o; have := HM8.o; omega) 9 (.bool r.aF)).set (B := w.heap.size + 2) (by have := HM0.o; have := HM1.o; have := HM2.o; have := HM3.o; have := HM6.o; have := HM7.o; have := HM8.o; omega) 10 (.int .i64 r.ticks)).set (B := w.heap.size + 2) (by have := HM0.o; have := HM1.o; have := HM2.o; have := HM3.o; have := HM6.o; have := HM7.o; have := HM8.o; omega) 11 (.int .i64 r.aG)).set (B := w.heap.size + 2) (by have := HM0.o; have := HM1.o; have := HM2.o; have := HM3.o; have := HM6.o; have := HM7.o; have := HM8.o; omega) 12 (.int .i64 r.made)))
 replace HR3 := zh (HR3.o.keep Zl.is (fun _ h => h) ((((((Ze.later (F := _) (Za.refl w8)).set (B := w.heap.size + 2) (by have := HM0.o; have := HM1.o; have := HM2.o; have := HM3.o; have := HM6.o; have := HM7.o; have := HM8.o; omega) 8 (.slice A8 r.aE.length c8)).set (B := w.heap.size + 2) (by have := HM0.o; have := HM1.o; have := HM2.o; have := HM3.o; have := HM6.o; have := HM7.o; have := HM8.o; omega) 9 (.bool r.aF)).set (B := w.heap.size + 2) (by have := HM0.o; have := HM1.o; have := HM2.o; have := HM3.o; have := HM6.o; have := HM7.o; have := HM8.o; omega) 10 (.int .i64 r.ticks)).set (B := w.heap.size + 2) (by have := HM0.o; have := HM1.o; have := HM2.o; have := HM3.o; have := HM6.o; have := HM7.o; have := HM8.o; omega) 11 (.int .i64 r.aG)).set (B := w.heap.size + 2) (by have := HM0.o; have := HM1.o; have := HM2.o; have := HM3.o; have := HM6.o; have := HM7.o; have := HM8.o; omega) 12 (.int .i64 r.made)));replace HR6 := zh (HR6.o.keep Zq.is (fun _ h => h) ((((((Ze.later (F := _) (Za.refl w8)).set (B := w.heap.size + 2) (by have := HM0.o; have := HM1.o; have := HM2.o; have := HM3.o; have := HM6.o; have := HM7.o; have := HM8.o; omega) 8 (.slice A8 r.aE.length c8)).set (B := w.heap.size + 2) (by have := HM0.o; have := HM1.o; have := HM2.o; have := HM3.o; have := HM6.o; have := HM7.o; have := HM8.o; omega) 9 (.bool r.aF)).set (B := w.heap.size + 2) (by have := HM0.o; have := HM1.o; have := HM2.o; have := HM3.o; have := HM6.o; have := HM7.o; have := HM8.o; omega) 10 (.int .i64 r.ticks)).set (B := w.heap.size + 2) (by have := HM0.o; have := HM1.o; have := HM2.o; have := HM3.o; have := HM6.o; have := HM7.o; have := HM8.o; omega) 11 (.int .i64 r.aG)).set (B := w.heap.size + 2) (by have := HM0.o; have := HM1.o; have := HM2.o; have := HM3.o; have := HM6.o; have := HM7.o; have := HM8.o; omega) 12 (.int .i64 r.made)))
 replace HR7 := zh (HR7.o.keep Zq.is (fun _ h => h) ((((((Ze.later (F := _) (Za.refl w8)).set (B := w.heap.size + 2) (by have := HM0.o; have := HM1.o; have := HM2.o; have := HM3.o; have := HM6.o; have := HM7.o; have := HM8.o; omega) 8 (.slice A8 r.aE.length c8)).set (B := w.heap.size + 2) (by have := HM0.o; have := HM1.o; have := HM2.o; have := HM3.o; have := HM6.o; have := HM7.o; have := HM8.o; omega) 9 (.bool r.aF)).set (B := w.heap.size + 2) (by have := HM0.o; have := HM1.o; have := HM2.o; have := HM3.o; have := HM6.o; have := HM7.o; have := HM8.o; omega) 10 (.int .i64 r.ticks)).set (B := w.heap.size + 2) (by have := HM0.o; have := HM1.o; have := HM2.o; have := HM3.o; have := HM6.o; have := HM7.o; have := HM8.o; omega) 11 (.int .i64 r.aG)).set (B := w.heap.size + 2) (by have := HM0.o; have := HM1.o; have := HM2.o; have := HM3.o; have := HM6.o; have := HM7.o; have := HM8.o; omega) 12 (.int .i64 r.made)));replace HR8 := zh (HR8.o.keep Zaq.is (fun _ h => h) ((((((Ze.later (F := _) (Za.refl w8)).set (B := w.heap.size + 2) (by have := HM0.o; have := HM1.o; have := HM2.o; have := HM3.o; have := HM6.o; have := HM7.o; have := HM8.o; omega) 8 (.slice A8 r.aE.length c8)).set (B := w.heap.size + 2) (by have := HM0.o; have := HM1.o; have := HM2.o; have := HM3.o; have := HM6.o; have := HM7.o; have := HM8.o; omega) 9 (.bool r.aF)).set (B := w.heap.size + 2) (by have := HM0.o; have := HM1.o; have := HM2.o; have := HM3.o; have := HM6.o; have := HM7.o; have := HM8.o; omega) 10 (.int .i64 r.ticks)).set (B := w.heap.size + 2) (by have := HM0.o; have := HM1.o; have := HM2.o; have := HM3.o; have := HM6.o; have := HM7.o; have := HM8.o; omega) 11 (.int .i64 r.aG)).set (B := w.heap.size + 2) (by have := HM0.o; have := HM1.o; have := HM2.o; have := HM3.o; have := HM6.o; have := HM7.o; have := HM8.o; omega) 12 (.int .i64 r.made)))
 replace HN := zh (show w8.heap.size ≤ _ from (((((((Ze.later (F := fun _ => False) (Za.refl w8)).set (B := w.heap.size + 2) (fun h => h) 8 (.slice A8 r.aE.length c8)).set (B := w.heap.size + 2) (fun h => h) 9 (.bool r.aF)).set (B := w.heap.size + 2) (fun h => h) 10 (.int .i64 r.ticks)).set (B := w.heap.size + 2) (fun h => h) 11 (.int .i64 r.aG)).set (B := w.heap.size + 2) (fun h => h) 12 (.int .i64 r.made))).size);go_upto_region 15 with (fail);clear p0 z0 o0 fz0 fo0;obtain ⟨wf, hwf⟩ : ∃ wf, wf = (((((w8.setCell ⟨w.heap.size + 2, 8, none⟩ (.slice A8 r.aE.length c8)).setCell ⟨w.heap.size + 2, 9, none⟩ (.bool r.aF)).setCell ⟨w.heap.size + 2, 10, none⟩ (.int .i64 r.ticks)).setCell ⟨w.heap.size + 2, 11, none⟩ (.int .i64 r.aG)).setCell ⟨w.heap.size + 2, 12, none⟩ (.int .i64 r.made)) := ⟨_, rfl⟩;rw [← hwf] at HO HP HZ HB HR0 HR1 HR2 HR3 HR6 HR7 HR8 ⊢;clear hwf;have z0 := Zbb HZ.o;have o0 := Zbb HO.o;have fz0 := fz HZ.o;go_wp2_with fail;refine bodyPost_ret (v := .agg #[.slice A0 r.names.length c0, .slice A1 r.aB.length c1, .slice A2 r.aA.length c2, .slice A3 r.globals.length c3, .string r.aC, .int .i64 r.aD, .slice A6 r.output.length c6, .slice A7 r.trace.length c7, .slice A8 r.aE.length c8, .bool r.aF, .int .i64 r.ticks, .int .i64 r.aG, .int .i64 r.made]) (by simp [results, Tryz.results18, go_sem, z0, o0, fz0, hne3]) rfl ⟨[.slice A0 r.names.length c0, .slice A1 r.aB.length c1, .slice A2 r.aA.length c2, .slice A3 r.globals.length c3, .string r.aC, .int .i64 r.aD, .slice A6 r.output.length c6, .slice A7 r.trace.length c7, .slice A8 r.aE.length c8, .bool r.aF, .int .i64 r.ticks, .int .i64 r.aG, .int .i64 r.made], rfl, ?_, (((((((((((((HB.o.setCell (p := ⟨w.heap.size + 1, 0, none⟩) (by simp) _).setCell (p := ⟨w.heap.size + 1, 1, none⟩) (by simp) _).setCell (p := ⟨w.heap.size + 1, 2, none⟩) (by simp) _).setCell (p := ⟨w.heap.size + 1, 3, none⟩) (by simp) _).setCell (p := ⟨w.heap.size + 1, 4, none⟩) (by simp) _).setCell (p := ⟨w.heap.size + 1, 5, none⟩) (by simp) _).setCell (p := ⟨w.heap.size + 1, 6, none⟩) (by simp) _).setCell (p := ⟨w.heap.size + 1, 7, none⟩) (by simp) _).setCell (p := ⟨w.heap.size + 1, 8, none⟩) (by simp) _).setCell (p := ⟨w.heap.size + 1, 9, none⟩) (by simp) _).setCell (p := ⟨w.heap.size + 1, 10, none⟩) (by simp) _).setCell (p := ⟨w.heap.size + 1, 11, none⟩) (by simp) _).setCell (p := ⟨w.heap.size + 1, 12, none⟩) (by simp) _)⟩
 have := HM0.o; have := HM1.o; have := HM2.o; have := HM3.o; have := HM6.o; have := HM7.o; have := HM8.o;have kk := Zaf (F := fun y => y ≠ w.heap.size + 1) (fun h => h rfl) [.slice A0 r.names.length c0, .slice A1 r.aB.length c1, .slice A2 r.aA.length c2, .slice A3 r.globals.length c3, .string r.aC, .int .i64 r.aD, .slice A6 r.output.length c6, .slice A7 r.trace.length c7, .slice A8 r.aE.length c8, .bool r.aF, .int .i64 r.ticks, .int .i64 r.aG, .int .i64 r.made] wf 0 (Ze.refl _ _);simp only [Zz, Nat.zero_add, Nat.reduceAdd] at kk;exact ⟨(fun y => if y < w0.heap.size then 0 else if y < w1.heap.size then 1 else if y < w2.heap.size then 2 else if y < w3.heap.size then 3 else if y < w6.heap.size then 4 else if y < w7.heap.size then 5 else (6 : Nat)), _, _, _, _, _, _, _, rfl, HR0.o.keep Zq.is (fun b h => ⟨by have := h.1; omega, by have := h.1; have := h.2; dsimp only; (repeat' split) <;> omega⟩) (kk.mono fun b h => by have := h.1; have := h.2; omega), HR1.o.keep Zt.is (fun b h => ⟨by have := h.1; omega, by have := h.1; have := h.2; dsimp only; (repeat' split) <;> omega⟩) (kk.mono fun b h => by have := h.1; have := h.2; omega), HR2.o.keep Z7.is (fun b h => ⟨by have := h.1; omega, by have := h.1; have := h.2; dsimp only; (repeat' split) <;> omega⟩) (kk.mono fun b h => by have := h.1; have := h.2; omega), HR3.o.keep Zl.is (fun b h => ⟨by have := h.1; omega, by have := h.1; have := h.2; dsimp only; (repeat' split) <;> omega⟩) (kk.mono fun b h => by have := h.1; have := h.2; omega), Hsubject.o, Hposition.o, HR6.o.keep Zq.is (fun b h => ⟨by have := h.1; omega, by have := h.1; have := h.2; dsimp only; (repeat' split) <;> omega⟩) (kk.mono fun b h => by have := h.1; have := h.2; omega), HR7.o.keep Zq.is (fun b h => ⟨by have := h.1; omega, by have := h.1; have := h.2; dsimp only; (repeat' split) <;> omega⟩) (kk.mono fun b h => by have := h.1; have := h.2; omega), HR8.o.keep Zaq.is (fun b h => ⟨by have := h.1; omega, by have := h.1; have := h.2; dsimp only; (repeat' split) <;> omega⟩) (kk.mono fun b h => by have := h.1; have := h.2; omega), Hticks.o, Hbudget.o, Hmade.o⟩
end Go.Proofs.YtpmhelkiicigfaaGreatDoor
namespace Go.Proofs.YtpmhelkiicigfaaGreatDoor
open Go.RowKit
/-- The call's own row, perhaps cut: its block may be greater than its capacity says. -/
def Zc0 (w : World) (base : Nat) (e : TypeId) (size : Nat) (v : Value) (n : Nat) (xs : List Value) : Prop :=
 xs.length = n * size ∧
 ((v = .slice none 0 0 ∧ n = 0) ∨
  ∃ g cap cur, v = .slice (some ⟨g, 0, none⟩) n cap ∧ base ≤ g ∧ w.heap[g]? = some (.cells cur e (0, 0)) ∧ n ≤ cap ∧ cap ≤ maxLen ∧ cap * size ≤ cur.size ∧ cur.toList.take (n * size) = xs)
section
variable {w : World} {base : Nat} {e : TypeId} {size : Nat} {v : Value} {n : Nat} {xs : List Value}
theorem Zc0.nil (w : World) (base : Nat) (e : TypeId) (size : Nat) : Zc0 w base e size (.slice none 0 0) 0 [] := ⟨by simp, .inl ⟨rfl, rfl⟩⟩
theorem Zc0.lt (h : Zc0 w base e size v n xs) : ∀ k, v.ownBlock = some k → base ≤ k ∧ k < w.heap.size ∧ ∃ cur, w.heap[k]? = some (.cells cur e (0, 0)) := by
 intro k hk
 rcases h.2 with ⟨rfl, _⟩ | ⟨g, cap, cur, rfl, hb, hg, _⟩
 ·simp [Value.ownBlock] at hk
 ·simp [Value.ownBlock] at hk;subst hk;exact ⟨hb, (Array.getElem?_eq_some_iff.1 hg).1, cur, hg⟩
/-- The row's own block is as it was. -/
theorem Zc0.same {w' : World} (h : Zc0 w base e size v n xs) (hs : ∀ k, v.ownBlock = some k → w'.heap[k]? = w.heap[k]?) : Zc0 w' base e size v n xs := by
 refine ⟨h.1, ?_⟩
 rcases h.2 with hn | ⟨g, cap, cur, rfl, hb, hgg, rest⟩
 ·exact .inl hn
 ·refine .inr ⟨g, cap, cur, rfl, hb, ?_, rest⟩;rw [hs g rfl];exact hgg
theorem Zc0.cells (h : Zc0 w base e size v n xs) {g : Nat} (hg : v.ownBlock = some g) : ∀ j u, xs[j]? = some u → w.cell? ⟨g, j, none⟩ = some u := by
 intro j u hu
 rcases h.2 with ⟨rfl, _⟩ | ⟨g', cap, cur, rfl, _, hgg, _, _, _, htake⟩
 ·simp [Value.ownBlock] at hg
 ·simp [Value.ownBlock] at hg;subst hg;rw [cell_of_row w g' j cur e (0, 0) hgg];rw [← htake, List.getElem?_take] at hu
  split at hu
  ·simpa using hu
  ·cases hu
theorem Zc0.form (h : Zc0 w base e size v n xs) : ∃ A cap, v = .slice A n cap ∧ n ≤ cap ∧ cap ≤ maxLen := by
 rcases h.2 with ⟨rfl, rfl⟩ | ⟨g, cap, cur, rfl, hb, _, h1, h2, _⟩
 ·exact ⟨none, 0, rfl, Nat.le_refl _, Nat.zero_le _⟩
 ·exact ⟨_, cap, rfl, h1, h2⟩
/-- Cut to its first k Zo4, with whatever capacity up to its own. -/
theorem Zc0.cut {g cap k c : Nat} (h : Zc0 w base e size (.slice (some ⟨g, 0, none⟩) n cap) n xs) (hk : k ≤ n) (hc : k ≤ c) (hcc : c ≤ cap) : Zc0 w base e size (.slice (some ⟨g, 0, none⟩) k c) k (xs.take (k * size)) := by
 rcases h.2 with ⟨h0, _⟩ | ⟨g', cap', cur, hv, hb, hg, h1, h2, h3, h4⟩
 ·cases h0
 ·cases hv
  have hks : k * size ≤ n * size := Nat.mul_le_mul_right _ hk;refine ⟨by rw [List.length_take, h.1]; omega, .inr ⟨g, c, cur, rfl, hb, hg, hc, by omega, Nat.le_trans (Nat.mul_le_mul_right _ hcc) h3, ?_⟩⟩;rw [← h4, List.take_take, Nat.min_eq_left hks]
end
section
variable {P : Program} (w : World)
end
end Go.Proofs.YtpmhelkiicigfaaGreatDoor
namespace Go.Proofs.YtpmhelkiicigfaaGreatDoor
open Go.RowKit
/-- Things without rows in them, each cell of one value. -/
structure Zwo {α : Type} (El : Zbt α) (size : Nat) : Prop where
 is : Zcx El size
 any : ∀ {F G : Nat → Prop} {w x a cs}, El F w a cs → El G x a cs
 one : ∀ {F w a cs}, El F w a cs → ∀ u ∈ cs, u.oneCell' = true
theorem Zwo.sp {α : Type} {El : Zbt α} {size : Nat} (h : Zwo El size) : Zfg El El size := Zkm h.is fun h' => h.any h'
theorem Zv3 (b o i : Nat) : (⟨b, o, none⟩ : Addr).add i = ⟨b, o + i, none⟩ := by unfold Addr.add; split <;> simp_all
section
variable {P : Program} {α : Type} {El : Zbt α} {size : Nat} {F : Nat → Prop} {l : List α} {v : Value}
end
/-! ### A row that grows thing by thing -/
structure Zgs {α : Type} (S : Zbt α) (size : Nat) (T : TypeId) (base : Nat) (l : List α) (v : Value) (w : World) (xs : List Value) (tag : Nat → Nat) : Prop where
 row : Zc0 w base T size v l.length xs
 el : ∀ i (h : i < l.length), ∃ cs, S (fun y => (base ≤ y ∧ y < w.heap.size ∧ v.ownBlock ≠ some y) ∧ tag y = i) w l[i] cs ∧ ∀ q x, cs[q]? = some x → xs[i * size + q]? = some x
def Zk5 {α : Type} (S : Zbt α) (size : Nat) (T : TypeId) (base : Nat) (l : List α) (v : Value) (w : World) : Prop := ∃ xs tag, Zgs S size T base l v w xs tag
section
variable {α : Type} {S El : Zbt α} {size : Nat} {T : TypeId} {base : Nat} {l : List α} {v : Value} {w x : World} {xs : List Value} {tag : Nat → Nat}
theorem Zk5.nil (w : World) : Zk5 S size T base ([] : List α) (.slice none 0 0) w := ⟨[], fun _ => 0, ⟨Zc0.nil _ _ _ _, fun i h => by simp at h⟩⟩
theorem Zgs.keep (hE : Zcx S size) (h : Zgs S size T base l v w xs tag) (hk : Ze (fun y => base ≤ y ∧ y < w.heap.size) w x) : Zgs S size T base l v x xs tag := by
 refine ⟨h.row.same fun k hk' => hk.same k ⟨(h.row.lt k hk').1, (h.row.lt k hk').2.1⟩ (h.row.lt k hk').2.1, fun i hi => ?_⟩;obtain ⟨cs, hs, hc⟩ := h.el i hi;exact ⟨cs, hE.keep hs (fun y hy => ⟨⟨hy.1.1, Nat.lt_of_lt_of_le hy.1.2.1 hk.size, hy.1.2.2⟩, hy.2⟩) (hk.mono fun y hy => ⟨hy.1.1, hy.1.2.1⟩), hc⟩
theorem Zk5.keep (hE : Zcx S size) (h : Zk5 S size T base l v w) (hk : Ze (fun y => base ≤ y ∧ y < w.heap.size) w x) : Zk5 S size T base l v x := by
 obtain ⟨xs, tag, h⟩ := h;exact ⟨xs, tag, h.keep hE hk⟩
theorem Zk5.later (hE : Zcx S size) (h : Zk5 S size T base l v w) (hl : Za w x) : Zk5 S size T base l v x := h.keep hE (Ze.later hl)
/-- One more: wr the world when the thing was begun, w the world ahead of append, x behind it. -/
theorem Zgs.push {wr : World} (hE : Zfg S El size) (h : Zgs S size T base l v wr xs tag) (hk : Ze (fun y => base ≤ y ∧ y < wr.heap.size) wr w) (hb : base ≤ wr.heap.size) {a : α} {cs : List Value}
  (he : S (fun y => wr.heap.size ≤ y) w a cs) {v' : Value} (hown : Zc0 x base T size v' (l.length + 1) (xs ++ cs)) (hg : w.grownBy x v.ownBlock) (hn : v'.ownBlock = v.ownBlock ∨ v'.ownBlock = some w.heap.size) :
  Zk5 S size T base (l ++ [a]) v' x := by
 have hsz := hk.size;have hvb : ∀ k, v.ownBlock = some k → base ≤ k ∧ k < wr.heap.size := fun k e => ⟨(h.row.lt k e).1, (h.row.lt k e).2.1⟩;have hkeep : ∀ {F : Nat → Prop}, (∀ y, F y → v.ownBlock ≠ some y) → Ze F w x := fun hF => ⟨hg.size, fun b hf hl => hg.block b hl (fun e => hF b hf e.symm)⟩;refine ⟨xs ++ cs, fun y => if wr.heap.size ≤ y then l.length else tag y, by simpa using hown, fun i hi => ?_⟩
 by_cases e : i < l.length
 ·obtain ⟨cs0, hs, hc⟩ := h.el i e;rw [List.getElem_append_left e];refine ⟨cs0, hE.is.keep hs (fun y hy => ⟨⟨hy.1.1, by have := hg.size; omega, ?_⟩, ?_⟩) ((hk.mono fun y hy => ⟨hy.1.1, hy.1.2.1⟩).trans (hkeep fun y hy => hy.1.2.2)), fun q z hq => ?_⟩
  ·intro h2
   rcases hn with h3 | h3
   ·exact hy.1.2.2 (h3.symm.trans h2)
   ·rw [h3] at h2; cases h2; have := hy.1.2.1; omega
  ·show (if wr.heap.size ≤ y then l.length else tag y) = i;rw [if_neg (by omega)]; exact hy.2
  ·have := hc q z hq;rw [List.getElem?_append_left (List.getElem?_eq_some_iff.1 this).1];exact this
 ·have hil : i = l.length := by simp at hi; omega
  subst hil;rw [List.getElem_append_right (Nat.le_refl _)];simp only [Nat.sub_self, List.getElem_cons_zero];refine ⟨cs, hE.is.keep (hE.trim he) (fun y hy => ⟨⟨by omega, by have := hg.size; omega, ?_⟩, ?_⟩) (hkeep fun y hy h2 => by have := (hvb y h2).2; omega), fun q z hq => ?_⟩
  ·intro h2
   rcases hn with h3 | h3
   ·have := (hvb y (h3.symm.trans h2)).2; omega
   ·rw [h3] at h2; cases h2; omega
  ·show (if wr.heap.size ≤ y then l.length else tag y) = l.length;rw [if_pos hy.1]
  ·rw [← h.row.1, List.getElem?_append_right (by omega)]
   simpa using hq
theorem Zk5.row (hE : Zfg S El size) (h : Zk5 S size T base l v w) : Zbe S size T (fun b => base ≤ b) w l v := by
 obtain ⟨xs, tag, h⟩ := h
 rcases h.row.2 with ⟨rfl, h0⟩ | ⟨g, cap, cur, rfl, hb, hg, h1, h2, h3, h4⟩
 ·exact ⟨none, 0, by rw [h0], by omega, Nat.zero_le _, fun hp => by omega⟩
 ·refine ⟨_, cap, rfl, h1, h2, fun _ => ⟨g, 0, cur, tag, rfl, hb, hg, ⟨rfl, by omega⟩, fun i hi => ?_⟩⟩;obtain ⟨cs, hs, hc⟩ := h.el i hi;refine ⟨cs, hE.is.keep hs (fun y hy => ⟨⟨hy.1.1, fun e => hy.1.2.2 (by rw [e]; rfl)⟩, hy.2⟩) (Ze.refl _ _), fun q x hq => ?_⟩;have := hc q x hq;rw [← h4, List.getElem?_take] at this
  split at this
  ·rw [Nat.zero_add]; simpa using this
  ·cases this
end
end Go.Proofs.YtpmhelkiicigfaaGreatDoor
namespace Go.Proofs.YtpmhelkiicigfaaGreatDoor
open Go.RowKit
theorem Za8 {w : World} {o : Array Value} {T : TypeId} {k : Nat} (h : k = w.heap.size) : (w.alloc (.cells o T)).heap[k]? = some (.cells o T (0, 0)) := by subst h; exact heap_alloc_new w _
theorem Zfc (w : World) (l : List Value) (T : TypeId) : ∀ j u, l[j]? = some u → (w.alloc (.cells l.toArray T)).cell? ((⟨w.heap.size, 0, none⟩ : Addr).add j) = some u := fun j u h => by
 rw [Zv3, Nat.zero_add, cell_of_row _ _ _ _ _ _ (heap_alloc_new w _)]
 simpa using h
theorem Zgs.form {α : Type} {S : Zbt α} {size : Nat} {T : TypeId} {base : Nat} {l : List α} {v : Value} {w : World} {xs : List Value} {tag : Nat → Nat} (h : Zgs S size T base l v w xs tag) : ∃ A c, v = .slice A l.length c := by
 obtain ⟨A, c, e, _⟩ := h.row.form;exact ⟨A, c, e⟩
/-- Bit k of a 64-bit word. -/
def bit (x : Int) (k : Nat) : Bool := bits .and .u64 (IntKind.u64.wrap x / 2 ^ k) 1 == 1
theorem Zk6 (x : Int) : IntKind.u64.wrap x = ((BitVec.ofInt 64 x).toNat : Int) := by
 rw [BitVec.toNat_ofInt];have : IntKind.u64.wrap x = x % 18446744073709551616 := by rw [IntKind.wrap_u64]
 rw [this]; omega
theorem Zv4 (x : Int) (k : Nat) : bit x k = (BitVec.ofInt 64 x).getLsbD k := by
 unfold bit;rw [Zk6]
 generalize BitVec.ofInt 64 x = X
 have hX := X.isLt;have e : ((X.toNat : Int) / 2 ^ k) = ((X.toNat / 2 ^ k : Nat) : Int) := by simp
 have hle : X.toNat / 2 ^ k ≤ X.toNat := Nat.div_le_self _ _;rw [e, show (1 : Int) = ((1 : Nat) : Int) from rfl, u64_and_nat _ _ (by omega) (by omega)];rw [BitVec.getLsbD, Nat.testBit, Nat.shiftRight_eq_div_pow, Nat.and_comm]
 rcases Nat.mod_two_eq_zero_or_one (X.toNat / 2 ^ k) with h | h <;> simp [h]
theorem Zt2 (x y : Int) : bits .and .i64 x y = IntKind.i64.wrap ((BitVec.ofInt 64 x &&& BitVec.ofInt 64 y).toNat : Int) := rfl
theorem Zox (x : Int) (k : Nat) (hk : k < 64) : (bits .and .i64 x (wrap64 (2 ^ k)) != 0) = bit x k := by
 rw [Zv4, Zt2];have e : BitVec.ofInt 64 (wrap64 (2 ^ k)) = BitVec.twoPow 64 k := by
  apply BitVec.eq_of_toNat_eq
  rw [BitVec.toNat_ofInt, BitVec.toNat_twoPow];have hp : (2 : Nat) ^ k < 2 ^ 64 := Nat.pow_lt_pow_right (by decide) hk;have hc : ((2 : Int) ^ k) = ((2 ^ k : Nat) : Int) := by simp
  rw [hc];unfold wrap64;rw [Nat.mod_eq_of_lt hp]
  generalize 2 ^ k = n at *
  omega
 rw [e, BitVec.and_twoPow]
 cases h : (BitVec.ofInt 64 x).getLsbD k
 ·simp
  rfl
 ·simp only [if_true];have hp : (2 : Nat) ^ k < 2 ^ 64 := Nat.pow_lt_pow_right (by decide) hk;have hpos : 0 < (2 : Nat) ^ k := Nat.pow_pos (by decide);rw [BitVec.toNat_twoPow, Nat.mod_eq_of_lt hp, IntKind.wrap_i64]
  generalize 2 ^ k = n at *
  simp
  omega
/-- Whether the byte b is of the set. -/
def hb (lo hi b : Int) : Bool := if 127 < b then false else if b < 64 then bit lo b.toNat else bit hi (b - 64).toNat
theorem Zt3 (lo hi b : Int) (h : 127 < b) : hb lo hi b = false := by unfold hb; rw [if_pos h]
theorem Zvp (lo hi b : Int) (_h0 : 0 ≤ b) (h : b < 64) : hb lo hi b = bit lo b.toNat := by unfold hb; rw [if_neg (by omega), if_pos h]
theorem Zvq (lo hi b : Int) (h0 : 64 ≤ b) (h : b ≤ 127) : hb lo hi b = bit hi (b - 64).toNat := by unfold hb; rw [if_neg (by omega), if_neg (by omega)]
/-! ### The text of a set -/
/-- The bytes below n of the set. -/
def Zca (lo hi : Int) (n : Nat) : List UInt8 := ((List.range n).filter fun b : Nat => hb lo hi (b : Int)).map UInt8.ofNat
theorem Zir (lo hi : Int) (n : Nat) : Zca lo hi (n + 1) = Zca lo hi n ++ if hb lo hi (n : Int) then [UInt8.ofNat n] else [] := by
 unfold Zca;rw [List.range_succ, List.filter_append, List.map_append]
 congr 1
 cases h : hb lo hi (n : Int) <;> simp [h]
theorem Zgt (lo hi : Int) (n : Nat) : (Zca lo hi n).length ≤ n := by
 unfold Zca;rw [List.length_map];exact Nat.le_trans (List.length_filter_le _ _) (by simp)
theorem Zp7 : ∀ (a b : List UInt8), a.Pairwise (fun x y => x.toNat < y.toNat) → b.Pairwise (fun x y => x.toNat < y.toNat) → (∀ x, x ∈ a ↔ x ∈ b) → a = b
 | [], [], _, _, _ => rfl
 | [], y :: b, _, _, h => by have := (h y).2 (by simp); simp at this
 | x :: a, [], _, _, h => by have := (h x).1 (by simp); simp at this
 | x :: a, y :: b, ha, hb, h => by
  rw [List.pairwise_cons] at ha hb;have hxy : x = y := by
   have h1 := (h x).1 (by simp);have h2 := (h y).2 (by simp);rw [List.mem_cons] at h1 h2
   rcases h1 with h1 | h1
   ·exact h1
   ·rcases h2 with h2 | h2
    ·exact h2.symm
    ·have := ha.1 y h2; have := hb.1 x h1; omega
  subst hxy;rw [Zp7 a b ha.2 hb.2 (fun z => by
   have hz := h z;rw [List.mem_cons, List.mem_cons] at hz
   constructor
   ·intro hm
    rcases hz.1 (.inr hm) with e | e
    ·subst e; have := ha.1 z hm; omega
    ·exact e
   ·intro hm
    rcases hz.2 (.inr hm) with e | e
    ·subst e; have := hb.1 z hm; omega
    ·exact e)]
theorem Zkf (lo hi b : Int) (w : World) (h0 : 0 ≤ b) (h1 : b < 256) :
  Calls Tryz.prog 169 #[.agg #[.int .i64 lo, .int .i64 hi], .int .u8 b] w fun e w' => e = .returned (.bool (hb lo hi b)) ∧ Below w.heap.size w w' := by
 by_cases h2 : 127 < b
 ·rw [Zt3 lo hi b h2];go_enter Tryz.func169, Tryz.ntmps169
  go_wp2
  go_ret;exact ⟨rfl, (Below.refl _ _).alloc (Nat.le_refl _) _⟩
 ·by_cases h3 : b < 64
  ·have hv := zh (Zvp lo hi b h0 h3);go_enter Tryz.func169, Tryz.ntmps169
   go_wp2
   go_ret;exact ⟨by rw [hv.o]; rw [← Zox lo b.toNat (by omega)]; rfl, (Below.refl _ _).alloc (Nat.le_refl _) _⟩
  ·have hv := zh (Zvq lo hi b (by omega) (by omega));go_enter Tryz.func169, Tryz.ntmps169
   go_wp2
   go_ret;exact ⟨by rw [hv.o]; rw [← Zox hi (b - 64).toNat (by omega)]; rfl, (Below.refl _ _).alloc (Nat.le_refl _) _⟩
theorem Zoy {B : Nat} {a w : World} (h : Below B a w) (n : Nat) : Below B a (w.drewN n) := ⟨h.os, h.tape, h.output, h.size, h.block⟩
/-- The blocks of P alone have turned. -/
structure Tch (P : Nat → Prop) (w x : World) : Prop where
 keep : Ze (fun b => ¬ P b) w x
 below : Below 0 w x
theorem Tch.refl (P : Nat → Prop) (w : World) : Tch P w w := ⟨Ze.refl _ _, Below.refl _ _⟩
theorem Tch.later {P : Nat → Prop} {w x : World} (hl : Za w x) : Tch P w x := ⟨Ze.later hl, Below.mono hl (Nat.zero_le _)⟩
theorem Tch.trans {P Q R : Nat → Prop} {w x y : World} (h : Tch P w x) (k : Tch Q x y) (hP : ∀ b, P b → R b) (hQ : ∀ b, b < w.heap.size → Q b → R b) : Tch R w y :=
 ⟨⟨Nat.le_trans h.keep.size k.keep.size, fun b hb hl => (k.keep.same b (fun hq => hb (hQ b hl hq)) (Nat.lt_of_lt_of_le hl h.keep.size)).trans (h.keep.same b (fun hp => hb (hP b hp)) hl)⟩, h.below.trans k.below⟩
theorem Tch.mono {P R : Nat → Prop} {w x : World} (h : Tch P w x) (hP : ∀ b, b < w.heap.size → P b → R b) : Tch R w x :=
 ⟨⟨h.keep.size, fun b hb hl => h.keep.same b (fun hp => hb (hP b hl hp)) hl⟩, h.below⟩
theorem Tch.tr {P : Nat → Prop} {w x y : World} (h : Tch P w x) (k : Tch P x y) : Tch P w y := h.trans k (fun _ h => h) (fun _ _ h => h)
theorem Tch.la {P : Nat → Prop} {w x y : World} (h : Tch P w x) (k : Za x y) : Tch P w y := h.tr (Tch.later k)
theorem Tch.fl {P : Nat → Prop} {w x y : World} (h : Za w x) (k : Tch P x y) : Tch P w y := (Tch.later h).tr k
theorem Tch.size {P : Nat → Prop} {w x : World} (h : Tch P w x) : w.heap.size ≤ x.heap.size := h.keep.size
theorem Tch.has {P : Nat → Prop} {w x : World} (h : Tch P w x) {b : Nat} {o : Obj} (hb : w.heap[b]? = some o) (hc : ¬ P b) : x.heap[b]? = some o := (h.keep.same b hc (Zb hb)).trans hb
theorem Tch.set {P : Nat → Prop} {w x : World} (h : Tch P w x) {c : Nat} (hc : P c) (o : Nat) (v : Value) : Tch P w (x.setCell ⟨c, o, none⟩ v) :=
 ⟨⟨by simpa using h.keep.size, fun b hb hl => by
  exact (Below.heap_setCell _ _ _ _ (by rintro rfl; exact hb hc)).trans (h.keep.same b hb hl)⟩, h.below.setCell (Nat.zero_le _) _⟩
theorem Tch.cell {P : Nat → Prop} {w x : World} (h : Tch P w x) {g : Nat} (o : Nat) (hg : g < w.heap.size) (hc : ¬ P g) : x.cell? ⟨g, o, none⟩ = w.cell? ⟨g, o, none⟩ := by
 unfold World.cell?;rw [h.keep.same g hc hg]
theorem Tch.keeps {P F : Nat → Prop} {w x : World} (h : Tch P w x) (hF : ∀ b, F b → ¬ P b) : Ze F w x := h.keep.mono hF
/-- The bytes of a slice can be read; they are older than C. -/
def Zqy (w : World) (C : Nat) (A : Option Addr) (n : Nat) : Prop := ∀ j, j < n → ∃ g o b, A = some ⟨g, o, none⟩ ∧ g < C ∧ 0 ≤ b ∧ b < 256 ∧ w.cell? ⟨g, o + j, none⟩ = some (.int .u8 b)
abbrev Zwp : TypeId := 127
/-- A cursor lies in block C. -/
def Cur (C : Nat) (w : World) : Prop := ∃ (A : Option Addr) (n c i : Nat) (h : Int), n ≤ 1048577 ∧ i ≤ n ∧ w.heap[C]? = some (.cells #[.slice A n c, .int .i64 i, .int .i64 h] Zwp (0, 0)) ∧ Zqy w C A n
theorem Cur.lt {C : Nat} {w : World} (h : Cur C w) : C < w.heap.size := by
 obtain ⟨_, _, _, _, _, _, _, h, _⟩ := h;exact Zb h
theorem Cur.keep {C : Nat} {w x : World} {P : Nat → Prop} (h : Cur C w) (ht : Tch P w x) (hP : ∀ b, b ≤ C → ¬ P b) : Cur C x := by
 have hlt := h.lt;obtain ⟨A, n, c, i, y, hn, hi, hb, hby⟩ := h;refine ⟨A, n, c, i, y, hn, hi, ht.has hb (hP _ (Nat.le_refl _)), fun j hj => ?_⟩;obtain ⟨g, o, b, e, h1, h2, h3, h4⟩ := hby j hj;exact ⟨g, o, b, e, h1, h2, h3, (ht.cell _ (by omega) (hP _ (by omega))).trans h4⟩
theorem Cur.later {C : Nat} {w x : World} (h : Cur C w) (hl : Za w x) : Cur C x := h.keep (Tch.later (P := fun _ => False) hl) fun _ _ h => h
/-- The cursor alone has turned. -/
abbrev Zgu (C : Nat) (w x : World) : Prop := Tch (fun b => b = C) w x
theorem Zgu.trans {C : Nat} {w x y : World} (h1 : Zgu C w x) (h2 : Zgu C x y) : Zgu C w y := Tch.trans h1 h2 (fun _ h => h) (fun _ _ h => h)
theorem Zgu.later {C : Nat} {w x y : World} (h1 : Zgu C w x) (h2 : Za x y) : Zgu C w y := Tch.trans h1 (Tch.later (P := fun _ => False) h2) (fun _ h => h) (fun _ _ h => h.elim)
theorem Cur.of {C : Nat} {w x : World} {A : Option Addr} {n c i : Nat} {h : Int} (ht : Zgu C w x) (hn : n ≤ 1048577) (hi : i ≤ n) (hb : x.heap[C]? = some (.cells #[.slice A n c, .int .i64 i, .int .i64 h] Zwp (0, 0))) (hC : C < w.heap.size) (hby : Zqy w C A n) : Cur C x := ⟨A, n, c, i, h, hn, hi, hb, fun j hj => by
 obtain ⟨g, o, b, e, h1, h2, h3, h4⟩ := hby j hj;exact ⟨g, o, b, e, h1, h2, h3, (ht.cell _ (by omega) (by omega)).trans h4⟩⟩
theorem Zgu.drewN {C : Nat} {w x : World} (h : Zgu C w x) (k : Nat) : Zgu C w (x.drewN k) := h.later (Zoy (Below.refl _ _) k)
end Go.Proofs.YtpmhelkiicigfaaGreatDoor
namespace Go.Proofs.YtpmhelkiicigfaaGreatDoor
open Go.RowKit
section
variable {P : Program} {α : Type} {S El : Zbt α} {size : Nat} {F G : Nat → Prop} {l : List α} {v : Value}
theorem Zlu (w : World) (hE : Zfg S El size) (t ty e : TypeId) (i : TypeInfo) (z : Value) (bytes : Nat) (ht : P.underlying t = some (.slice e)) (hi : P.info? e = some i) (hz : i.zero = some z)
  (hsize : i.size = size) (hby : i.bytes = bytes) (hzs : z.cells.size = size) (hrow : Zbe S size e F w l v)
  (ad : Addr) (c : Nat) (a : α) (cs : List Value) (hnews : ∀ j u, cs[j]? = some u → w.cell? (ad.add j) = some u) (hone : ∀ u ∈ cs, u.oneCell' = true) (hel : S G w a cs) (hFG : ∀ y, G y → ¬ F y)
  (hm : l.length ≤ 2097152) (hbytes : bytes ≤ 1000) :
  ∃ v' w', (Builtin.append_ #[t, t] ty #[v, .slice (some ad) 1 c]).run P w = .ok v' w' ∧ Zbe S size e (fun y => F y ∨ G y ∨ y = w.heap.size) w' (l ++ [a]) v' ∧ Ze (fun y => ¬ F y) w w' ∧ Below 0 w w' := by
 subst hsize;subst hby;have hcl : cs.length = 1 * i.size := by rw [hE.is.len hel, Nat.one_mul]
 have hby2 : (l.length + 1) * i.bytes ≤ 140737488355328 := by have := Nat.mul_le_mul (show l.length + 1 ≤ 2097153 by omega) hbytes; omega
 have mk : ∀ (w' : World) (g c' : Nat) (cur : Array Value) (tag : Nat → Nat), w'.heap[g]? = some (.cells cur e (0, 0)) → (F g ∨ g = w.heap.size) → (∀ y, y < w.heap.size → y ≠ g → w'.heap[y]? = w.heap[y]?) → w.heap.size ≤ w'.heap.size →
   l.length + 1 ≤ c' → c' ≤ maxLen → c' * i.size ≤ cur.size →
   (∀ k (h : k < l.length), ∃ cs, S (fun x => ((F x ∧ x < w.heap.size) ∧ x ≠ g) ∧ tag x = k) w l[k] cs ∧ ∀ j x, cs[j]? = some x → cur[k * i.size + j]? = some x) → (∀ j x, cs[j]? = some x → cur[l.length * i.size + j]? = some x) →
   Zbe S i.size e (fun y => F y ∨ G y ∨ y = w.heap.size) w' (l ++ [a]) (.slice (some ⟨g, 0, none⟩) (l.length + 1) c') := by
  intro w' g c' cur tag hg hgF hkeep hsz h1 h2 h3 hold hnew
  classical
  refine ⟨_, c', by simp, by simpa using h1, h2, fun _ => ⟨g, 0, cur, fun y => if G y then l.length else tag y, rfl, ?_, hg, ⟨rfl, by omega⟩, fun k hk => ?_⟩⟩
  ·rcases hgF with h | h
   ·exact .inl h
   ·exact .inr (.inr h)
  ·by_cases hkl : k < l.length
   ·obtain ⟨cs0, hs, hc⟩ := hold k hkl;rw [List.getElem_append_left hkl];refine ⟨cs0, hE.is.keep hs (fun y hy => ⟨⟨.inl hy.1.1.1, hy.1.2⟩, ?_⟩) ⟨hsz, fun b hb hl => hkeep b hl hb.1.2⟩, fun j x hj => by rw [Nat.zero_add]; exact hc j x hj⟩;show (if G y then l.length else tag y) = k;rw [if_neg (fun hg => hFG y hg hy.1.1.1)];exact hy.2
   ·obtain rfl : k = l.length := by simp at hk; omega
    rw [List.getElem_append_right (Nat.le_refl _)];simp only [Nat.sub_self, List.getElem_cons_zero];have hng : ∀ y, G y ∧ y < w.heap.size → y ≠ g := fun y hy e => by
     rcases hgF with h | h
     ·exact hFG y hy.1 (e ▸ h)
     ·omega
    refine ⟨cs, hE.is.keep (hE.trim hel) (fun y hy => ⟨⟨.inr (.inl hy.1), hng y hy⟩, ?_⟩) ⟨hsz, fun b hb hl => hkeep b hl (hng b hb)⟩, fun j x hj => by rw [Nat.zero_add]; exact hnew j x hj⟩;show (if G y then l.length else tag y) = l.length;rw [if_pos hy.1]
 obtain ⟨A, cp, rfl, hc, hcm, h3⟩ := hrow;have hadd : ∀ g j, ((⟨g, 0, none⟩ : Addr).add j) = ⟨g, j, none⟩ := fun g j => by unfold Addr.add; split <;> simp_all
 by_cases h0 : cp = 0
 ·obtain rfl : l = [] := List.eq_nil_of_length_eq_zero (by omega);subst h0;have grown : ∀ old : Nat, old < 1 → Zbe S i.size e (fun y => F y ∨ G y ∨ y = w.heap.size) (w.drew.alloc (.cells ((#[] : Array Value) ++ cs.toArray ++ Builtin.zeroCells z.cells (grownCap w (0 + 1) old e - (0 + 1))) e)) ([] ++ [a]) (.slice (some ⟨w.heap.size, 0, none⟩) (0 + 1) (grownCap w (0 + 1) old e)) := fun old ho => by
   have hge := grownCap_ge w (0 + 1) old e;have hgm : grownCap w (0 + 1) old e ≤ maxLen := grownCap_le_maxLen w (0 + 1) old e (by simp only [maxLen]; omega);refine mk _ _ _ _ (fun _ => 0) (heap_alloc_new w.drew _) (.inr rfl) (fun y hy _ => Below.heap_alloc w.drew _ y hy) (by simp) hge hgm ?_ (fun k hk => by simp at hk) (fun j x hj => ?_)
   ·simp only [Array.size_append, List.size_toArray, size_zeroCells, hzs, hcl, Array.size_empty];simp only [List.length_nil, Nat.zero_add] at hge ⊢;rw [← Nat.add_mul];exact Nat.mul_le_mul_right _ (by omega)
   ·have hlt := (List.getElem?_eq_some_iff.1 hj).1;rw [Array.getElem?_append_left (by simp; omega)]
    simpa using hj
  have keeps : ∀ o : Obj, Ze (fun y => ¬ F y) w (w.drew.alloc o) := fun o => ⟨by simp, fun b _ hb => Below.heap_alloc w.drew _ b hb⟩
  cases A with
  | none =>
   have hr := run_append_nil (P := P) w t ty e i z ht hi hz ad 1 c cs hcl hnews (by omega) (by omega) (by omega);have hgr := grown 0 (by omega);simp only [Nat.zero_add, List.nil_append, Array.empty_append, List.length_nil] at hgr hr ⊢;exact ⟨_, _, hr, hgr, keeps _, (Below.refl 0 w).drew.alloc (Nat.zero_le _) _⟩
  | some a0 =>
   have hr := run_append_grow (P := P) w t ty e i z ht hi hz a0 0 0 [] (by simp) (fun j u hu => by simp at hu) ad 1 c cs hcl hnews (by omega) (by omega) (growslice_fits (by omega) (by simpa using hby2));have hgr := grown 0 (by omega);exact ⟨_, _, hr, hgr, keeps _, (Below.refl 0 w).drew.alloc (Nat.zero_le _) _⟩
 ·obtain ⟨b, o, cur, tag, rfl, hF, hb, ⟨rfl, hcap⟩, hall⟩ := h3 (by omega);have hbw := Zb hb;have hcurl : cur.toList.length = cur.size := Array.length_toList;rw [Nat.zero_add] at hcap;have hold : ∀ g, (g = b ∨ g = w.heap.size) → ∀ k (h : k < l.length), ∃ cs, S (fun x => ((F x ∧ x < w.heap.size) ∧ x ≠ g) ∧ tag x = k) w l[k] cs ∧ ∀ j x, cs[j]? = some x → cur[k * i.size + j]? = some x := fun g hg k hk => by
   obtain ⟨cs0, hs, hc0⟩ := hall k hk;refine ⟨cs0, hE.is.keep (hE.trim hs) (fun y hy => ⟨⟨⟨hy.1.1.1, hy.2⟩, ?_⟩, hy.1.2⟩) (Ze.refl _ _), fun j x hj => by have := hc0 j x hj; rwa [Nat.zero_add] at this⟩
   rcases hg with rfl | rfl
   ·exact hy.1.1.2
   ·have := hy.2; omega
  have hlc : l.length * i.size ≤ cur.size := Nat.le_trans (Nat.mul_le_mul_right _ hc) hcap
  by_cases hroom : l.length + 1 ≤ cp
  ·have hfit : l.length * i.size + cs.length ≤ cur.size := by rw [hcl, ← Nat.add_mul]; exact Nat.le_trans (Nat.mul_le_mul_right _ hroom) hcap
   have hr := run_append_room (P := P) w t ty e i ht hi b l.length cp cur hb ad 1 c cs hcl hnews hone hroom hfit;refine ⟨_, _, hr, mk _ b cp _ tag (setRow_heap w b cur _ e _ hb) (.inl hF) (fun y hy hyb => setRow_other w b y _ hyb) (by simp) hroom hcm ?_ (fun k hk => ?_) (fun j x hj => ?_), ⟨by simp, fun y hy hl => setRow_other w b y _ (fun e => hy (e ▸ hF))⟩, ⟨rfl, rfl, rfl, by simp, fun k h => absurd h (Nat.not_lt_zero _)⟩⟩
   ·simp only [List.size_toArray, List.length_append, List.length_take, List.length_drop, Array.length_toList]
    omega
   ·obtain ⟨cs0, hs, hc0⟩ := hold b (.inl rfl) k hk;refine ⟨cs0, hs, fun j x hj => ?_⟩;have hx := hc0 j x hj;have hjs : j < i.size := by have := hE.is.len hs; have := (List.getElem?_eq_some_iff.1 hj).1; omega
    have hlt : k * i.size + j < l.length * i.size := by
     have : (k + 1) * i.size ≤ l.length * i.size := Nat.mul_le_mul_right _ hk;rw [Nat.add_mul, Nat.one_mul] at this
     omega
    rw [List.getElem?_toArray, List.append_assoc, List.getElem?_append_left (by rw [List.length_take, hcurl]; omega), List.getElem?_take, if_pos hlt]
    simpa using hx
   ·have hlt := (List.getElem?_eq_some_iff.1 hj).1;rw [List.getElem?_toArray, List.append_assoc, List.getElem?_append_right (by rw [List.length_take, hcurl]; omega), List.length_take, hcurl, Nat.min_eq_left hlc, Nat.add_sub_cancel_left, List.getElem?_append_left hlt];exact hj
  ·have hxs : (cur.toList.take (l.length * i.size)).length = l.length * i.size := by rw [List.length_take, hcurl]; omega
   have holds : ∀ j u, (cur.toList.take (l.length * i.size))[j]? = some u → w.cell? ((⟨b, 0, none⟩ : Addr).add j) = some u := fun j u hu => by
    rw [hadd, cell_of_row w b j cur e (0, 0) hb];rw [List.getElem?_take] at hu
    split at hu
    ·simpa using hu
    ·cases hu
   have hr := run_append_grow (P := P) w t ty e i z ht hi hz ⟨b, 0, none⟩ l.length cp (cur.toList.take (l.length * i.size)) hxs holds ad 1 c cs hcl hnews (by omega) (by omega) (growslice_fits (by omega) hby2);have hge := grownCap_ge w (l.length + 1) cp e;have hgm : grownCap w (l.length + 1) cp e ≤ maxLen := grownCap_le_maxLen w (l.length + 1) cp e (by simp only [maxLen]; omega);refine ⟨_, _, hr, mk _ _ _ _ tag (heap_alloc_new w.drew _) (.inr rfl) (fun y hy _ => Below.heap_alloc w.drew _ y hy) (by simp) hge hgm ?_ (fun k hk => ?_) (fun j x hj => ?_), ⟨by simp, fun b _ hb => Below.heap_alloc w.drew _ b hb⟩, (Below.refl 0 w).drew.alloc (Nat.zero_le _) _⟩
   ·simp only [Array.size_append, List.size_toArray, size_zeroCells, hzs, hxs, hcl, ← Nat.add_mul];exact Nat.mul_le_mul_right _ (by omega)
   ·obtain ⟨cs0, hs, hc0⟩ := hold w.heap.size (.inr rfl) k hk;refine ⟨cs0, hs, fun j x hj => ?_⟩;have hx := hc0 j x hj;have hjs : j < i.size := by have := hE.is.len hs; have := (List.getElem?_eq_some_iff.1 hj).1; omega
    have hlt : k * i.size + j < l.length * i.size := by
     have : (k + 1) * i.size ≤ l.length * i.size := Nat.mul_le_mul_right _ hk;rw [Nat.add_mul, Nat.one_mul] at this
     omega
    rw [Array.getElem?_append_left (by simp only [Array.size_append, List.size_toArray, hxs]; omega), Array.getElem?_append_left (by rw [List.size_toArray, hxs]; exact hlt), List.getElem?_toArray, List.getElem?_take, if_pos hlt]
    simpa using hx
   ·have hlt := (List.getElem?_eq_some_iff.1 hj).1;rw [Array.getElem?_append_left (by simp only [Array.size_append, List.size_toArray, hxs]; omega), Array.getElem?_append_right (by rw [List.size_toArray, hxs]; omega), List.size_toArray, hxs, Nat.add_sub_cancel_left, List.getElem?_toArray];exact hj
theorem Zbo {w : World} (hE : Zfg S El size) {ops : Array Oper} {rest : List Oper} {o : Oper} {ac : Act} {Q : Exit → Act → World → Prop} (hgd : o.guard = none) (s x : Operand) (t : TypeId)
  (ho : o.op = .call { callee := .builtin .append, args := #[s, x], argTypes := #[t, t] })
  (e : TypeId) (i : TypeInfo) (z : Value) (bytes : Nat) (ht : P.underlying t = some (.slice e)) (hi : P.info? e = some i) (hz : i.zero = some z)
  (hsize : i.size = size) (hby : i.bytes = bytes) (hzs : z.cells.size = size) (hs : ac.eval s = v) (hrow : Zbe S size e F w l v)
  (ad : Addr) (c : Nat) (hx : ac.eval x = .slice (some ad) 1 c) (a : α) (cs : List Value) (hnews : ∀ j u, cs[j]? = some u → w.cell? (ad.add j) = some u) (hone : ∀ u ∈ cs, u.oneCell' = true) (hel : S G w a cs) (hFG : ∀ y, G y → ¬ F y)
  (hm : l.length ≤ 2097152) (hbytes : bytes ≤ 1000)
  (h : ∀ v' w', Zbe S size e (fun y => F y ∨ G y ∨ y = w.heap.size) w' (l ++ [a]) v' → Ze (fun y => ¬ F y) w w' → Below 0 w w' → wpList P ops Q rest (ac.put o.dst v') w') : wpList P ops Q (o :: rest) ac w := by
 refine wpList_plain hgd fun _ hK => ?_;obtain ⟨v', w', hr, h2, h3, h4⟩ := Zlu (P := P) w hE t o.type e i z bytes ht hi hz hsize hby hzs hrow ad c a cs hnews hone hel hFG hm hbytes;unfold Oper.wp execOp;simp only [ho, resolve, invoke, builtin, Sem.run_bind, Sem.run_pure, Result.andThen_ok, List.map_toArray, List.map_cons, List.map_nil, hs, hx, hr];exact hK _ _ (h v' w' h2 h3 h4)
end
end Go.Proofs.YtpmhelkiicigfaaGreatDoor
namespace Go.Proofs.YtpmhelkiicigfaaGreatDoor
open Go.RowKit
/-- The Store r lies in the block B; what it reaches lies in F and shares nothing. -/
structure Zfp (F : Nat → Prop) (w : World) (B : Nat) (r : Zf) (cs : List Value) : Prop where
 blk : w.heap[B]? = some (.cells cs.toArray 30 (0, 0))
 sp : Zec F w r cs
 nB : ¬ F B
theorem Zfp.at_ {F : Nat → Prop} {w : World} {B : Nat} {r : Zf} {cs : List Value} (h : Zfp F w B r cs) : Z3 F w B r cs := ⟨h.blk, Zbq.el h.sp⟩
theorem Zfp.lt {F : Nat → Prop} {w : World} {B : Nat} {r : Zf} {cs : List Value} (h : Zfp F w B r cs) : B < w.heap.size := Zb h.blk
theorem Zfp.keep {F G : Nat → Prop} {w x : World} {B : Nat} {r : Zf} {cs : List Value} (h : Zfp F w B r cs) (hFG : ∀ b, F b → G b) (hG : ¬ G B) (hk : Ze F w x) (hb : x.heap[B]? = w.heap[B]?) : Zfp G x B r cs :=
 ⟨hb.trans h.blk, Zbq.is.keep h.sp hFG hk, hG⟩
theorem Zfp.later {F : Nat → Prop} {w x : World} {B : Nat} {r : Zf} {cs : List Value} (h : Zfp F w B r cs) (hl : Za w x) : Zfp F x B r cs := h.keep (fun _ h => h) h.nB (Ze.later hl) (hl.block B h.lt)
theorem Zfp.trim {F : Nat → Prop} {w : World} {B : Nat} {r : Zf} {cs : List Value} (h : Zfp F w B r cs) : Zfp (fun b => F b ∧ b < w.heap.size) w B r cs := ⟨h.blk, Zbq.trim h.sp, fun hb => h.nB hb.1⟩
def Zcb (r : Zf) (o : Zam) : Zf := { r with aA := r.aA ++ [o] }
/-- What has been done to a Store of one's own. -/
structure Zgv (F : Nat → Prop) (w : World) (B : Nat) (w' : World) : Prop where
 keep : Ze (fun y => ¬ F y ∧ y ≠ B) w w'
 below : Below 0 w w'
theorem Zgv.refl (F : Nat → Prop) (w : World) (B : Nat) : Zgv F w B w := ⟨Ze.refl _ _, Below.refl _ _⟩
theorem Zgv.later {F : Nat → Prop} {w x : World} {B : Nat} (hl : Za w x) : Zgv F w B x := ⟨Ze.later hl, Below.mono hl (Nat.zero_le _)⟩
theorem Zgv.trans {F G : Nat → Prop} {w x y : World} {B : Nat} (h : Zgv F w B x) (k : Zgv G x B y) (hG : ∀ b, G b → b < w.heap.size → F b) : Zgv F w B y :=
 ⟨⟨Nat.le_trans h.keep.size k.keep.size, fun b hb hl => (k.keep.same b ⟨fun hg => hb.1 (hG b hg hl), hb.2⟩ (Nat.lt_of_lt_of_le hl h.keep.size)).trans (h.keep.same b hb hl)⟩, h.below.trans (Below.mono k.below (Nat.zero_le _))⟩
end Go.Proofs.YtpmhelkiicigfaaGreatDoor
namespace Go.Proofs.YtpmhelkiicigfaaGreatDoor
open Go.RowKit
end Go.Proofs.YtpmhelkiicigfaaGreatDoor
namespace Go.Proofs.YtpmhelkiicigfaaGreatDoor
open Go.RowKit
theorem in0 : Zy 0 := by unfold Zy; omega
theorem Zl7 : (Tryz.prog.info? 5).map (fun i => (i.zero, i.size, i.bytes)) = some (some (.int .u8 0), 1, 1) := by kernel_rfl
/-- 'string(out)' of a row of bytes that the call owns. -/
theorem Zgw {w : World} {base g cap n : Nat} {ns : List Int} (hn : ns.length = n) (hown : w.ownsRow base 5 1 (.slice (some ⟨g, 0, none⟩) n cap) n (ns.map (Value.int .u8))) :
  (convert 22 9 (.slice (some ⟨g, 0, none⟩) n cap)).run Tryz.prog w = .ok (.string (Zhp ns)) w := by
 subst hn;rw [run_convert_bytes_string w 22 9 5 _ _ _ Tryz.underlying22 Tryz.underlying5 Tryz.underlying9];have hl := run_loadCells_list (P := Tryz.prog) w ⟨g, 0, none⟩ (ns.map (Value.int .u8)) (hown.cells (g := g) rfl);rw [List.length_map] at hl;rw [run_bytesToString w ⟨g, 0, none⟩ ns.length cap ns hl, Znh]
theorem Zrz {w x : World} {base : Nat} {e : TypeId} {size : Nat} {v : Value} {n : Nat} {xs : List Value} (h : w.ownsRow base e size v n xs) (hl : Za w x) : x.ownsRow base e size v n xs := by
 refine ⟨h.1, ?_⟩
 rcases h.2 with hn | ⟨g, cap, cur, rfl, hb, hg, rest⟩
 ·exact .inl hn
 ·exact .inr ⟨g, cap, cur, rfl, hb, (Below.block hl g (Array.getElem?_eq_some_iff.1 hg).1).trans hg, rest⟩
/-- The bytes read so far, in a row that the call owns. -/
structure Zfi (w : World) (o : List UInt8) (v : Value) (wr : World) : Prop where
 row : wr.ownsRow w.heap.size 5 1 v o.length ((Zll o).map (Value.int .u8))
 bel : Below w.heap.size w wr
 nn : v ≠ .slice none 0 0
theorem Zfi.later {w wr x : World} {o : List UInt8} {v : Value} (h : Zfi w o v wr) (hl : Za wr x) : Zfi w o v x :=
 ⟨Zrz h.row hl, Below.trans h.bel (Below.mono hl h.bel.size), h.nn⟩
theorem Zfi.alloc {w wr : World} {o : List UInt8} {v : Value} (h : Zfi w o v wr) (ob : Obj) : Zfi w o v (wr.alloc ob) := h.later ((Za.refl _).alloc ob)
theorem Zfi.form {w wr : World} {o : List UInt8} {v : Value} (h : Zfi w o v wr) : ∃ g cap, v = .slice (some ⟨g, 0, none⟩) o.length cap := by
 rcases h.row.2 with ⟨hv, _⟩ | ⟨g, cap, cur, hv, _⟩
 ·exact absurd hv h.nn
 ·exact ⟨g, cap, hv⟩
theorem Zfi.push {w wr w1 : World} {o : List UInt8} {v v' : Value} (h : Zfi w o v wr) (x : UInt8) (c : Int) (hc : (x.toNat : Int) = c) {ob : Obj} (hown' : w1.ownsRow w.heap.size 5 1 v' (o.length + 1) ((Zll o).map (Value.int .u8) ++ [Value.int .u8 c])) (hg : (wr.alloc ob).grownBy w1 v.ownBlock) (hn : v' = .slice none 0 0 ↔ v = .slice none 0 0 ∧ 1 = 0) : Zfi w (o ++ [x]) v' w1 := by
 subst hc;have hsz := h.bel.size;refine ⟨?_, (h.bel.alloc hsz ob).grown hg (by simp; omega) (fun g hg' => (h.row.lt g hg').1), fun e => by have := (hn.1 e).2; omega⟩;rw [List.length_append, List.length_singleton, Zng, List.map_append];exact hown'
theorem Zfi.start (w : World) : Zfi w [] (.slice (some ⟨w.heap.size, 0, none⟩) 0 0) (w.alloc (.cells #[] 5)) :=
 ⟨⟨rfl, .inr ⟨w.heap.size, 0, #[], rfl, Nat.le_refl _, heap_alloc_new w _, Nat.le_refl _, Nat.zero_le _, rfl, rfl⟩⟩, (Below.refl _ _).alloc (Nat.le_refl _) _, fun e => by cases e⟩
theorem Zp8 (o : List UInt8) : Zhp (Zll o) = ⟨o.toArray⟩ := by
 unfold Zhp Zll;rw [List.map_map]
 congr 1
 congr 1
 conv => rhs; rw [← List.map_id o]
 apply List.map_congr_left
 intro b _;simp
/-- 'string(out)'. -/
theorem Zfi.text {w wr : World} {o : List UInt8} {g cap : Nat} (h : Zfi w o (.slice (some ⟨g, 0, none⟩) o.length cap) wr) : (convert 22 9 (.slice (some ⟨g, 0, none⟩) o.length cap)).run Tryz.prog wr = .ok (.string ⟨o.toArray⟩) wr := by
 have := Zgw (ns := Zll o) (n := o.length) (by simp [Zll]) h.row;rw [Zp8] at this;exact this
/-- 'string([]byte{b})' of a block that was just made. -/
theorem Zk7 (w : World) (x : Int) :
  (convert 22 9 (.slice (some ⟨w.heap.size, 0, none⟩) 1 1)).run Tryz.prog (w.alloc (.cells #[.int .u8 x] 5)) = .ok (.string (Zhp [x])) (w.alloc (.cells #[.int .u8 x] 5)) :=
 Zgw (base := 0) (ns := [x]) rfl ⟨by simp, .inr ⟨w.heap.size, 1, #[.int .u8 x], rfl, Nat.zero_le _, heap_alloc_new w _, Nat.le_refl _, by unfold maxLen; omega, rfl, by simp⟩⟩
theorem Zva (x : Int) (s : ByteArray) : (Zhp [x] ++ s).data.toList = UInt8.ofNat x.toNat :: s.data.toList := by
 simp [Zhp]
theorem Zl8 {N : Nat} {m x : Int} {s : ByteArray} (hm : m ≠ 0) (h : dg N = dg m.natAbs ++ s.data.toList) (hx : x = 48 + ((m.natAbs % 10 : Nat) : Int)) :
  dg N = dg (m.tdiv 10).natAbs ++ (Zhp [x] ++ s).data.toList := by
 rw [Zva, hx];have : (48 + ((m.natAbs % 10 : Nat) : Int)).toNat = 48 + m.natAbs % 10 := by omega
 rw [this];exact Zsx N m _ hm h
theorem Zqz {a b : ByteArray} (h : a.data.toList = b.data.toList) : a = b := by
 cases a; cases b; simp at h; simp [h]
theorem Zis (n : Int) (w : World) (h0 : -9223372036854775808 ≤ n) (h1 : n ≤ 9223372036854775807) :
  Calls Tryz.prog 144 #[.int .i64 n] w fun e w' => e = .returned (.string ⟨(Lib.itoa n).toArray⟩) ∧ Below w.heap.size w w' := by
 by_cases hz : n = 0
 ·subst hz;have hr : (⟨(Lib.itoa 0).toArray⟩ : ByteArray) = ⟨#[48]⟩ := by rw [Zl2]
  rw [hr];go_enter Tryz.func144, Tryz.ntmps144
  go_wp2
  go_ret;exact ⟨rfl, Below.refl _ _⟩
 ·have hzb : (n == 0) = false := by simpa using hz
  have hit := zh (Zkt n hz);have hlen := Zsv n h0 h1;have hcv := Zk7;clear hz
  rcases Int.lt_or_le n 0 with hneg | hpos
  all_goals
   go_enter Tryz.func144, Tryz.ntmps144
   go_wp2
   go_loopw [0, 4] (fun m out wr => ∃ (m' : Int) (s : ByteArray), m = .int .i64 m' ∧ out = .string s ∧ -9223372036854775808 ≤ m' ∧ m' ≤ 9223372036854775807 ∧ Hd (dg n.natAbs = dg m'.natAbs ++ s.data.toList) ∧ Below w.heap.size w wr) (fun m _ _ => (intOf m).natAbs)
   case atStart => exact ⟨n, _, rfl, rfl, h0, h1, zh (by simp), Below.refl _ _⟩
   case round =>
    obtain ⟨m, s, rfl, rfl, hm0, hm1, hdg, hbel⟩ := hrel;have hsz := hbel.size;have hsl : s.size ≤ 20 := by
     have := congrArg List.length hdg.o;simp at this;have e : s.size = s.data.size := rfl
     omega
    have hss : ∀ x : Int, (Zhp [x]).size = 1 := fun _ => rfl
    by_cases hmz : m = 0
    ·subst hmz
     go_wp2
     go_ret;refine ⟨?_, hbel⟩;have e1 : dg n.natAbs = s.data.toList := by simpa [dg] using hdg.o
     have e2 := hit.o;simp only [e1] at e2
     first
      | (rw [if_pos hneg] at e2; exact congrArg (fun b => Ending.returned (Value.string b)) (Zqz (by simp [e2])))
      | (rw [if_neg (by omega)] at e2; exact congrArg (fun b => Ending.returned (Value.string b)) (Zqz (by simp [e2])))
    ·have hmb : (m != 0) = true := by simpa using hmz
     obtain ⟨d, hd⟩ : ∃ d : Int, m.tmod 10 = d := ⟨_, rfl⟩;have ha : d.natAbs = m.natAbs % 10 := by rw [← hd, Int.natAbs_tmod]; rfl
     have hb : (m.tdiv 10).natAbs = m.natAbs / 10 := by rw [Int.natAbs_tdiv]; rfl
     have hdlo : -10 < d := by omega
     have hdhi : d < 10 := by omega
     have hq1 : -9223372036854775808 ≤ m.tdiv 10 := by omega
     have hq2 : m.tdiv 10 ≤ 9223372036854775807 := by omega
     have hq3 : (m.tdiv 10).natAbs < m.natAbs := by omega
     rcases Int.lt_or_le d 0 with hdn | hdp
     ·have hx : (48 + (-d)) = 48 + ((m.natAbs % 10 : Nat) : Int) := by omega
      have HR := zh (Zl8 hmz hdg.o hx);clear hx hmz ha hb
      go_wp2
      go_roundw
      case rel => exact ⟨_, _, rfl, rfl, hq1, hq2, HR, hbel.alloc hsz _⟩
      case measure => exact hq3
     ·have hx : (48 + d) = 48 + ((m.natAbs % 10 : Nat) : Int) := by omega
      have HR := zh (Zl8 hmz hdg.o hx);clear hx hmz ha hb
      go_wp2
      go_roundw
      case rel => exact ⟨_, _, rfl, rfl, hq1, hq2, HR, hbel.alloc hsz _⟩
      case measure => exact hq3
theorem Zoz {x : World} {b : Nat} {v0 v1 : Value} {t : TypeId} (h : x.heap[b]? = some (.cells #[v0, v1] t (0, 0))) : x.cell? ⟨b, 0, none⟩ = some v0 ∧ x.cell? ⟨b, 1, none⟩ = some v1 :=
 ⟨cell_of_row x b 0 _ _ _ h, cell_of_row x b 1 _ _ _ h⟩
theorem Zjj (lo hi : Int) (w : World) :
  Calls Tryz.prog 143 #[.agg #[.int .i64 lo, .int .i64 hi]] w fun e w' => e = .returned (.string ⟨(Zca lo hi 128).toArray⟩) ∧ Below w.heap.size w w' := by
 obtain ⟨i0, hi0, hz0, hz1, hz2⟩ := info_parts Zl7;have HCL := zh (Zgt lo hi);have HSU := zh (Zir lo hi);obtain ⟨w1, hw1⟩ : ∃ w1, w1 = w.alloc (.cells #[.int .i64 lo, .int .i64 hi] 32) := ⟨_, rfl⟩;have HP := zh (show w1.heap[w.heap.size]? = some (.cells #[.int .i64 lo, .int .i64 hi] 32 (0, 0)) by rw [hw1]; exact heap_alloc_new w _);have hb1 : Below w.heap.size w w1 := by rw [hw1]; exact (Below.refl _ _).alloc (Nat.le_refl _) _
 have hlt1 : w.heap.size < w1.heap.size := by rw [hw1]; simp
 have hst0 := Zfi.start w1;rw [show w1.heap.size = w.heap.size + 1 by rw [hw1]; simp] at hst0;have HST0 := zh (show Zfi w1 [] (.slice (some ⟨w.heap.size + 1, 0, none⟩) 0 0) ((w.alloc (.cells #[.int .i64 lo, .int .i64 hi] 32)).alloc (.cells #[] 5)) by rw [← hw1]; exact hst0);clear hst0 hw1;go_enter Tryz.func143, Tryz.ntmps143;go_wp2_with fail
 go_loopw [3, 4] (fun v i wr => ∃ (j : Nat) (o : List UInt8) (v' : Value), i = .int .i64 j ∧ v' = v ∧ j ≤ 128 ∧ Hd (o = Zca lo hi j) ∧ Zfi w1 o v' wr) (fun _ i _ => 128 - (intOf i).toNat)
 case atStart => exact ⟨0, [], _, rfl, rfl, by omega, zh rfl, HST0.o⟩
 case round =>
  obtain ⟨j, o, v, rfl, rfl, hj, HO, hst⟩ := hrel;have hsz := hst.bel.size;have HST := zh hst;clear hst
  by_cases hlt : j < 128
  ·have t1 : decide ((j : Int) < 128) = true := decide_eq_true (by omega);have hwr : IntKind.u8.wrap (j : Int) = (j : Int) := by rw [IntKind.wrap_u8]; omega
   obtain ⟨c0, c1⟩ := Zoz ((HST.o.bel.block _ hlt1).trans HP.o);have HHB := zh (Zkf lo hi (j : Int) wr (by omega) (by omega));have hol : o.length ≤ 128 := by rw [HO.o]; exact Nat.le_trans (HCL.o j) hj
   go_wp2_with fail;refine HHB.o.mono ?_;rintro e w2 ⟨rfl, hb2⟩;have HST2 := zh (HST.o.later hb2);have hsz2 := HST2.o.bel.size;clear hb2 c0 c1 HHB
   by_cases hh : hb lo hi (j : Int) = true
   ·have HO2 := zh (show o ++ [UInt8.ofNat j] = Zca lo hi (j + 1) by rw [HSU.o, if_pos hh, HO.o]);have hcj : ((UInt8.ofNat j).toNat : Int) = (j : Int) := by rw [UInt8.toNat_ofNat', Nat.mod_eq_of_lt (by omega)]
    have HCJ := zh hcj;rw [hh];clear hh hcj
    go_wp2_with (at_builtin; refine wpList_append_own _ rfl _ _ 22 rfl w1.heap.size 5 i0 (.int .u8 0) 1 1 Tryz.underlying22 hi0 hz0 hz1 hz2 rfl (by decide) _ _ _ rfl (HST2.o.row.alloc _) ⟨w2.heap.size, 0, none⟩ 1 1 [.int .u8 (j : Int)] rfl rfl (cell_one_new _ _ _) (by simp [Value.oneCell']) (by unfold maxLen; omega) (by omega) (by simp; omega) ?_; intro v' w3 hown' hgrow hnil)
    have hst3 := HST2.o.push (UInt8.ofNat j) (j : Int) HCJ.o hown' hgrow hnil
    go_roundw
    case rel => exact ⟨j + 1, _, _, by go_num, rfl, by omega, HO2, hst3⟩
    case measure => simp [intOf]; omega
   ·have hh2 : hb lo hi (j : Int) = false := by simpa using hh
    have HO2 := zh (show o = Zca lo hi (j + 1) by rw [HSU.o, if_neg hh, List.append_nil, HO.o]);rw [hh2];clear hh hh2;go_wp2_with fail
    go_roundw
    case rel => exact ⟨j + 1, o, _, by go_num, rfl, by omega, HO2, HST2.o⟩
    case measure => simp [intOf]; omega
  ·have t1 : decide ((j : Int) < 128) = false := decide_eq_false (by omega);have hf : o = Zca lo hi 128 := by rw [HO.o, show j = 128 by omega]
   obtain ⟨g1, cap1, hv⟩ := HST.o.form;subst hv;have e2 := HST.o.text;have HF := zh hf;clear hf;go_wp2_with fail;go_ret;refine ⟨?_, hb1.trans (Below.mono HST.o.bel hb1.size)⟩;rw [HF.o]; rfl
theorem Zkg (lo hi b : Int) (w : World) (h0 : 0 ≤ b) (h1 : b < 256) :
  Calls Tryz.prog 167 #[.agg #[.int .i64 lo, .int .i64 hi], .int .u8 b] w fun e w' => e = .returned (.bool (hb lo hi b)) ∧ Below w.heap.size w w' := by
 by_cases h2 : 127 < b
 ·rw [Zt3 lo hi b h2];go_enter Tryz.func167, Tryz.ntmps167
  go_wp2
  go_ret;exact ⟨rfl, (Below.refl _ _).alloc (Nat.le_refl _) _⟩
 ·by_cases h3 : b < 64
  ·have hv := zh (Zvp lo hi b h0 h3);go_enter Tryz.func167, Tryz.ntmps167
   go_wp2
   go_ret;exact ⟨by rw [hv.o]; rfl, (Below.refl _ _).alloc (Nat.le_refl _) _⟩
  ·have hv := zh (Zvq lo hi b (by omega) (by omega));go_enter Tryz.func167, Tryz.ntmps167
   go_wp2
   go_ret;exact ⟨by rw [hv.o]; rfl, (Below.refl _ _).alloc (Nat.le_refl _) _⟩
theorem Zjk (lo hi : Int) (w : World) :
  Calls Tryz.prog 140 #[.agg #[.int .i64 lo, .int .i64 hi]] w fun e w' => e = .returned (.string ⟨(Zca lo hi 128).toArray⟩) ∧ Below w.heap.size w w' := by
 obtain ⟨i0, hi0, hz0, hz1, hz2⟩ := info_parts Zl7;have HCL := zh (Zgt lo hi);have HSU := zh (Zir lo hi);obtain ⟨w1, hw1⟩ : ∃ w1, w1 = w.alloc (.cells #[.int .i64 lo, .int .i64 hi] 32) := ⟨_, rfl⟩;have HP := zh (show w1.heap[w.heap.size]? = some (.cells #[.int .i64 lo, .int .i64 hi] 32 (0, 0)) by rw [hw1]; exact heap_alloc_new w _);have hb1 : Below w.heap.size w w1 := by rw [hw1]; exact (Below.refl _ _).alloc (Nat.le_refl _) _
 have hlt1 : w.heap.size < w1.heap.size := by rw [hw1]; simp
 have hst0 := Zfi.start w1;rw [show w1.heap.size = w.heap.size + 1 by rw [hw1]; simp] at hst0;have HST0 := zh (show Zfi w1 [] (.slice (some ⟨w.heap.size + 1, 0, none⟩) 0 0) ((w.alloc (.cells #[.int .i64 lo, .int .i64 hi] 32)).alloc (.cells #[] 5)) by rw [← hw1]; exact hst0);clear hst0 hw1;go_enter Tryz.func140, Tryz.ntmps140;go_wp2_with fail
 go_loopw [3, 4] (fun v i wr => ∃ (j : Nat) (o : List UInt8) (v' : Value), i = .int .i64 j ∧ v' = v ∧ j ≤ 128 ∧ Hd (o = Zca lo hi j) ∧ Zfi w1 o v' wr) (fun _ i _ => 128 - (intOf i).toNat)
 case atStart => exact ⟨0, [], _, rfl, rfl, by omega, zh rfl, HST0.o⟩
 case round =>
  obtain ⟨j, o, v, rfl, rfl, hj, HO, hst⟩ := hrel;have hsz := hst.bel.size;have HST := zh hst;clear hst
  by_cases hlt : j < 128
  ·have t1 : decide ((j : Int) < 128) = true := decide_eq_true (by omega);have hwr : IntKind.u8.wrap (j : Int) = (j : Int) := by rw [IntKind.wrap_u8]; omega
   obtain ⟨c0, c1⟩ := Zoz ((HST.o.bel.block _ hlt1).trans HP.o);have HHB := zh (Zkg lo hi (j : Int) wr (by omega) (by omega));have hol : o.length ≤ 128 := by rw [HO.o]; exact Nat.le_trans (HCL.o j) hj
   go_wp2_with fail;refine HHB.o.mono ?_;rintro e w2 ⟨rfl, hb2⟩;have HST2 := zh (HST.o.later hb2);have hsz2 := HST2.o.bel.size;clear hb2 c0 c1 HHB
   by_cases hh : hb lo hi (j : Int) = true
   ·have HO2 := zh (show o ++ [UInt8.ofNat j] = Zca lo hi (j + 1) by rw [HSU.o, if_pos hh, HO.o]);have hcj : ((UInt8.ofNat j).toNat : Int) = (j : Int) := by rw [UInt8.toNat_ofNat', Nat.mod_eq_of_lt (by omega)]
    have HCJ := zh hcj;rw [hh];clear hh hcj
    go_wp2_with (at_builtin; refine wpList_append_own _ rfl _ _ 22 rfl w1.heap.size 5 i0 (.int .u8 0) 1 1 Tryz.underlying22 hi0 hz0 hz1 hz2 rfl (by decide) _ _ _ rfl (HST2.o.row.alloc _) ⟨w2.heap.size, 0, none⟩ 1 1 [.int .u8 (j : Int)] rfl rfl (cell_one_new _ _ _) (by simp [Value.oneCell']) (by unfold maxLen; omega) (by omega) (by simp; omega) ?_; intro v' w3 hown' hgrow hnil)
    have hst3 := HST2.o.push (UInt8.ofNat j) (j : Int) HCJ.o hown' hgrow hnil
    go_roundw
    case rel => exact ⟨j + 1, _, _, by go_num, rfl, by omega, HO2, hst3⟩
    case measure => simp [intOf]; omega
   ·have hh2 : hb lo hi (j : Int) = false := by simpa using hh
    have HO2 := zh (show o = Zca lo hi (j + 1) by rw [HSU.o, if_neg hh, List.append_nil, HO.o]);rw [hh2];clear hh hh2;go_wp2_with fail
    go_roundw
    case rel => exact ⟨j + 1, o, _, by go_num, rfl, by omega, HO2, HST2.o⟩
    case measure => simp [intOf]; omega
  ·have t1 : decide ((j : Int) < 128) = false := decide_eq_false (by omega);have hf : o = Zca lo hi 128 := by rw [HO.o, show j = 128 by omega]
   obtain ⟨g1, cap1, hv⟩ := HST.o.form;subst hv;have e2 := HST.o.text;have HF := zh hf;clear hf;go_wp2_with fail;go_ret;refine ⟨?_, hb1.trans (Below.mono HST.o.bel hb1.size)⟩;rw [HF.o]; rfl
/-! ### What both compute -/
def Zh3 (s : ByteArray) (i : Nat) : Nat := if h : i < s.size then s[i].toNat else 0
def aUp (s : ByteArray) : Nat → Nat → Nat
 | 0, a => a
 | f + 1, a => if a < s.size ∧ Zh3 s a = 32 then aUp s f (a + 1) else a
def zDn (s : ByteArray) (a : Nat) : Nat → Nat
 | 0 => 0
 | z + 1 => if a < z + 1 ∧ Zh3 s z = 32 then zDn s a z else z + 1
def dgs (s : ByteArray) (z : Nat) : Nat → Nat → Nat → Option Nat
 | 0, _, n => some n
 | f + 1, a, n => if Zh3 s a < 48 ∨ 57 < Zh3 s a then none else dgs s z f (a + 1) (n * 10 + (Zh3 s a - 48))
def Zp9 (s : ByteArray) (z a : Nat) (minus : Bool) : Option Int :=
 if z - a < 1 ∨ 12 < z - a then none else (dgs s z (z - a) a 0).map fun n => if minus then -(n : Int) else n
def Zwr (s : ByteArray) (a z : Nat) : Option Int :=
 if a < z ∧ Zh3 s a = 43 then Zp9 s z (a + 1) false else if a < z ∧ Zh3 s a = 45 then Zp9 s z (a + 1) true else Zp9 s z a false
def iot (s : ByteArray) : Option Int := Zwr s (aUp s s.size 0) (zDn s (aUp s s.size 0) s.size)
theorem Zv5 (s : ByteArray) : ∀ (f a : Nat), a ≤ s.size → aUp s f a ≤ s.size
 | 0, a, h => h
 | f + 1, a, h => by
  simp only [aUp]
  split
  ·exact Zv5 s f (a + 1) (by omega)
  ·exact h
theorem Zv6 (s : ByteArray) (a : Nat) : ∀ z, zDn s a z ≤ z
 | 0 => Nat.le_refl _
 | z + 1 => by
  simp only [zDn]
  split
  ·have := Zv6 s a z; omega
  ·omega
theorem Zv7 (s : ByteArray) (a : Nat) : ∀ z, a ≤ z → a ≤ zDn s a z
 | 0, h => h
 | z + 1, h => by
  simp only [zDn]
  split
  ·exact Zv7 s a z (by omega)
  ·exact h
end Go.Proofs.YtpmhelkiicigfaaGreatDoor
namespace Go.Proofs.YtpmhelkiicigfaaGreatDoor
open Go.RowKit
end Go.Proofs.YtpmhelkiicigfaaGreatDoor
namespace Go.Proofs.YtpmhelkiicigfaaGreatDoor
open Go.RowKit
/-- The table of powers of ten. -/
def Pw (w : World) : Prop := Lib.TabIs Tryz.prog w "internal/strconv.uint64pow10" .u64 Lib.pow10Tab
theorem Zv8 : Tryz.prog.globalNamed "internal/strconv.uint64pow10" = some 2 := by kernel_rfl
theorem Pw.below {w w' : World} (h : Pw w) (hb : Below w.heap.size w w') : Pw w' :=
 var?_below hb Zv8 (World.block_lt_of_cell? w _ (h.cell Zv8 0 (by decide +kernel))) h
theorem Zit (n : Int) (w : World) (hn : Zy n) (ht : Pw w) :
  Calls Tryz.prog 141 #[.int .i64 n] w fun e w' => e = .returned (.string ⟨(Lib.itoa n).toArray⟩) ∧ Below w.heap.size w w' := by
 go_enter Tryz.func141, Tryz.ntmps141
 go_wp2_with (go_at_call 168; refine (Tryz.strconv_Itoa n hn.1 hn.2 w ht).mono ?_; rintro e w' ⟨rfl, k, os, rfl⟩)
 go_ret;exact ⟨rfl, Lib.below_grow _ _ (Nat.le_refl _) _ _⟩
/-! ### What they compute -/
def Zt4 (n : Int) : ByteArray := ⟨(Lib.itoa n).toArray⟩
theorem Zqa {n : Int} (h : Zy n) : (Zt4 n).size ≤ 21 := by
 have := Zsw n h.1 h.2
 simpa [Zt4, ByteArray.size] using this
def csT (c : Zjx) : ByteArray := ⟨(Zca c.low c.high 128).toArray⟩
theorem Zo0 (c : Zjx) : (csT c).size ≤ 128 := by
 have := Zgt c.low c.high 128
 simpa [csT, ByteArray.size] using this
def Zc1 (v : Zd) : Option ByteArray :=
 if v.kind = 1 then some (Zt4 v.aH) else if v.kind = 2 then some v.text else if v.kind = 3 then (if 120 < (csT v.set_).size then none else some (csT v.set_)) else none
def Zjl : Option ByteArray → Value
 | some t => .tuple #[.string t, .bool true]
 | none => .tuple #[.string ⟨#[]⟩, .bool false]
def Zq0 (v : Zd) : Option Int := if v.kind = 1 then some v.aH else (Zc1 v).bind iot
def plc (i n : Int) : Int := if 1 ≤ i ∧ i ≤ n then i - 1 else if i ≤ -1 ∧ -n ≤ i then n + i else -1
theorem Zgx (v : Zd) (cs : List Value) (F : Nat → Prop) (w : World) (h : Zg F w v cs) (ht : Pw w) :
  Calls Tryz.prog 92 #[.agg cs.toArray] w fun e w' => e = .returned (Zjl (Zc1 v)) ∧ Below w.heap.size w w' := by
 obtain ⟨rfl, _, hn, _, htx, _, _⟩ := h;have HB := zh ((Below.refl w.heap.size w).alloc (Nat.le_refl _) (.cells #[.int .i64 v.kind, .int .i64 v.aH, .int .i64 v.index, .string v.text, .int .i64 v.set_.low, .int .i64 v.set_.high] 34));obtain ⟨R, hR⟩ : ∃ R, Zc1 v = R := ⟨_, rfl⟩;rw [hR];unfold Zc1 at hR
 by_cases k1 : v.kind = 1
 ·rw [if_pos k1] at hR;subst hR;have t1 : (v.kind == 1) = true := by simp [k1]
  clear k1;go_enter Tryz.func92, Tryz.ntmps92;go_wp2_with fail;refine (Zit v.aH _ hn (ht.below HB.o)).mono ?_;rintro e w2 ⟨rfl, hb2⟩;have HB2 := zh (HB.o.trans (Below.mono hb2 HB.o.size));clear hb2;go_wp2_with fail
  go_ret2
  exact ⟨rfl, HB2.o⟩
 rw [if_neg k1] at hR;have t1 : (v.kind == 1) = false := by simp [k1]
 by_cases k2 : v.kind = 2
 ·rw [if_pos k2] at hR;subst hR;have t2 : (v.kind == 2) = true := by simp [k2]
  clear k1 k2;go_enter Tryz.func92, Tryz.ntmps92;go_wp2_with fail
  go_ret2
  exact ⟨rfl, HB.o⟩
 rw [if_neg k2] at hR;have t2 : (v.kind == 2) = false := by simp [k2]
 by_cases k3 : v.kind = 3
 ·rw [if_pos k3] at hR;have t3 : (v.kind == 3) = true := by simp [k3]
  clear k1 k2 k3;have HCT := zh (fun w => Zjk v.set_.low v.set_.high w);obtain ⟨t, hT⟩ : ∃ t, csT v.set_ = t := ⟨_, rfl⟩;have hts := Zo0 v.set_;rw [hT] at hR hts;have HT := zh (show (⟨(Zca v.set_.low v.set_.high 128).toArray⟩ : ByteArray) = t from hT);clear hT
  by_cases hbig : 120 < t.size
  ·rw [if_pos hbig] at hR;subst hR;have t4 : decide ((120 : Int) < t.size) = true := decide_eq_true (by omega);have t5 : decide ((t.size : Int) ≤ 120) = false := decide_eq_false (by omega);go_enter Tryz.func92, Tryz.ntmps92;go_wp2_with fail;refine (HCT.o _).mono ?_;rw [HT.o];rintro e w2 ⟨rfl, hb2⟩;have HB2 := zh (HB.o.trans (Below.mono hb2 HB.o.size));clear hb2;go_wp2_with fail
   go_ret2
   exact ⟨rfl, HB2.o⟩
  ·rw [if_neg hbig] at hR;subst hR;have t4 : decide ((120 : Int) < t.size) = false := decide_eq_false (by omega);have t5 : decide ((t.size : Int) ≤ 120) = true := decide_eq_true (by omega);go_enter Tryz.func92, Tryz.ntmps92;go_wp2_with fail;refine (HCT.o _).mono ?_;rw [HT.o];rintro e w2 ⟨rfl, hb2⟩;have HB2 := zh (HB.o.trans (Below.mono hb2 HB.o.size));clear hb2;go_wp2_with fail
   go_ret2
   exact ⟨rfl, HB2.o⟩
 ·rw [if_neg k3] at hR;subst hR;have t3 : (v.kind == 3) = false := by simp [k3]
  clear k1 k2;go_enter Tryz.func92, Tryz.ntmps92;go_wp2_with fail
  go_ret2
  exact ⟨rfl, HB.o⟩
theorem Zgy (v : Zd) (cs : List Value) (F : Nat → Prop) (w : World) (h : Zg F w v cs) :
  Calls Tryz.prog 96 #[.agg cs.toArray] w fun e w' => e = .returned (Zjl (Zc1 v)) ∧ Below w.heap.size w w' := by
 obtain ⟨rfl, _, hn, _, htx, _, _⟩ := h;have HB := zh ((Below.refl w.heap.size w).alloc (Nat.le_refl _) (.cells #[.int .i64 v.kind, .int .i64 v.aH, .int .i64 v.index, .string v.text, .int .i64 v.set_.low, .int .i64 v.set_.high] 34));obtain ⟨R, hR⟩ : ∃ R, Zc1 v = R := ⟨_, rfl⟩;rw [hR];unfold Zc1 at hR
 by_cases k1 : v.kind = 1
 ·rw [if_pos k1] at hR;subst hR;have t1 : (v.kind == 1) = true := by simp [k1]
  clear k1;go_enter Tryz.func96, Tryz.ntmps96;go_wp2_with fail;refine (Zis v.aH _ hn.1 hn.2).mono ?_;rintro e w2 ⟨rfl, hb2⟩;have HB2 := zh (HB.o.trans (Below.mono hb2 HB.o.size));clear hb2;go_wp2_with fail
  go_ret2
  exact ⟨rfl, HB2.o⟩
 rw [if_neg k1] at hR;have t1 : (v.kind == 1) = false := by simp [k1]
 by_cases k2 : v.kind = 2
 ·rw [if_pos k2] at hR;subst hR;have t2 : (v.kind == 2) = true := by simp [k2]
  clear k1 k2;go_enter Tryz.func96, Tryz.ntmps96;go_wp2_with fail
  go_ret2
  exact ⟨rfl, HB.o⟩
 rw [if_neg k2] at hR;have t2 : (v.kind == 2) = false := by simp [k2]
 by_cases k3 : v.kind = 3
 ·rw [if_pos k3] at hR;have t3 : (v.kind == 3) = true := by simp [k3]
  clear k1 k2 k3;have HCT := zh (fun w => Zjj v.set_.low v.set_.high w);obtain ⟨t, hT⟩ : ∃ t, csT v.set_ = t := ⟨_, rfl⟩;have hts := Zo0 v.set_;rw [hT] at hR hts;have HT := zh (show (⟨(Zca v.set_.low v.set_.high 128).toArray⟩ : ByteArray) = t from hT);clear hT
  by_cases hbig : 120 < t.size
  ·rw [if_pos hbig] at hR;subst hR;have t4 : decide ((120 : Int) < t.size) = true := decide_eq_true (by omega);have t5 : decide ((t.size : Int) ≤ 120) = false := decide_eq_false (by omega);go_enter Tryz.func96, Tryz.ntmps96;go_wp2_with fail;refine (HCT.o _).mono ?_;rw [HT.o];rintro e w2 ⟨rfl, hb2⟩;have HB2 := zh (HB.o.trans (Below.mono hb2 HB.o.size));clear hb2;go_wp2_with fail
   go_ret2
   exact ⟨rfl, HB2.o⟩
  ·rw [if_neg hbig] at hR;subst hR;have t4 : decide ((120 : Int) < t.size) = false := decide_eq_false (by omega);have t5 : decide ((t.size : Int) ≤ 120) = true := decide_eq_true (by omega);go_enter Tryz.func96, Tryz.ntmps96;go_wp2_with fail;refine (HCT.o _).mono ?_;rw [HT.o];rintro e w2 ⟨rfl, hb2⟩;have HB2 := zh (HB.o.trans (Below.mono hb2 HB.o.size));clear hb2;go_wp2_with fail
   go_ret2
   exact ⟨rfl, HB2.o⟩
 ·rw [if_neg k3] at hR;subst hR;have t3 : (v.kind == 3) = false := by simp [k3]
  clear k1 k2;go_enter Tryz.func96, Tryz.ntmps96;go_wp2_with fail
  go_ret2
  exact ⟨rfl, HB.o⟩
def vZ : Zd := ⟨0, 0, 0, ⟨#[]⟩, ⟨0, 0⟩⟩
def Zq1 (t : ByteArray) (k : Int) : ByteArray := t.extract k.toNat (k.toNat + 1)
/-- An index of a value of the Store: the Store behind it, the value, the code. -/
def Zws (r : Zf) (x i : Zd) : Zf × Zd × Int :=
 if x.kind = 5 then (Zcb r ⟨8, 0, 0, [x, i], []⟩, ⟨17, r.aA.length, 0, ⟨#[]⟩, ⟨0, 0⟩⟩, 0)
 else if x.kind = 4 ∨ x.kind = 7 then
  match Zq0 i with
  | none => (r, vZ, 101)
  | some n => if plc n (Zcw r x.aH) < 0 then (r, vZ, -1) else (r, ⟨if x.kind = 4 then 15 else 16, x.aH, plc n (Zcw r x.aH), ⟨#[]⟩, ⟨0, 0⟩⟩, 0)
 else
  match Zc1 x with
  | none => (r, vZ, 114)
  | some t =>
   match Zq0 i with
   | none => (r, vZ, 101)
   | some n => if plc n t.size < 0 then (r, vZ, -1) else (r, ⟨2, 0, 0, Zq1 t (plc n t.size), ⟨0, 0⟩⟩, 0)
theorem Zfq {r : Zf} {x : Zd} (h : Zj r x = true) (hk : Zbf x.kind ≠ 0) : ∃ j : Nat, x.aH = j ∧ j < r.aA.length := by
 unfold Zj at h;rw [Bool.and_eq_true] at h;have h2 := h.2;unfold Zbi at h2;rw [if_pos hk, Bool.and_eq_true] at h2;have h0 := Ze9 h.1 (.inl hk);refine ⟨x.aH.toNat, by omega, ?_⟩
 rcases Int.lt_or_le x.aH r.aA.length with h3 | h3
 ·omega
 ·have := Zd3 (r := r) (n := x.aH) (k := Zbf x.kind) (by omega);rw [h2.1] at this
  cases this
theorem Zgz {r : Zf} {x : Zd} (h : Zj r x = true) (hn : Zy x.aH) {t : ByteArray} (ht : Zc1 x = some t) : t.size ≤ 120 := by
 unfold Zc1 at ht
 split at ht
 ·cases ht; have := Zqa hn; omega
 ·split at ht
  ·rename_i h2; cases ht; exact Zf2 h h2
  ·split at ht
   ·split at ht
    ·cases ht
    ·cases ht; omega
   ·cases ht
/-- Element k of a value of the Store. -/
def elR (r : Zf) (x : Zd) (k : Nat) : Zf × Zd × Int :=
 if x.kind = 5 ∨ x.kind = 6 then
  match (match r.aA[x.aH.toNat]? with | some o => o.aK | none => [])[k]? with
  | none => (r, vZ, -1)
  | some y => if x.kind = 5 then (Zcb r ⟨8, 0, 0, [x, y], []⟩, ⟨17, r.aA.length, 0, ⟨#[]⟩, ⟨0, 0⟩⟩, 0) else (r, y, 0)
 else Zws r x ⟨1, (k : Int) + 1, 0, ⟨#[]⟩, ⟨0, 0⟩⟩
theorem Zgv.back {F : Nat → Prop} {w x y : World} {B : Nat} (hl : Za w x) (h : Zgv (fun b => F b ∧ b < w.heap.size) x B y) : Zgv F w B y :=
 ⟨⟨Nat.le_trans hl.size h.keep.size, fun b hb hlt => (h.keep.same b ⟨fun h => hb.1 h.1, hb.2⟩ (Nat.lt_of_lt_of_le hlt hl.size)).trans (hl.block b hlt)⟩, (Below.mono hl (Nat.zero_le _)).trans h.below⟩
def Zqb (r : Zf) (n : Int) : Nat := match r.aA[n.toNat]? with | some o => o.aK.length | none => 0
theorem Zr0 {r : Zf} {i : Nat} (h : i < r.aA.length) : Zqb r (i : Int) = r.aA[i].aK.length := by
 unfold Zqb;rw [Int.toNat_natCast, List.getElem?_eq_getElem h]
/-- The aH of a coexpression's results. -/
def Zwt (r : Zf) (n : Int) : Int := match r.aA[n.toNat]? with | some o => (match o.aJ[2]? with | some c => c.aH | none => 0) | none => 0
/-- The size of a value of the Store, and a code. -/
def Zes (r : Zf) (v : Zd) : Int × Int :=
 if v.kind = 3 then (((csT v.set_).size : Int), 0)
 else if v.kind = 4 ∨ v.kind = 7 then ((Zcw r v.aH : Int), 0)
 else if v.kind = 5 ∨ v.kind = 6 then ((Zqb r v.aH : Int), 0)
 else if v.kind = 11 then (Zwt r v.aH, 0)
 else match Zc1 v with | some t => ((t.size : Int), 0) | none => (0, 114)
theorem Zt5 (r : Zf) (B : Nat) (cs : List Value) (F : Nat → Prop) (w : World) (tag aI : Int) (aJ aK : List Zd) (vi vk : Value) (h : Z3 F w B r cs) (hi : Zo Zg 6 F w aJ vi) (hk : Zo Zg 6 F w aK vk) (hkz : aK.length ≤ 1048576) :
  Calls Tryz.prog 100 #[.pointer (some ⟨B, 0, none⟩), .agg #[.int .i64 1, .int .i64 tag, .int .i64 aI, vi, vk]] w fun e w' => e = .returned (.bool (Zai r ⟨1, tag, aI, aJ, aK⟩)) ∧ Below w.heap.size w w' := by
 obtain ⟨R, hR⟩ : ∃ R, Zai r ⟨1, tag, aI, aJ, aK⟩ = R := ⟨_, rfl⟩;rw [hR];have HR0 := zh hR;clear hR;obtain ⟨Ai, ci, rfl, hci, hcmi, _⟩ := id hi;obtain ⟨Ak, ck, rfl, hck, hcmk, _⟩ := id hk;unfold maxLen at hcmi hcmk;have hl1 := (Za.refl w).alloc (.cells #[.int .i64 1, .int .i64 tag, .int .i64 aI, .slice Ai aJ.length ci, .slice Ak aK.length ck] 94);have HS := zh (h.later hl1);have HI := zh (hi.later Zc hl1);have HK := zh (hk.later Zc hl1);have HM := zh (heap_alloc_new w (.cells #[.int .i64 1, .int .i64 tag, .int .i64 aI, .slice Ai aJ.length ci, .slice Ak aK.length ck] 94));have HB := zh hl1;obtain ⟨w1, hw1⟩ : ∃ x, x = w.alloc (.cells #[.int .i64 1, .int .i64 tag, .int .i64 aI, .slice Ai aJ.length ci, .slice Ak aK.length ck] 94) := ⟨_, rfl⟩;rw [← hw1] at HS HI HK HM HB;have HLC := zh (Za.refl w1);clear h hi hk hl1;obtain ⟨s0, hs0⟩ : ∃ q, (aI == 0) = q := ⟨_, rfl⟩;have W0s0 : (aI != 0) = !s0 := by rw [← hs0]; exact (by rw [Bool.eq_iff_iff]; simp only [nJ, nK, nL, ne_eq, nM, nI, nH] <;> omega)
 obtain ⟨tg, htg⟩ : ∃ q, (tag == 0) = q := ⟨_, rfl⟩;have W0tg : (tag != 0) = !tg := by rw [← htg]; exact (by rw [Bool.eq_iff_iff]; simp only [nJ, nK, nL, ne_eq, nM, nI, nH] <;> omega)
 have W1tg : (tag == 0) = tg := htg;obtain ⟨ky, hky⟩ : ∃ q, (decide (aK.length = 0)) = q := ⟨_, rfl⟩;have W0ky : ((aK.length : Int) != 0) = !ky := by rw [← hky]; exact (by rw [Bool.eq_iff_iff]; simp only [nJ, nK, nL, ne_eq, nM, nI, nH] <;> omega)
 have W1ky : ((aK.length : Int) == 0) = ky := by rw [← hky]; exact (by rw [Bool.eq_iff_iff]; simp only [nJ, nK, nL, ne_eq, nM, nI, nH] <;> omega)
 obtain ⟨b1, hb1⟩ : ∃ q, (decide (aJ.length ≤ 24)) = q := ⟨_, rfl⟩;have W0b1 : (decide ((aJ.length : Int) ≤ 24)) = b1 := by rw [← hb1]; exact (by rw [Bool.eq_iff_iff]; simp only [nJ, nK, nL, ne_eq, nM, nI, nH] <;> omega)
 obtain ⟨ai, hai⟩ : ∃ q, (Zao r aJ) = q := ⟨_, rfl⟩;have HR := zh (show R = (s0 && (tg && (ky && (b1 && (ai))))) by rw [← HR0.o, ← hs0, ← htg, ← hky, ← hb1, ← hai]; try rfl);have Hs0 := zh hs0;clear hs0;have Htg := zh htg;clear htg;have Hky := zh hky;clear hky;have Hb1 := zh hb1;clear hb1;have Hai := zh hai;clear hai;go_enter Tryz.func100, Tryz.ntmps100;go_upto_region 4 with (fail);rw [← hw1];clear hw1;have HMC := zB HLC HM;have m0 := cz5 HMC.o
 cases s0 with
 | false =>
  simp only [Bool.not_false] at W0s0;have hR0 : R = false := by rw [HR.o]; simp
  subst hR0;go_wp2_with fail;go_ret;exact ⟨rfl, HB.o.trans HLC.o⟩
 | true =>
  simp only [Bool.not_true] at W0s0
  cases tg with
  | false =>
   simp only [Bool.not_false] at W0tg;have hR0 : R = false := by rw [HR.o]; simp
   subst hR0;go_wp2_with fail;go_ret;exact ⟨rfl, HB.o.trans HLC.o⟩
  | true =>
   simp only [Bool.not_true] at W0tg
   cases ky with
   | false =>
    simp only [Bool.not_false] at W0ky;have hR0 : R = false := by rw [HR.o]; simp
    subst hR0;go_wp2_with fail;go_ret;exact ⟨rfl, HB.o.trans HLC.o⟩
   | true =>
    simp only [Bool.not_true] at W0ky
    cases b1 with
    | false =>
     have hR0 : R = false := by rw [HR.o]; simp
     subst hR0;go_wp2_with fail;go_ret;exact ⟨rfl, HB.o.trans HLC.o⟩
    | true =>
     go_wp2_with fail;refine (Zb7 r B cs F _ aJ _ (HS.o.later HLC.o) (HI.o.later Zc HLC.o)).mono ?_;rw [Hai.o];rintro e w5 ⟨rfl, hcl⟩;clear HMC m0;replace HLC := zh (HLC.o.trans hcl);clear hcl;have hR0 : R = ai := by rw [HR.o]; simp
     subst hR0;go_wp2_with fail;go_ret;exact ⟨rfl, HB.o.trans HLC.o⟩
theorem Zt6 (r : Zf) (B : Nat) (cs : List Value) (F : Nat → Prop) (w : World) (tag aI : Int) (aJ aK : List Zd) (vi vk : Value) (h : Z3 F w B r cs) (hi : Zo Zg 6 F w aJ vi) (hk : Zo Zg 6 F w aK vk) (hkz : aK.length ≤ 1048576) :
  Calls Tryz.prog 100 #[.pointer (some ⟨B, 0, none⟩), .agg #[.int .i64 2, .int .i64 tag, .int .i64 aI, vi, vk]] w fun e w' => e = .returned (.bool (Zai r ⟨2, tag, aI, aJ, aK⟩)) ∧ Below w.heap.size w w' := by
 obtain ⟨R, hR⟩ : ∃ R, Zai r ⟨2, tag, aI, aJ, aK⟩ = R := ⟨_, rfl⟩;rw [hR];have HR0 := zh hR;clear hR;obtain ⟨Ai, ci, rfl, hci, hcmi, _⟩ := id hi;obtain ⟨Ak, ck, rfl, hck, hcmk, _⟩ := id hk;unfold maxLen at hcmi hcmk;have hl1 := (Za.refl w).alloc (.cells #[.int .i64 2, .int .i64 tag, .int .i64 aI, .slice Ai aJ.length ci, .slice Ak aK.length ck] 94);have HS := zh (h.later hl1);have HI := zh (hi.later Zc hl1);have HK := zh (hk.later Zc hl1);have HM := zh (heap_alloc_new w (.cells #[.int .i64 2, .int .i64 tag, .int .i64 aI, .slice Ai aJ.length ci, .slice Ak aK.length ck] 94));have HB := zh hl1;obtain ⟨w1, hw1⟩ : ∃ x, x = w.alloc (.cells #[.int .i64 2, .int .i64 tag, .int .i64 aI, .slice Ai aJ.length ci, .slice Ak aK.length ck] 94) := ⟨_, rfl⟩;rw [← hw1] at HS HI HK HM HB;have HLC := zh (Za.refl w1);clear h hi hk hl1;obtain ⟨s1, hs1⟩ : ∃ q, (decide (1 ≤ aI)) = q := ⟨_, rfl⟩;have W0s1 : (decide (aI < 1)) = !s1 := by rw [← hs1]; exact (by rw [Bool.eq_iff_iff]; simp only [nJ, nK, nL, ne_eq, nM, nI, nH] <;> omega)
 obtain ⟨s2, hs2⟩ : ∃ q, (decide (aI ≤ r.made)) = q := ⟨_, rfl⟩;have W0s2 : (decide (r.made < aI)) = !s2 := by rw [← hs2]; exact (by rw [Bool.eq_iff_iff]; simp only [nJ, nK, nL, ne_eq, nM, nI, nH] <;> omega)
 obtain ⟨tg, htg⟩ : ∃ q, (tag == 0) = q := ⟨_, rfl⟩;have W0tg : (tag != 0) = !tg := by rw [← htg]; exact (by rw [Bool.eq_iff_iff]; simp only [nJ, nK, nL, ne_eq, nM, nI, nH] <;> omega)
 have W1tg : (tag == 0) = tg := htg;obtain ⟨ky, hky⟩ : ∃ q, (decide (aK.length = 0)) = q := ⟨_, rfl⟩;have W0ky : ((aK.length : Int) != 0) = !ky := by rw [← hky]; exact (by rw [Bool.eq_iff_iff]; simp only [nJ, nK, nL, ne_eq, nM, nI, nH] <;> omega)
 have W1ky : ((aK.length : Int) == 0) = ky := by rw [← hky]; exact (by rw [Bool.eq_iff_iff]; simp only [nJ, nK, nL, ne_eq, nM, nI, nH] <;> omega)
 obtain ⟨b1, hb1⟩ : ∃ q, (decide (aJ.length ≤ 40)) = q := ⟨_, rfl⟩;have W0b1 : (decide ((aJ.length : Int) ≤ 40)) = b1 := by rw [← hb1]; exact (by rw [Bool.eq_iff_iff]; simp only [nJ, nK, nL, ne_eq, nM, nI, nH] <;> omega)
 obtain ⟨ai, hai⟩ : ∃ q, (Zao r aJ) = q := ⟨_, rfl⟩;have HR := zh (show R = ((s1 && s2) && (tg && (ky && (b1 && (ai))))) by rw [← HR0.o, ← hs1, ← hs2, ← htg, ← hky, ← hb1, ← hai]; try rfl);have Hs1 := zh hs1;clear hs1;have Hs2 := zh hs2;clear hs2;have Htg := zh htg;clear htg;have Hky := zh hky;clear hky;have Hb1 := zh hb1;clear hb1;have Hai := zh hai;clear hai;go_enter Tryz.func100, Tryz.ntmps100;go_upto_region 2 with (fail);rw [← hw1];clear hw1
 cases s1 with
 | false =>
  simp only [Bool.not_false] at W0s1;refine Z4 (fun W hW => ?_);have hWL : Za w1 W := by rw [hW]; exact (Za.refl _).drew
  clear hW;replace HLC := zh (HLC.o.trans hWL);clear hWL;have HMC := zB HLC HM;have m0 := cz5 HMC.o;have y12 := (HS.o.later HLC.o).made_;have hMB := Zb HMC.o;have hSB := (HS.o.later HLC.o).lt
  repeat go_big_quiet_step (fail)
  refine wpQuiet_nil ?_;have hR0 : R = false := by rw [HR.o]; simp
  subst hR0;go_wp2_with fail;go_ret;exact ⟨rfl, HB.o.trans HLC.o⟩
 | true =>
  simp only [Bool.not_true] at W0s1
  cases s2 with
  | false =>
   simp only [Bool.not_false] at W0s2;refine Z4 (fun W hW => ?_);have hWL : Za w1 W := by rw [hW]; exact (Za.refl _).drew
   clear hW;replace HLC := zh (HLC.o.trans hWL);clear hWL;have HMC := zB HLC HM;have m0 := cz5 HMC.o;have y12 := (HS.o.later HLC.o).made_;have hMB := Zb HMC.o;have hSB := (HS.o.later HLC.o).lt
   repeat go_big_quiet_step (fail)
   refine wpQuiet_nil ?_;have hR0 : R = false := by rw [HR.o]; simp
   subst hR0;go_wp2_with fail;go_ret;exact ⟨rfl, HB.o.trans HLC.o⟩
  | true =>
   simp only [Bool.not_true] at W0s2;refine Z4 (fun V hV => ?_);have hVL : Za w1 V := by rw [hV]; exact (Za.refl _).drew
   clear hV;replace HLC := zh (HLC.o.trans hVL);clear hVL;have HMC := zB HLC HM;have m0 := cz5 HMC.o;have y12 := (HS.o.later HLC.o).made_;have hMB := Zb HMC.o;have hSB := (HS.o.later HLC.o).lt
   repeat go_big_quiet_step (fail)
   refine wpQuiet_nil ?_;clear y12 hMB hSB
   cases tg with
   | false =>
    simp only [Bool.not_false] at W0tg;have hR0 : R = false := by rw [HR.o]; simp
    subst hR0;go_wp2_with fail;go_ret;exact ⟨rfl, HB.o.trans HLC.o⟩
   | true =>
    simp only [Bool.not_true] at W0tg
    cases ky with
    | false =>
     simp only [Bool.not_false] at W0ky;have hR0 : R = false := by rw [HR.o]; simp
     subst hR0;go_wp2_with fail;go_ret;exact ⟨rfl, HB.o.trans HLC.o⟩
    | true =>
     simp only [Bool.not_true] at W0ky
     cases b1 with
     | false =>
      have hR0 : R = false := by rw [HR.o]; simp
      subst hR0;go_wp2_with fail;go_ret;exact ⟨rfl, HB.o.trans HLC.o⟩
     | true =>
      go_wp2_with fail;refine (Zb7 r B cs F _ aJ _ (HS.o.later HLC.o) (HI.o.later Zc HLC.o)).mono ?_;rw [Hai.o];rintro e w5 ⟨rfl, hcl⟩;clear HMC m0;replace HLC := zh (HLC.o.trans hcl);clear hcl;have hR0 : R = ai := by rw [HR.o]; simp
      subst hR0;go_wp2_with fail;go_ret;exact ⟨rfl, HB.o.trans HLC.o⟩
theorem Zt7 (r : Zf) (B : Nat) (cs : List Value) (F : Nat → Prop) (w : World) (tag aI : Int) (aJ aK : List Zd) (vi vk : Value) (h : Z3 F w B r cs) (hi : Zo Zg 6 F w aJ vi) (hk : Zo Zg 6 F w aK vk) (hkz : aK.length ≤ 1048576) :
  Calls Tryz.prog 100 #[.pointer (some ⟨B, 0, none⟩), .agg #[.int .i64 3, .int .i64 tag, .int .i64 aI, vi, vk]] w fun e w' => e = .returned (.bool (Zai r ⟨3, tag, aI, aJ, aK⟩)) ∧ Below w.heap.size w w' := by
 obtain ⟨R, hR⟩ : ∃ R, Zai r ⟨3, tag, aI, aJ, aK⟩ = R := ⟨_, rfl⟩;rw [hR];have HR0 := zh hR;clear hR;obtain ⟨Ai, ci, rfl, hci, hcmi, _⟩ := id hi;obtain ⟨Ak, ck, rfl, hck, hcmk, _⟩ := id hk;unfold maxLen at hcmi hcmk;have hl1 := (Za.refl w).alloc (.cells #[.int .i64 3, .int .i64 tag, .int .i64 aI, .slice Ai aJ.length ci, .slice Ak aK.length ck] 94);have HS := zh (h.later hl1);have HI := zh (hi.later Zc hl1);have HK := zh (hk.later Zc hl1);have HM := zh (heap_alloc_new w (.cells #[.int .i64 3, .int .i64 tag, .int .i64 aI, .slice Ai aJ.length ci, .slice Ak aK.length ck] 94));have HB := zh hl1;obtain ⟨w1, hw1⟩ : ∃ x, x = w.alloc (.cells #[.int .i64 3, .int .i64 tag, .int .i64 aI, .slice Ai aJ.length ci, .slice Ak aK.length ck] 94) := ⟨_, rfl⟩;rw [← hw1] at HS HI HK HM HB;have HLC := zh (Za.refl w1);clear h hi hk hl1;obtain ⟨s1, hs1⟩ : ∃ q, (decide (1 ≤ aI)) = q := ⟨_, rfl⟩;have W0s1 : (decide (aI < 1)) = !s1 := by rw [← hs1]; exact (by rw [Bool.eq_iff_iff]; simp only [nJ, nK, nL, ne_eq, nM, nI, nH] <;> omega)
 obtain ⟨s2, hs2⟩ : ∃ q, (decide (aI ≤ r.made)) = q := ⟨_, rfl⟩;have W0s2 : (decide (r.made < aI)) = !s2 := by rw [← hs2]; exact (by rw [Bool.eq_iff_iff]; simp only [nJ, nK, nL, ne_eq, nM, nI, nH] <;> omega)
 obtain ⟨tg, htg⟩ : ∃ q, (tag == 0) = q := ⟨_, rfl⟩;have W0tg : (tag != 0) = !tg := by rw [← htg]; exact (by rw [Bool.eq_iff_iff]; simp only [nJ, nK, nL, ne_eq, nM, nI, nH] <;> omega)
 have W1tg : (tag == 0) = tg := htg;obtain ⟨b1, hb1⟩ : ∃ q, (decide (aK.length ≤ 40)) = q := ⟨_, rfl⟩;have W0b1 : (decide ((aK.length : Int) ≤ 40)) = b1 := by rw [← hb1]; exact (by rw [Bool.eq_iff_iff]; simp only [nJ, nK, nL, ne_eq, nM, nI, nH] <;> omega)
 obtain ⟨b2, hb2⟩ : ∃ q, (decide (aJ.length = aK.length + 1)) = q := ⟨_, rfl⟩;have W0b2 : ((aJ.length : Int) == (aK.length : Int) + 1) = b2 := by rw [← hb2]; exact (by rw [Bool.eq_iff_iff]; simp only [nJ, nK, nL, ne_eq, nM, nI, nH] <;> omega)
 have W1b2 : ((aJ.length : Int) == 1 + (aK.length : Int)) = b2 := by rw [← hb2]; exact (by rw [Bool.eq_iff_iff]; simp only [nJ, nK, nL, ne_eq, nM, nI, nH] <;> omega)
 obtain ⟨ai, hai⟩ : ∃ q, (Zao r aJ) = q := ⟨_, rfl⟩;obtain ⟨ak, hak⟩ : ∃ q, (Zao r aK) = q := ⟨_, rfl⟩;obtain ⟨di, hdi⟩ : ∃ q, (Zb0 aK) = q := ⟨_, rfl⟩;have HR := zh (show R = ((s1 && s2) && (tg && (b1 && (b2 && (ai && (ak && (di))))))) by rw [← HR0.o, ← hs1, ← hs2, ← htg, ← hb1, ← hb2, ← hai, ← hak, ← hdi]; try rfl);have Hs1 := zh hs1;clear hs1;have Hs2 := zh hs2;clear hs2;have Htg := zh htg;clear htg;have Hb1 := zh hb1;clear hb1;have Hb2 := zh hb2;clear hb2;have Hai := zh hai;clear hai;have Hak := zh hak;clear hak;have Hdi := zh hdi;clear hdi;go_enter Tryz.func100, Tryz.ntmps100;go_upto_region 2 with (fail);rw [← hw1];clear hw1
 cases s1 with
 | false =>
  simp only [Bool.not_false] at W0s1;refine Z4 (fun W hW => ?_);have hWL : Za w1 W := by rw [hW]; exact (Za.refl _).drew
  clear hW;replace HLC := zh (HLC.o.trans hWL);clear hWL;have HMC := zB HLC HM;have m0 := cz5 HMC.o;have y12 := (HS.o.later HLC.o).made_;have hMB := Zb HMC.o;have hSB := (HS.o.later HLC.o).lt
  repeat go_big_quiet_step (fail)
  refine wpQuiet_nil ?_;have hR0 : R = false := by rw [HR.o]; simp
  subst hR0;go_wp2_with fail;go_ret;exact ⟨rfl, HB.o.trans HLC.o⟩
 | true =>
  simp only [Bool.not_true] at W0s1
  cases s2 with
  | false =>
   simp only [Bool.not_false] at W0s2;refine Z4 (fun W hW => ?_);have hWL : Za w1 W := by rw [hW]; exact (Za.refl _).drew
   clear hW;replace HLC := zh (HLC.o.trans hWL);clear hWL;have HMC := zB HLC HM;have m0 := cz5 HMC.o;have y12 := (HS.o.later HLC.o).made_;have hMB := Zb HMC.o;have hSB := (HS.o.later HLC.o).lt
   repeat go_big_quiet_step (fail)
   refine wpQuiet_nil ?_;have hR0 : R = false := by rw [HR.o]; simp
   subst hR0;go_wp2_with fail;go_ret;exact ⟨rfl, HB.o.trans HLC.o⟩
  | true =>
   simp only [Bool.not_true] at W0s2;refine Z4 (fun V hV => ?_);have hVL : Za w1 V := by rw [hV]; exact (Za.refl _).drew
   clear hV;replace HLC := zh (HLC.o.trans hVL);clear hVL;have HMC := zB HLC HM;have m0 := cz5 HMC.o;have y12 := (HS.o.later HLC.o).made_;have hMB := Zb HMC.o;have hSB := (HS.o.later HLC.o).lt
   repeat go_big_quiet_step (fail)
   refine wpQuiet_nil ?_;clear y12 hMB hSB
   cases tg with
   | false =>
    simp only [Bool.not_false] at W0tg;have hR0 : R = false := by rw [HR.o]; simp
    subst hR0;go_wp2_with fail;go_ret;exact ⟨rfl, HB.o.trans HLC.o⟩
   | true =>
    simp only [Bool.not_true] at W0tg
    cases b1 with
    | false =>
     have hR0 : R = false := by rw [HR.o]; simp
     subst hR0;go_wp2_with fail;go_ret;exact ⟨rfl, HB.o.trans HLC.o⟩
    | true =>
     cases b2 with
     | false =>
      have hR0 : R = false := by rw [HR.o]; simp
      subst hR0;go_wp2_with fail;go_ret;exact ⟨rfl, HB.o.trans HLC.o⟩
     | true =>
      go_wp2_with fail;refine (Zb7 r B cs F _ aJ _ (HS.o.later HLC.o) (HI.o.later Zc HLC.o)).mono ?_;rw [Hai.o];rintro e w5 ⟨rfl, hcl⟩;clear HMC m0;replace HLC := zh (HLC.o.trans hcl);clear hcl;have HMC := zB HLC HM;have m0 := cz5 HMC.o
      cases ai with
      | false =>
       have hR0 : R = false := by rw [HR.o]; simp
       subst hR0;go_wp2_with fail;go_ret;exact ⟨rfl, HB.o.trans HLC.o⟩
      | true =>
       go_wp2_with fail;refine (Zb7 r B cs F _ aK _ (HS.o.later HLC.o) (HK.o.later Zc HLC.o)).mono ?_;rw [Hak.o];rintro e w6 ⟨rfl, hcl⟩;clear HMC m0;replace HLC := zh (HLC.o.trans hcl);clear hcl;have HMC := zB HLC HM;have m0 := cz5 HMC.o
       cases ak with
       | false =>
        have hR0 : R = false := by rw [HR.o]; simp
        subst hR0;go_wp2_with fail;go_ret;exact ⟨rfl, HB.o.trans HLC.o⟩
       | true =>
        go_wp2_with fail;refine (Zgd aK _ F _ (HK.o.later Zc HLC.o)).mono ?_;rw [Hdi.o];rintro e w7 ⟨rfl, hcl⟩;clear HMC m0;replace HLC := zh (HLC.o.trans hcl);clear hcl;have hR0 : R = di := by rw [HR.o]; simp
        subst hR0;go_wp2_with fail;go_ret;exact ⟨rfl, HB.o.trans HLC.o⟩
theorem Zt8 (r : Zf) (B : Nat) (cs : List Value) (F : Nat → Prop) (w : World) (tag aI : Int) (aJ aK : List Zd) (vi vk : Value) (h : Z3 F w B r cs) (hi : Zo Zg 6 F w aJ vi) (hk : Zo Zg 6 F w aK vk) (hkz : aK.length ≤ 1048576) :
  Calls Tryz.prog 100 #[.pointer (some ⟨B, 0, none⟩), .agg #[.int .i64 4, .int .i64 tag, .int .i64 aI, vi, vk]] w fun e w' => e = .returned (.bool (Zai r ⟨4, tag, aI, aJ, aK⟩)) ∧ Below w.heap.size w w' := by
 obtain ⟨R, hR⟩ : ∃ R, Zai r ⟨4, tag, aI, aJ, aK⟩ = R := ⟨_, rfl⟩;rw [hR];have HR0 := zh hR;clear hR;obtain ⟨Ai, ci, rfl, hci, hcmi, _⟩ := id hi;obtain ⟨Ak, ck, rfl, hck, hcmk, _⟩ := id hk;unfold maxLen at hcmi hcmk;have hl1 := (Za.refl w).alloc (.cells #[.int .i64 4, .int .i64 tag, .int .i64 aI, .slice Ai aJ.length ci, .slice Ak aK.length ck] 94);have HS := zh (h.later hl1);have HI := zh (hi.later Zc hl1);have HK := zh (hk.later Zc hl1);have HM := zh (heap_alloc_new w (.cells #[.int .i64 4, .int .i64 tag, .int .i64 aI, .slice Ai aJ.length ci, .slice Ak aK.length ck] 94));have HB := zh hl1;obtain ⟨w1, hw1⟩ : ∃ x, x = w.alloc (.cells #[.int .i64 4, .int .i64 tag, .int .i64 aI, .slice Ai aJ.length ci, .slice Ak aK.length ck] 94) := ⟨_, rfl⟩;rw [← hw1] at HS HI HK HM HB;have HLC := zh (Za.refl w1);clear h hi hk hl1;obtain ⟨s1, hs1⟩ : ∃ q, (decide (1 ≤ aI)) = q := ⟨_, rfl⟩;have W0s1 : (decide (aI < 1)) = !s1 := by rw [← hs1]; exact (by rw [Bool.eq_iff_iff]; simp only [nJ, nK, nL, ne_eq, nM, nI, nH] <;> omega)
 obtain ⟨s2, hs2⟩ : ∃ q, (decide (aI ≤ r.made)) = q := ⟨_, rfl⟩;have W0s2 : (decide (r.made < aI)) = !s2 := by rw [← hs2]; exact (by rw [Bool.eq_iff_iff]; simp only [nJ, nK, nL, ne_eq, nM, nI, nH] <;> omega)
 obtain ⟨tg, htg⟩ : ∃ q, (tag == 0) = q := ⟨_, rfl⟩;have W0tg : (tag != 0) = !tg := by rw [← htg]; exact (by rw [Bool.eq_iff_iff]; simp only [nJ, nK, nL, ne_eq, nM, nI, nH] <;> omega)
 have W1tg : (tag == 0) = tg := htg;obtain ⟨b1, hb1⟩ : ∃ q, (decide (aK.length ≤ 40)) = q := ⟨_, rfl⟩;have W0b1 : (decide ((aK.length : Int) ≤ 40)) = b1 := by rw [← hb1]; exact (by rw [Bool.eq_iff_iff]; simp only [nJ, nK, nL, ne_eq, nM, nI, nH] <;> omega)
 obtain ⟨b2, hb2⟩ : ∃ q, (decide (aJ.length = 0)) = q := ⟨_, rfl⟩;have W0b2 : ((aJ.length : Int) == 0) = b2 := by rw [← hb2]; exact (by rw [Bool.eq_iff_iff]; simp only [nJ, nK, nL, ne_eq, nM, nI, nH] <;> omega)
 obtain ⟨ak, hak⟩ : ∃ q, (Zao r aK) = q := ⟨_, rfl⟩;obtain ⟨di, hdi⟩ : ∃ q, (Zb0 aK) = q := ⟨_, rfl⟩;have HR := zh (show R = ((s1 && s2) && (tg && (b1 && (b2 && (ak && (di)))))) by rw [← HR0.o, ← hs1, ← hs2, ← htg, ← hb1, ← hb2, ← hak, ← hdi]; try rfl);have Hs1 := zh hs1;clear hs1;have Hs2 := zh hs2;clear hs2;have Htg := zh htg;clear htg;have Hb1 := zh hb1;clear hb1;have Hb2 := zh hb2;clear hb2;have Hak := zh hak;clear hak;have Hdi := zh hdi;clear hdi;go_enter Tryz.func100, Tryz.ntmps100;go_upto_region 2 with (fail);rw [← hw1];clear hw1
 cases s1 with
 | false =>
  simp only [Bool.not_false] at W0s1;refine Z4 (fun W hW => ?_);have hWL : Za w1 W := by rw [hW]; exact (Za.refl _).drew
  clear hW;replace HLC := zh (HLC.o.trans hWL);clear hWL;have HMC := zB HLC HM;have m0 := cz5 HMC.o;have y12 := (HS.o.later HLC.o).made_;have hMB := Zb HMC.o;have hSB := (HS.o.later HLC.o).lt
  repeat go_big_quiet_step (fail)
  refine wpQuiet_nil ?_;have hR0 : R = false := by rw [HR.o]; simp
  subst hR0;go_wp2_with fail;go_ret;exact ⟨rfl, HB.o.trans HLC.o⟩
 | true =>
  simp only [Bool.not_true] at W0s1
  cases s2 with
  | false =>
   simp only [Bool.not_false] at W0s2;refine Z4 (fun W hW => ?_);have hWL : Za w1 W := by rw [hW]; exact (Za.refl _).drew
   clear hW;replace HLC := zh (HLC.o.trans hWL);clear hWL;have HMC := zB HLC HM;have m0 := cz5 HMC.o;have y12 := (HS.o.later HLC.o).made_;have hMB := Zb HMC.o;have hSB := (HS.o.later HLC.o).lt
   repeat go_big_quiet_step (fail)
   refine wpQuiet_nil ?_;have hR0 : R = false := by rw [HR.o]; simp
   subst hR0;go_wp2_with fail;go_ret;exact ⟨rfl, HB.o.trans HLC.o⟩
  | true =>
   simp only [Bool.not_true] at W0s2;refine Z4 (fun V hV => ?_);have hVL : Za w1 V := by rw [hV]; exact (Za.refl _).drew
   clear hV;replace HLC := zh (HLC.o.trans hVL);clear hVL;have HMC := zB HLC HM;have m0 := cz5 HMC.o;have y12 := (HS.o.later HLC.o).made_;have hMB := Zb HMC.o;have hSB := (HS.o.later HLC.o).lt
   repeat go_big_quiet_step (fail)
   refine wpQuiet_nil ?_;clear y12 hMB hSB
   cases tg with
   | false =>
    simp only [Bool.not_false] at W0tg;have hR0 : R = false := by rw [HR.o]; simp
    subst hR0;go_wp2_with fail;go_ret;exact ⟨rfl, HB.o.trans HLC.o⟩
   | true =>
    simp only [Bool.not_true] at W0tg
    cases b1 with
    | false =>
     have hR0 : R = false := by rw [HR.o]; simp
     subst hR0;go_wp2_with fail;go_ret;exact ⟨rfl, HB.o.trans HLC.o⟩
    | true =>
     cases b2 with
     | false =>
      have hR0 : R = false := by rw [HR.o]; simp
      subst hR0;go_wp2_with fail;go_ret;exact ⟨rfl, HB.o.trans HLC.o⟩
     | true =>
      go_wp2_with fail;refine (Zb7 r B cs F _ aK _ (HS.o.later HLC.o) (HK.o.later Zc HLC.o)).mono ?_;rw [Hak.o];rintro e w6 ⟨rfl, hcl⟩;clear HMC m0;replace HLC := zh (HLC.o.trans hcl);clear hcl;have HMC := zB HLC HM;have m0 := cz5 HMC.o
      cases ak with
      | false =>
       have hR0 : R = false := by rw [HR.o]; simp
       subst hR0;go_wp2_with fail;go_ret;exact ⟨rfl, HB.o.trans HLC.o⟩
      | true =>
       go_wp2_with fail;refine (Zgd aK _ F _ (HK.o.later Zc HLC.o)).mono ?_;rw [Hdi.o];rintro e w7 ⟨rfl, hcl⟩;clear HMC m0;replace HLC := zh (HLC.o.trans hcl);clear hcl;have hR0 : R = di := by rw [HR.o]; simp
       subst hR0;go_wp2_with fail;go_ret;exact ⟨rfl, HB.o.trans HLC.o⟩
theorem Zt9 (r : Zf) (B : Nat) (cs : List Value) (F : Nat → Prop) (w : World) (tag aI : Int) (aJ aK : List Zd) (vi vk : Value) (h : Z3 F w B r cs) (hi : Zo Zg 6 F w aJ vi) (hk : Zo Zg 6 F w aK vk) (hkz : aK.length ≤ 1048576) :
  Calls Tryz.prog 100 #[.pointer (some ⟨B, 0, none⟩), .agg #[.int .i64 7, .int .i64 tag, .int .i64 aI, vi, vk]] w fun e w' => e = .returned (.bool (Zai r ⟨7, tag, aI, aJ, aK⟩)) ∧ Below w.heap.size w w' := by
 obtain ⟨R, hR⟩ : ∃ R, Zai r ⟨7, tag, aI, aJ, aK⟩ = R := ⟨_, rfl⟩;rw [hR];have HR0 := zh hR;clear hR;obtain ⟨Ai, ci, rfl, hci, hcmi, _⟩ := id hi;obtain ⟨Ak, ck, rfl, hck, hcmk, _⟩ := id hk;unfold maxLen at hcmi hcmk;have hl1 := (Za.refl w).alloc (.cells #[.int .i64 7, .int .i64 tag, .int .i64 aI, .slice Ai aJ.length ci, .slice Ak aK.length ck] 94);have HS := zh (h.later hl1);have HI := zh (hi.later Zc hl1);have HK := zh (hk.later Zc hl1);have HM := zh (heap_alloc_new w (.cells #[.int .i64 7, .int .i64 tag, .int .i64 aI, .slice Ai aJ.length ci, .slice Ak aK.length ck] 94));have HB := zh hl1;obtain ⟨w1, hw1⟩ : ∃ x, x = w.alloc (.cells #[.int .i64 7, .int .i64 tag, .int .i64 aI, .slice Ai aJ.length ci, .slice Ak aK.length ck] 94) := ⟨_, rfl⟩;rw [← hw1] at HS HI HK HM HB;have HLC := zh (Za.refl w1);clear h hi hk hl1;obtain ⟨s1, hs1⟩ : ∃ q, (decide (1 ≤ aI)) = q := ⟨_, rfl⟩;have W0s1 : (decide (aI < 1)) = !s1 := by rw [← hs1]; exact (by rw [Bool.eq_iff_iff]; simp only [nJ, nK, nL, ne_eq, nM, nI, nH] <;> omega)
 obtain ⟨s2, hs2⟩ : ∃ q, (decide (aI ≤ r.made)) = q := ⟨_, rfl⟩;have W0s2 : (decide (r.made < aI)) = !s2 := by rw [← hs2]; exact (by rw [Bool.eq_iff_iff]; simp only [nJ, nK, nL, ne_eq, nM, nI, nH] <;> omega)
 obtain ⟨ky, hky⟩ : ∃ q, (decide (aK.length = 0)) = q := ⟨_, rfl⟩;have W0ky : ((aK.length : Int) != 0) = !ky := by rw [← hky]; exact (by rw [Bool.eq_iff_iff]; simp only [nJ, nK, nL, ne_eq, nM, nI, nH] <;> omega)
 have W1ky : ((aK.length : Int) == 0) = ky := by rw [← hky]; exact (by rw [Bool.eq_iff_iff]; simp only [nJ, nK, nL, ne_eq, nM, nI, nH] <;> omega)
 obtain ⟨pa, hpa⟩ : ∃ q, (Zab r tag aJ) = q := ⟨_, rfl⟩;have HR := zh (show R = ((s1 && s2) && (ky && (pa))) by rw [← HR0.o, ← hs1, ← hs2, ← hky, ← hpa]; try rfl);have Hs1 := zh hs1;clear hs1;have Hs2 := zh hs2;clear hs2;have Hky := zh hky;clear hky;have Hpa := zh hpa;clear hpa;go_enter Tryz.func100, Tryz.ntmps100;go_upto_region 2 with (fail);rw [← hw1];clear hw1
 cases s1 with
 | false =>
  simp only [Bool.not_false] at W0s1;refine Z4 (fun W hW => ?_);have hWL : Za w1 W := by rw [hW]; exact (Za.refl _).drew
  clear hW;replace HLC := zh (HLC.o.trans hWL);clear hWL;have HMC := zB HLC HM;have m0 := cz5 HMC.o;have y12 := (HS.o.later HLC.o).made_;have hMB := Zb HMC.o;have hSB := (HS.o.later HLC.o).lt
  repeat go_big_quiet_step (fail)
  refine wpQuiet_nil ?_;have hR0 : R = false := by rw [HR.o]; simp
  subst hR0;go_wp2_with fail;go_ret;exact ⟨rfl, HB.o.trans HLC.o⟩
 | true =>
  simp only [Bool.not_true] at W0s1
  cases s2 with
  | false =>
   simp only [Bool.not_false] at W0s2;refine Z4 (fun W hW => ?_);have hWL : Za w1 W := by rw [hW]; exact (Za.refl _).drew
   clear hW;replace HLC := zh (HLC.o.trans hWL);clear hWL;have HMC := zB HLC HM;have m0 := cz5 HMC.o;have y12 := (HS.o.later HLC.o).made_;have hMB := Zb HMC.o;have hSB := (HS.o.later HLC.o).lt
   repeat go_big_quiet_step (fail)
   refine wpQuiet_nil ?_;have hR0 : R = false := by rw [HR.o]; simp
   subst hR0;go_wp2_with fail;go_ret;exact ⟨rfl, HB.o.trans HLC.o⟩
  | true =>
   simp only [Bool.not_true] at W0s2;refine Z4 (fun V hV => ?_);have hVL : Za w1 V := by rw [hV]; exact (Za.refl _).drew
   clear hV;replace HLC := zh (HLC.o.trans hVL);clear hVL;have HMC := zB HLC HM;have m0 := cz5 HMC.o;have y12 := (HS.o.later HLC.o).made_;have hMB := Zb HMC.o;have hSB := (HS.o.later HLC.o).lt
   repeat go_big_quiet_step (fail)
   refine wpQuiet_nil ?_;clear y12 hMB hSB
   cases ky with
   | false =>
    simp only [Bool.not_false] at W0ky;have hR0 : R = false := by rw [HR.o]; simp
    subst hR0;go_wp2_with fail;go_ret;exact ⟨rfl, HB.o.trans HLC.o⟩
   | true =>
    simp only [Bool.not_true] at W0ky;go_wp2_with fail;refine (Zk4 r B cs F _ 7 tag aI aJ _ _ (HS.o.later HLC.o) (HI.o.later Zc HLC.o)).mono ?_;rw [Hpa.o];rintro e w5 ⟨rfl, hcl⟩;clear HMC m0;replace HLC := zh (HLC.o.trans hcl);clear hcl;have hR0 : R = pa := by rw [HR.o]; simp
    subst hR0;go_wp2_with fail;go_ret;exact ⟨rfl, HB.o.trans HLC.o⟩
theorem Zua (r : Zf) (B : Nat) (cs : List Value) (F : Nat → Prop) (w : World) (tag aI : Int) (aJ aK : List Zd) (vi vk : Value) (h : Z3 F w B r cs) (hi : Zo Zg 6 F w aJ vi) (hk : Zo Zg 6 F w aK vk) (hkz : aK.length ≤ 1048576) :
  Calls Tryz.prog 100 #[.pointer (some ⟨B, 0, none⟩), .agg #[.int .i64 6, .int .i64 tag, .int .i64 aI, vi, vk]] w fun e w' => e = .returned (.bool (Zai r ⟨6, tag, aI, aJ, aK⟩)) ∧ Below w.heap.size w w' := by
 obtain ⟨R, hR⟩ : ∃ R, Zai r ⟨6, tag, aI, aJ, aK⟩ = R := ⟨_, rfl⟩;rw [hR];have HR0 := zh hR;clear hR;obtain ⟨Ai, ci, rfl, hci, hcmi, _⟩ := id hi;obtain ⟨Ak, ck, rfl, hck, hcmk, _⟩ := id hk;unfold maxLen at hcmi hcmk;have hl1 := (Za.refl w).alloc (.cells #[.int .i64 6, .int .i64 tag, .int .i64 aI, .slice Ai aJ.length ci, .slice Ak aK.length ck] 94);have HS := zh (h.later hl1);have HI := zh (hi.later Zc hl1);have HK := zh (hk.later Zc hl1);have HM := zh (heap_alloc_new w (.cells #[.int .i64 6, .int .i64 tag, .int .i64 aI, .slice Ai aJ.length ci, .slice Ak aK.length ck] 94));have HB := zh hl1;obtain ⟨w1, hw1⟩ : ∃ x, x = w.alloc (.cells #[.int .i64 6, .int .i64 tag, .int .i64 aI, .slice Ai aJ.length ci, .slice Ak aK.length ck] 94) := ⟨_, rfl⟩;rw [← hw1] at HS HI HK HM HB;have HLC := zh (Za.refl w1);clear h hi hk hl1;obtain ⟨s1, hs1⟩ : ∃ q, (decide (1 ≤ aI)) = q := ⟨_, rfl⟩;have W0s1 : (decide (aI < 1)) = !s1 := by rw [← hs1]; exact (by rw [Bool.eq_iff_iff]; simp only [nJ, nK, nL, ne_eq, nM, nI, nH] <;> omega)
 obtain ⟨s2, hs2⟩ : ∃ q, (decide (aI ≤ r.made)) = q := ⟨_, rfl⟩;have W0s2 : (decide (r.made < aI)) = !s2 := by rw [← hs2]; exact (by rw [Bool.eq_iff_iff]; simp only [nJ, nK, nL, ne_eq, nM, nI, nH] <;> omega)
 obtain ⟨ky, hky⟩ : ∃ q, (decide (aK.length = 0)) = q := ⟨_, rfl⟩;have W0ky : ((aK.length : Int) != 0) = !ky := by rw [← hky]; exact (by rw [Bool.eq_iff_iff]; simp only [nJ, nK, nL, ne_eq, nM, nI, nH] <;> omega)
 have W1ky : ((aK.length : Int) == 0) = ky := by rw [← hky]; exact (by rw [Bool.eq_iff_iff]; simp only [nJ, nK, nL, ne_eq, nM, nI, nH] <;> omega)
 obtain ⟨t1, ht1⟩ : ∃ q, (decide (1 ≤ tag)) = q := ⟨_, rfl⟩;have W0t1 : (decide (1 ≤ tag)) = t1 := ht1;obtain ⟨b1, hb1⟩ : ∃ q, (decide (aJ.length = 3)) = q := ⟨_, rfl⟩;have W0b1 : ((aJ.length : Int) == 3) = b1 := by rw [← hb1]; exact (by rw [Bool.eq_iff_iff]; simp only [nJ, nK, nL, ne_eq, nM, nI, nH] <;> omega)
 obtain ⟨X, hX⟩ : ∃ X, Zag r ⟨6, tag, aI, aJ, aK⟩ = X := ⟨_, rfl⟩;have HR := zh (show R = ((s1 && s2) && (ky && (X))) by rw [← HR0.o, ← hs1, ← hs2, ← hky, ← hX]; try rfl);have Hs1 := zh hs1;clear hs1;have Hs2 := zh hs2;clear hs2;have Hky := zh hky;clear hky;have Ht1 := zh ht1;clear ht1;have Hb1 := zh hb1;clear hb1;have HX := zh hX;clear hX;go_enter Tryz.func100, Tryz.ntmps100;go_upto_region 2 with (fail);rw [← hw1];clear hw1
 cases s1 with
 | false =>
  simp only [Bool.not_false] at W0s1;refine Z4 (fun W hW => ?_);have hWL : Za w1 W := by rw [hW]; exact (Za.refl _).drew
  clear hW;replace HLC := zh (HLC.o.trans hWL);clear hWL;have HMC := zB HLC HM;have m0 := cz5 HMC.o;have y12 := (HS.o.later HLC.o).made_;have hMB := Zb HMC.o;have hSB := (HS.o.later HLC.o).lt
  repeat go_big_quiet_step (fail)
  refine wpQuiet_nil ?_;have hR0 : R = false := by rw [HR.o]; simp
  subst hR0;go_wp2_with fail;go_ret;exact ⟨rfl, HB.o.trans HLC.o⟩
 | true =>
  simp only [Bool.not_true] at W0s1
  cases s2 with
  | false =>
   simp only [Bool.not_false] at W0s2;refine Z4 (fun W hW => ?_);have hWL : Za w1 W := by rw [hW]; exact (Za.refl _).drew
   clear hW;replace HLC := zh (HLC.o.trans hWL);clear hWL;have HMC := zB HLC HM;have m0 := cz5 HMC.o;have y12 := (HS.o.later HLC.o).made_;have hMB := Zb HMC.o;have hSB := (HS.o.later HLC.o).lt
   repeat go_big_quiet_step (fail)
   refine wpQuiet_nil ?_;have hR0 : R = false := by rw [HR.o]; simp
   subst hR0;go_wp2_with fail;go_ret;exact ⟨rfl, HB.o.trans HLC.o⟩
  | true =>
   simp only [Bool.not_true] at W0s2;refine Z4 (fun V hV => ?_);have hVL : Za w1 V := by rw [hV]; exact (Za.refl _).drew
   clear hV;replace HLC := zh (HLC.o.trans hVL);clear hVL;have HMC := zB HLC HM;have m0 := cz5 HMC.o;have y12 := (HS.o.later HLC.o).made_;have hMB := Zb HMC.o;have hSB := (HS.o.later HLC.o).lt
   repeat go_big_quiet_step (fail)
   refine wpQuiet_nil ?_;clear y12 hMB hSB
   cases ky with
   | false =>
    simp only [Bool.not_false] at W0ky;have hR0 : R = false := by rw [HR.o]; simp
    subst hR0;go_wp2_with fail;go_ret;exact ⟨rfl, HB.o.trans HLC.o⟩
   | true =>
    simp only [Bool.not_true] at W0ky;go_upto_region 20 with (fail);simp only [List.append_eq, List.cons_append, List.nil_append]
    cases t1 with
    | false =>
     have hX0 : X = false := by rw [← HX.o]; have := of_decide_eq_false Ht1.o; simp [Zag, this]
     have hR0 : R = false := by rw [HR.o, hX0]; simp
     subst hR0;go_wp2_with fail;go_ret;exact ⟨rfl, HB.o.trans HLC.o⟩
    | true =>
     cases b1 with
     | false =>
      have hX0 : X = false := by
       rw [← HX.o]
       match aJ, of_decide_eq_false Hb1.o with
       | [], _ => first | rfl | simp [Zag]
       | [_], _ => first | rfl | simp [Zag]
       | [_, _], _ => first | rfl | simp [Zag]
       | _ :: _ :: _ :: _ :: _, _ => first | rfl | simp [Zag]
       | [_, _, _], h => exact absurd rfl h
      have hR0 : R = false := by rw [HR.o, hX0]; simp
      subst hR0;go_wp2_with fail;go_ret;exact ⟨rfl, HB.o.trans HLC.o⟩
     | true =>
      have hlen : aJ.length = 3 := of_decide_eq_true Hb1.o;clear W0b1 Hb1;obtain ⟨a, b, c, rfl⟩ : ∃ a b c, aJ = [a, b, c] := by
       match aJ, hlen with
       | [a0, b0, c0], _ => exact ⟨a0, b0, c0, rfl⟩
      clear hlen;obtain ⟨b0, o0, e0, hb0, hat0, hel0⟩ := (HI.o.later Zc HLC.o).vat (j := 0) (by simp);cases e0;simp only [List.getElem_cons_succ, List.getElem_cons_zero, Nat.reduceMul, Nat.add_zero] at hat0 hel0;obtain ⟨i00, i01, i02, i03, i04, i05⟩ := hat0;obtain ⟨b1, o1, e1, hb1, hat1, hel1⟩ := (HI.o.later Zc HLC.o).vat (j := 1) (by simp);cases e1;simp only [List.getElem_cons_succ, List.getElem_cons_zero, Nat.reduceMul, Nat.add_zero] at hat1 hel1;obtain ⟨i10, i11, i12, i13, i14, i15⟩ := hat1;obtain ⟨b2, o2, e2, hb2, hat2, hel2⟩ := (HI.o.later Zc HLC.o).vat (j := 2) (by simp);cases e2;simp only [List.getElem_cons_succ, List.getElem_cons_zero, Nat.reduceMul, Nat.add_zero] at hat2 hel2;obtain ⟨i20, i21, i22, i23, i24, i25⟩ := hat2;obtain ⟨k0, hk0⟩ : ∃ q, (a.kind == 19) = q := ⟨_, rfl⟩;have W0k0 : (a.kind == 19) = k0 := hk0;obtain ⟨k1, hk1⟩ : ∃ q, (b.kind == 19) = q := ⟨_, rfl⟩;have W0k1 : (b.kind == 19) = k1 := hk1;obtain ⟨k2, hk2⟩ : ∃ q, (c.kind == 1) = q := ⟨_, rfl⟩;have W0k2 : (c.kind == 1) = k2 := hk2;obtain ⟨nn, hnn⟩ : ∃ q, (decide (0 ≤ c.aH)) = q := ⟨_, rfl⟩;have W0nn : (decide (0 ≤ c.aH)) = nn := hnn;obtain ⟨q0, hq0⟩ : ∃ q, (Zj r a) = q := ⟨_, rfl⟩;obtain ⟨q1, hq1⟩ : ∃ q, (Zj r b) = q := ⟨_, rfl⟩;obtain ⟨q2, hq2⟩ : ∃ q, (Zj r c) = q := ⟨_, rfl⟩;replace HR := zh (show R = ((true && true) && (true && (true && (k0 && (q0 && (k1 && (q1 && (k2 && (q2 && (nn)))))))))) by rw [HR.o, ← HX.o, ← hk0, ← hq0, ← hk1, ← hq1, ← hk2, ← hq2, ← hnn]; have := of_decide_eq_true Ht1.o; simp [Zag, this])
      have Hk0 := zh hk0;clear hk0;have Hk1 := zh hk1;clear hk1;have Hk2 := zh hk2;clear hk2;have Hnn := zh hnn;clear hnn;have Hq0 := zh hq0;clear hq0;have Hq1 := zh hq1;clear hq1;have Hq2 := zh hq2;clear hq2
      cases k0 with
      | false =>
       have hR0 : R = false := by rw [HR.o]; simp
       subst hR0;go_wp2_with fail;go_ret;exact ⟨rfl, HB.o.trans HLC.o⟩
      | true =>
       cases k1 with
       | false =>
        have hR0 : R = false := by rw [HR.o]; simp
        subst hR0;go_wp2_with fail;go_ret;exact ⟨rfl, HB.o.trans HLC.o⟩
       | true =>
        cases k2 with
        | false =>
                  have hR0 : R = false := by rw [HR.o]; simp
                  subst hR0;go_wp2_with fail;go_ret;exact ⟨rfl, HB.o.trans HLC.o⟩
        | true =>
                  cases nn with
                  | false =>
                   have hR0 : R = false := by rw [HR.o]; simp
                   subst hR0;go_wp2_with fail;go_ret;exact ⟨rfl, HB.o.trans HLC.o⟩
                  | true =>
                   go_wp2_with fail;refine (Zbr r B cs F _ a _ (HS.o.later HLC.o) hel0).mono ?_;rw [Hq0.o];rintro e w5 ⟨rfl, hcl⟩;clear HMC m0;clear hel0 hb0 i00 i01 i02 i03 i04 i05 hel1 hb1 i10 i11 i12 i13 i14 i15 hel2 hb2 i20 i21 i22 i23 i24 i25;replace HLC := zh (HLC.o.trans hcl);clear hcl;have HMC := zB HLC HM;have m0 := cz5 HMC.o;obtain ⟨b0, o0, e0, hb0, hat0, hel0⟩ := (HI.o.later Zc HLC.o).vat (j := 0) (by simp);cases e0;simp only [List.getElem_cons_succ, List.getElem_cons_zero, Nat.reduceMul, Nat.add_zero] at hat0 hel0;obtain ⟨i00, i01, i02, i03, i04, i05⟩ := hat0;obtain ⟨b1, o1, e1, hb1, hat1, hel1⟩ := (HI.o.later Zc HLC.o).vat (j := 1) (by simp);cases e1;simp only [List.getElem_cons_succ, List.getElem_cons_zero, Nat.reduceMul, Nat.add_zero] at hat1 hel1;obtain ⟨i10, i11, i12, i13, i14, i15⟩ := hat1;obtain ⟨b2, o2, e2, hb2, hat2, hel2⟩ := (HI.o.later Zc HLC.o).vat (j := 2) (by simp);cases e2;simp only [List.getElem_cons_succ, List.getElem_cons_zero, Nat.reduceMul, Nat.add_zero] at hat2 hel2;obtain ⟨i20, i21, i22, i23, i24, i25⟩ := hat2
                   cases q0 with
                   | false =>
                    have hR0 : R = false := by rw [HR.o]; simp
                    subst hR0;go_wp2_with fail;go_ret;exact ⟨rfl, HB.o.trans HLC.o⟩
                   | true =>
                    go_wp2_with fail;refine (Zbr r B cs F _ b _ (HS.o.later HLC.o) hel1).mono ?_;rw [Hq1.o];rintro e w6 ⟨rfl, hcl⟩;clear HMC m0;clear hel0 hb0 i00 i01 i02 i03 i04 i05 hel1 hb1 i10 i11 i12 i13 i14 i15 hel2 hb2 i20 i21 i22 i23 i24 i25;replace HLC := zh (HLC.o.trans hcl);clear hcl;have HMC := zB HLC HM;have m0 := cz5 HMC.o;obtain ⟨b0, o0, e0, hb0, hat0, hel0⟩ := (HI.o.later Zc HLC.o).vat (j := 0) (by simp);cases e0;simp only [List.getElem_cons_succ, List.getElem_cons_zero, Nat.reduceMul, Nat.add_zero] at hat0 hel0;obtain ⟨i00, i01, i02, i03, i04, i05⟩ := hat0;obtain ⟨b1, o1, e1, hb1, hat1, hel1⟩ := (HI.o.later Zc HLC.o).vat (j := 1) (by simp);cases e1;simp only [List.getElem_cons_succ, List.getElem_cons_zero, Nat.reduceMul, Nat.add_zero] at hat1 hel1;obtain ⟨i10, i11, i12, i13, i14, i15⟩ := hat1;obtain ⟨b2, o2, e2, hb2, hat2, hel2⟩ := (HI.o.later Zc HLC.o).vat (j := 2) (by simp);cases e2;simp only [List.getElem_cons_succ, List.getElem_cons_zero, Nat.reduceMul, Nat.add_zero] at hat2 hel2;obtain ⟨i20, i21, i22, i23, i24, i25⟩ := hat2
                    cases q1 with
                    | false =>
                     have hR0 : R = false := by rw [HR.o]; simp
                     subst hR0;go_wp2_with fail;go_ret;exact ⟨rfl, HB.o.trans HLC.o⟩
                    | true =>
                     go_wp2_with fail;refine (Zbr r B cs F _ c _ (HS.o.later HLC.o) hel2).mono ?_;rw [Hq2.o];rintro e w7 ⟨rfl, hcl⟩;clear HMC m0;clear hel0 hb0 i00 i01 i02 i03 i04 i05 hel1 hb1 i10 i11 i12 i13 i14 i15 hel2 hb2 i20 i21 i22 i23 i24 i25;replace HLC := zh (HLC.o.trans hcl);clear hcl;have hR0 : R = q2 := by rw [HR.o]; simp
                     subst hR0;go_wp2_with fail;go_ret;exact ⟨rfl, HB.o.trans HLC.o⟩
theorem Zub (r : Zf) (B : Nat) (cs : List Value) (F : Nat → Prop) (w : World) (tag aI : Int) (aJ aK : List Zd) (vi vk : Value) (h : Z3 F w B r cs) (hi : Zo Zg 6 F w aJ vi) (hk : Zo Zg 6 F w aK vk) (hkz : aK.length ≤ 1048576) :
  Calls Tryz.prog 100 #[.pointer (some ⟨B, 0, none⟩), .agg #[.int .i64 8, .int .i64 tag, .int .i64 aI, vi, vk]] w fun e w' => e = .returned (.bool (Zai r ⟨8, tag, aI, aJ, aK⟩)) ∧ Below w.heap.size w w' := by
 obtain ⟨R, hR⟩ : ∃ R, Zai r ⟨8, tag, aI, aJ, aK⟩ = R := ⟨_, rfl⟩;rw [hR];have HR0 := zh hR;clear hR;obtain ⟨Ai, ci, rfl, hci, hcmi, _⟩ := id hi;obtain ⟨Ak, ck, rfl, hck, hcmk, _⟩ := id hk;unfold maxLen at hcmi hcmk;have hl1 := (Za.refl w).alloc (.cells #[.int .i64 8, .int .i64 tag, .int .i64 aI, .slice Ai aJ.length ci, .slice Ak aK.length ck] 94);have HS := zh (h.later hl1);have HI := zh (hi.later Zc hl1);have HK := zh (hk.later Zc hl1);have HM := zh (heap_alloc_new w (.cells #[.int .i64 8, .int .i64 tag, .int .i64 aI, .slice Ai aJ.length ci, .slice Ak aK.length ck] 94));have HB := zh hl1;obtain ⟨w1, hw1⟩ : ∃ x, x = w.alloc (.cells #[.int .i64 8, .int .i64 tag, .int .i64 aI, .slice Ai aJ.length ci, .slice Ak aK.length ck] 94) := ⟨_, rfl⟩;rw [← hw1] at HS HI HK HM HB;have HLC := zh (Za.refl w1);clear h hi hk hl1;obtain ⟨s0, hs0⟩ : ∃ q, (aI == 0) = q := ⟨_, rfl⟩;have W0s0 : (aI != 0) = !s0 := by rw [← hs0]; exact (by rw [Bool.eq_iff_iff]; simp only [nJ, nK, nL, ne_eq, nM, nI, nH] <;> omega)
 obtain ⟨tg, htg⟩ : ∃ q, (tag == 0) = q := ⟨_, rfl⟩;have W0tg : (tag != 0) = !tg := by rw [← htg]; exact (by rw [Bool.eq_iff_iff]; simp only [nJ, nK, nL, ne_eq, nM, nI, nH] <;> omega)
 have W1tg : (tag == 0) = tg := htg;obtain ⟨ky, hky⟩ : ∃ q, (decide (aK.length = 0)) = q := ⟨_, rfl⟩;have W0ky : ((aK.length : Int) != 0) = !ky := by rw [← hky]; exact (by rw [Bool.eq_iff_iff]; simp only [nJ, nK, nL, ne_eq, nM, nI, nH] <;> omega)
 have W1ky : ((aK.length : Int) == 0) = ky := by rw [← hky]; exact (by rw [Bool.eq_iff_iff]; simp only [nJ, nK, nL, ne_eq, nM, nI, nH] <;> omega)
 obtain ⟨b1, hb1⟩ : ∃ q, (decide (aJ.length = 2)) = q := ⟨_, rfl⟩;have W0b1 : ((aJ.length : Int) == 2) = b1 := by rw [← hb1]; exact (by rw [Bool.eq_iff_iff]; simp only [nJ, nK, nL, ne_eq, nM, nI, nH] <;> omega)
 obtain ⟨X, hX⟩ : ∃ X, Zag r ⟨8, tag, aI, aJ, aK⟩ = X := ⟨_, rfl⟩;have HR := zh (show R = (s0 && (tg && (ky && (X)))) by rw [← HR0.o, ← hs0, ← htg, ← hky, ← hX]; try rfl);have Hs0 := zh hs0;clear hs0;have Htg := zh htg;clear htg;have Hky := zh hky;clear hky;have Hb1 := zh hb1;clear hb1;have HX := zh hX;clear hX;go_enter Tryz.func100, Tryz.ntmps100;go_upto_region 4 with (fail);rw [← hw1];clear hw1;have HMC := zB HLC HM;have m0 := cz5 HMC.o
 cases s0 with
 | false =>
  simp only [Bool.not_false] at W0s0;have hR0 : R = false := by rw [HR.o]; simp
  subst hR0;go_wp2_with fail;go_ret;exact ⟨rfl, HB.o.trans HLC.o⟩
 | true =>
  simp only [Bool.not_true] at W0s0
  cases tg with
  | false =>
   simp only [Bool.not_false] at W0tg;have hR0 : R = false := by rw [HR.o]; simp
   subst hR0;go_wp2_with fail;go_ret;exact ⟨rfl, HB.o.trans HLC.o⟩
  | true =>
   simp only [Bool.not_true] at W0tg
   cases ky with
   | false =>
    simp only [Bool.not_false] at W0ky;have hR0 : R = false := by rw [HR.o]; simp
    subst hR0;go_wp2_with fail;go_ret;exact ⟨rfl, HB.o.trans HLC.o⟩
   | true =>
    simp only [Bool.not_true] at W0ky
    cases b1 with
    | false =>
     have hX0 : X = false := by
      rw [← HX.o]
      match aJ, of_decide_eq_false Hb1.o with
      | [], _ => first | rfl | simp [Zag]
      | [_], _ => first | rfl | simp [Zag]
      | _ :: _ :: _ :: _, _ => first | rfl | simp [Zag]
      | [_, _], h => exact absurd rfl h
     have hR0 : R = false := by rw [HR.o, hX0]; simp
     subst hR0;go_wp2_with fail;go_ret;exact ⟨rfl, HB.o.trans HLC.o⟩
    | true =>
     have hlen : aJ.length = 2 := of_decide_eq_true Hb1.o;clear W0b1 Hb1;obtain ⟨a, b, rfl⟩ : ∃ a b, aJ = [a, b] := by
      match aJ, hlen with
      | [a0, b0], _ => exact ⟨a0, b0, rfl⟩
     clear hlen;obtain ⟨b0, o0, e0, hb0, hat0, hel0⟩ := (HI.o.later Zc HLC.o).vat (j := 0) (by simp);cases e0;simp only [List.getElem_cons_succ, List.getElem_cons_zero, Nat.reduceMul, Nat.add_zero] at hat0 hel0;obtain ⟨i00, i01, i02, i03, i04, i05⟩ := hat0;obtain ⟨b1, o1, e1, hb1, hat1, hel1⟩ := (HI.o.later Zc HLC.o).vat (j := 1) (by simp);cases e1;simp only [List.getElem_cons_succ, List.getElem_cons_zero, Nat.reduceMul, Nat.add_zero] at hat1 hel1;obtain ⟨i10, i11, i12, i13, i14, i15⟩ := hat1;obtain ⟨k0, hk0⟩ : ∃ q, (a.kind == 5) = q := ⟨_, rfl⟩;have W0k0 : (a.kind == 5) = k0 := hk0;obtain ⟨q0, hq0⟩ : ∃ q, (Zj r a) = q := ⟨_, rfl⟩;obtain ⟨q1, hq1⟩ : ∃ q, (Zbn r b) = q := ⟨_, rfl⟩;replace HR := zh (show R = (true && (true && (true && (k0 && (q0 && (q1)))))) by rw [HR.o, ← HX.o, ← hk0, ← hq0, ← hq1]; cases e : (a.kind == 5) with | false => simp [Zag, e] | true => have e3 := beq_iff_eq.1 e; simp [Zag, Zbn, e3]);have Hk0 := zh hk0;clear hk0;have Hq0 := zh hq0;clear hq0;have Hq1 := zh hq1;clear hq1
     cases k0 with
     | false =>
      have hR0 : R = false := by rw [HR.o]; simp
      subst hR0;go_wp2_with fail;go_ret;exact ⟨rfl, HB.o.trans HLC.o⟩
     | true =>
      go_wp2_with fail;refine (Zbr r B cs F _ a _ (HS.o.later HLC.o) hel0).mono ?_;rw [Hq0.o];rintro e w5 ⟨rfl, hcl⟩;clear HMC m0;clear hel0 hb0 i00 i01 i02 i03 i04 i05 hel1 hb1 i10 i11 i12 i13 i14 i15;replace HLC := zh (HLC.o.trans hcl);clear hcl;have HMC := zB HLC HM;have m0 := cz5 HMC.o;obtain ⟨b0, o0, e0, hb0, hat0, hel0⟩ := (HI.o.later Zc HLC.o).vat (j := 0) (by simp);cases e0;simp only [List.getElem_cons_succ, List.getElem_cons_zero, Nat.reduceMul, Nat.add_zero] at hat0 hel0;obtain ⟨i00, i01, i02, i03, i04, i05⟩ := hat0;obtain ⟨b1, o1, e1, hb1, hat1, hel1⟩ := (HI.o.later Zc HLC.o).vat (j := 1) (by simp);cases e1;simp only [List.getElem_cons_succ, List.getElem_cons_zero, Nat.reduceMul, Nat.add_zero] at hat1 hel1;obtain ⟨i10, i11, i12, i13, i14, i15⟩ := hat1
      cases q0 with
      | false =>
       have hR0 : R = false := by rw [HR.o]; simp
       subst hR0;go_wp2_with fail;go_ret;exact ⟨rfl, HB.o.trans HLC.o⟩
      | true =>
       go_wp2_with fail;refine (Zgp r B cs F _ b _ (HS.o.later HLC.o) hel1).mono ?_;rw [Hq1.o];rintro e w6 ⟨rfl, hcl⟩;clear HMC m0;clear hel0 hb0 i00 i01 i02 i03 i04 i05 hel1 hb1 i10 i11 i12 i13 i14 i15;replace HLC := zh (HLC.o.trans hcl);clear hcl;have hR0 : R = q1 := by rw [HR.o]; simp
       subst hR0;go_wp2_with fail;go_ret;exact ⟨rfl, HB.o.trans HLC.o⟩
theorem Zuc (r : Zf) (B : Nat) (cs : List Value) (F : Nat → Prop) (w : World) (tag aI : Int) (aJ aK : List Zd) (vi vk : Value) (h : Z3 F w B r cs) (hi : Zo Zg 6 F w aJ vi) (hk : Zo Zg 6 F w aK vk) (hkz : aK.length ≤ 1048576) :
  Calls Tryz.prog 100 #[.pointer (some ⟨B, 0, none⟩), .agg #[.int .i64 5, .int .i64 tag, .int .i64 aI, vi, vk]] w fun e w' => e = .returned (.bool (Zai r ⟨5, tag, aI, aJ, aK⟩)) ∧ Below w.heap.size w w' := by
 obtain ⟨R, hR⟩ : ∃ R, Zai r ⟨5, tag, aI, aJ, aK⟩ = R := ⟨_, rfl⟩;rw [hR];have HR0 := zh hR;clear hR;obtain ⟨Ai, ci, rfl, hci, hcmi, _⟩ := id hi;obtain ⟨Ak, ck, rfl, hck, hcmk, _⟩ := id hk;unfold maxLen at hcmi hcmk;have hl1 := (Za.refl w).alloc (.cells #[.int .i64 5, .int .i64 tag, .int .i64 aI, .slice Ai aJ.length ci, .slice Ak aK.length ck] 94);have HS := zh (h.later hl1);have HI := zh (hi.later Zc hl1);have HK := zh (hk.later Zc hl1);have HM := zh (heap_alloc_new w (.cells #[.int .i64 5, .int .i64 tag, .int .i64 aI, .slice Ai aJ.length ci, .slice Ak aK.length ck] 94));have HB := zh hl1;obtain ⟨w1, hw1⟩ : ∃ x, x = w.alloc (.cells #[.int .i64 5, .int .i64 tag, .int .i64 aI, .slice Ai aJ.length ci, .slice Ak aK.length ck] 94) := ⟨_, rfl⟩;rw [← hw1] at HS HI HK HM HB;have HLC := zh (Za.refl w1);clear h hi hk hl1;obtain ⟨s1, hs1⟩ : ∃ q, (decide (1 ≤ aI)) = q := ⟨_, rfl⟩;have W0s1 : (decide (aI < 1)) = !s1 := by rw [← hs1]; exact (by rw [Bool.eq_iff_iff]; simp only [nJ, nK, nL, ne_eq, nM, nI, nH] <;> omega)
 obtain ⟨s2, hs2⟩ : ∃ q, (decide (aI ≤ r.made)) = q := ⟨_, rfl⟩;have W0s2 : (decide (r.made < aI)) = !s2 := by rw [← hs2]; exact (by rw [Bool.eq_iff_iff]; simp only [nJ, nK, nL, ne_eq, nM, nI, nH] <;> omega)
 obtain ⟨ky, hky⟩ : ∃ q, (decide (aK.length = 0)) = q := ⟨_, rfl⟩;have W0ky : ((aK.length : Int) != 0) = !ky := by rw [← hky]; exact (by rw [Bool.eq_iff_iff]; simp only [nJ, nK, nL, ne_eq, nM, nI, nH] <;> omega)
 have W1ky : ((aK.length : Int) == 0) = ky := by rw [← hky]; exact (by rw [Bool.eq_iff_iff]; simp only [nJ, nK, nL, ne_eq, nM, nI, nH] <;> omega)
 obtain ⟨t1, ht1⟩ : ∃ q, (decide (0 ≤ tag)) = q := ⟨_, rfl⟩;have W0t1 : (decide (0 ≤ tag)) = t1 := ht1;obtain ⟨X, hX⟩ : ∃ X, Zag r ⟨5, tag, aI, aJ, aK⟩ = X := ⟨_, rfl⟩;have HR := zh (show R = ((s1 && s2) && (ky && (X))) by rw [← HR0.o, ← hs1, ← hs2, ← hky, ← hX]; try rfl);have Hs1 := zh hs1;clear hs1;have Hs2 := zh hs2;clear hs2;have Hky := zh hky;clear hky;have Ht1 := zh ht1;clear ht1;have HX := zh hX;clear hX;go_enter Tryz.func100, Tryz.ntmps100;go_upto_region 2 with (fail);rw [← hw1];clear hw1
 cases s1 with
 | false =>
  simp only [Bool.not_false] at W0s1;refine Z4 (fun W hW => ?_);have hWL : Za w1 W := by rw [hW]; exact (Za.refl _).drew
  clear hW;replace HLC := zh (HLC.o.trans hWL);clear hWL;have HMC := zB HLC HM;obtain ⟨m0, m1, m2, m3, m4⟩ := cz5 HMC.o;have y12 := (HS.o.later HLC.o).made_;have hMB := Zb HMC.o;have hSB := (HS.o.later HLC.o).lt
  repeat go_big_quiet_step (fail)
  refine wpQuiet_nil ?_;have hR0 : R = false := by rw [HR.o]; simp
  subst hR0;go_wp2_with fail;go_ret;exact ⟨rfl, HB.o.trans HLC.o⟩
 | true =>
  simp only [Bool.not_true] at W0s1
  cases s2 with
  | false =>
   simp only [Bool.not_false] at W0s2;refine Z4 (fun W hW => ?_);have hWL : Za w1 W := by rw [hW]; exact (Za.refl _).drew
   clear hW;replace HLC := zh (HLC.o.trans hWL);clear hWL;have HMC := zB HLC HM;obtain ⟨m0, m1, m2, m3, m4⟩ := cz5 HMC.o;have y12 := (HS.o.later HLC.o).made_;have hMB := Zb HMC.o;have hSB := (HS.o.later HLC.o).lt
   repeat go_big_quiet_step (fail)
   refine wpQuiet_nil ?_;have hR0 : R = false := by rw [HR.o]; simp
   subst hR0;go_wp2_with fail;go_ret;exact ⟨rfl, HB.o.trans HLC.o⟩
  | true =>
   simp only [Bool.not_true] at W0s2;refine Z4 (fun V hV => ?_);have hVL : Za w1 V := by rw [hV]; exact (Za.refl _).drew
   clear hV;replace HLC := zh (HLC.o.trans hVL);clear hVL;have HMC := zB HLC HM;obtain ⟨m0, m1, m2, m3, m4⟩ := cz5 HMC.o;have y12 := (HS.o.later HLC.o).made_;have hMB := Zb HMC.o;have hSB := (HS.o.later HLC.o).lt
   repeat go_big_quiet_step (fail)
   refine wpQuiet_nil ?_;clear y12 hMB hSB
   cases ky with
   | false =>
    simp only [Bool.not_false] at W0ky;have hR0 : R = false := by rw [HR.o]; simp
    subst hR0;go_wp2_with fail;go_ret;exact ⟨rfl, HB.o.trans HLC.o⟩
   | true =>
    simp only [Bool.not_true] at W0ky;go_upto_region 18 with (fail);clear m0 m1 m2 m3 m4 HMC
    cases t1 with
    | false =>
     have hX0 : X = false := by rw [← HX.o]; have := of_decide_eq_false Ht1.o; simp [Zag, this]
     refine Z4 (fun W hW => ?_);have hWL : Za V W := by rw [hW]; exact (Za.refl _).drew
     clear hW;replace HLC := zh (HLC.o.trans hWL);clear hWL;have HMC := zB HLC HM;obtain ⟨m0, m1, m2, m3, m4⟩ := cz5 HMC.o;have y12 := (HS.o.later HLC.o).made_;have hMB := Zb HMC.o;have hSB := (HS.o.later HLC.o).lt
     repeat go_big_quiet_step (fail)
     refine wpQuiet_nil ?_;have hR0 : R = false := by rw [HR.o, hX0]; simp
     subst hR0;go_wp2_with fail;go_ret;exact ⟨rfl, HB.o.trans HLC.o⟩
    | true =>
     obtain ⟨i, rfl⟩ : ∃ i : Nat, tag = i := ⟨tag.toNat, by have := of_decide_eq_true Ht1.o; omega⟩
     by_cases hlt : i < r.aB.length
     ·have u2 : decide ((i : Int) < (r.aB.length : Int)) = true := decide_eq_true (by omega);have hlt2 : (i : Int) < (r.aB.length : Int) := by omega
      obtain ⟨b3, hb3⟩ : ∃ q, (decide (aJ.length = r.aB[i].fields.length)) = q := ⟨_, rfl⟩;have W0b3 : ((aJ.length : Int) == (r.aB[i].fields.length : Int)) = b3 := by rw [← hb3]; exact (by rw [Bool.eq_iff_iff]; simp only [nJ, nK, nL, ne_eq, nM, nI, nH] <;> omega)
      obtain ⟨ai, hai⟩ : ∃ q, (Zao r aJ) = q := ⟨_, rfl⟩;replace HR := zh (show R = ((true && true) && (true && (b3 && (ai)))) by rw [HR.o, ← HX.o, ← hb3, ← hai]; simp [Zag, hlt]);have Hb3 := zh hb3;have Hai := zh hai;clear hb3 hai
      cases b3 with
      | false =>
       refine Z4 (fun W hW => ?_);have hWL : Za V W := by rw [hW]; exact (Za.refl _).drew
       clear hW;replace HLC := zh (HLC.o.trans hWL);clear hWL;have HMC := zB HLC HM;obtain ⟨m0, m1, m2, m3, m4⟩ := cz5 HMC.o;have y12 := (HS.o.later HLC.o).made_;have hMB := Zb HMC.o;have hSB := (HS.o.later HLC.o).lt;obtain ⟨Ar, cr, y1, hcr, hcmr, hrr⟩ := (HS.o.later HLC.o).aB;unfold maxLen at hcmr;obtain ⟨rb, ro, Af, cf, e0, hrb, yr⟩ := Z3.rec_ hrr hlt;cases e0
       repeat go_big_quiet_step (fail)
       refine wpQuiet_nil ?_;have hR0 : R = false := by rw [HR.o]; simp
       subst hR0;go_wp2_with fail;go_ret;exact ⟨rfl, HB.o.trans HLC.o⟩
      | true =>
       refine Zax [33, 34, 35] [] (by kernel_rfl) (fun W hW => ?_);have hWL : Za V W := by rw [hW]; exact (Za.refl _).drew
       clear hW;replace HLC := zh (HLC.o.trans hWL);clear hWL;have HMC := zB HLC HM;obtain ⟨m0, m1, m2, m3, m4⟩ := cz5 HMC.o;have y12 := (HS.o.later HLC.o).made_;have hMB := Zb HMC.o;have hSB := (HS.o.later HLC.o).lt;obtain ⟨Ar, cr, y1, hcr, hcmr, hrr⟩ := (HS.o.later HLC.o).aB;unfold maxLen at hcmr;obtain ⟨rb, ro, Af, cf, e0, hrb, yr⟩ := Z3.rec_ hrr hlt;cases e0;refine tU 0 146 (v := ?_) rfl rfl (fun x hx => ?_) ?_;rotate_left
       ·go_simp;first|done|with_reducible rfl
       simp only [Act.put, nA, nB, nC];refine tU 1 147 (v := ?_) rfl rfl (fun x hx => ?_) ?_;rotate_left
       ·have x0 := (hx.cell ⟨w.heap.size, 0, none⟩ hMB).trans m0; have x1 := (hx.cell ⟨w.heap.size, 1, none⟩ hMB).trans m1; have x2 := (hx.cell ⟨w.heap.size, 2, none⟩ hMB).trans m2; have x3 := (hx.cell ⟨w.heap.size, 3, none⟩ hMB).trans m3; have x4 := (hx.cell ⟨w.heap.size, 4, none⟩ hMB).trans m4; have x12 := (hx.cell ⟨B, 12, none⟩ hSB).trans y12; have x1r := (hx.cell ⟨B, 1, none⟩ hSB).trans y1; have xr := (hx.cell ⟨rb, ro + i * 3 + 1, none⟩ hrb).trans yr; go_simp;first|done|with_reducible rfl
       simp only [Act.put, nA, nB, nC];refine tU 2 148 (v := ?_) rfl rfl (fun x hx => ?_) ?_;rotate_left
       ·go_simp;first|done|with_reducible rfl
       simp only [Act.put, nA, nB, nC];refine tU 3 149 (v := ?_) rfl rfl (fun x hx => ?_) ?_;rotate_left
       ·go_simp;first|done|with_reducible rfl
       simp only [Act.put, nA, nB, nC];refine tU 4 150 (v := ?_) rfl rfl (fun x hx => ?_) ?_;rotate_left
       ·go_simp;first|done|with_reducible rfl
       simp only [Act.put, nA, nB, nC];refine tU 5 151 (v := ?_) rfl rfl (fun x hx => ?_) ?_;rotate_left
       ·have x0 := (hx.cell ⟨w.heap.size, 0, none⟩ hMB).trans m0; have x1 := (hx.cell ⟨w.heap.size, 1, none⟩ hMB).trans m1; have x2 := (hx.cell ⟨w.heap.size, 2, none⟩ hMB).trans m2; have x3 := (hx.cell ⟨w.heap.size, 3, none⟩ hMB).trans m3; have x4 := (hx.cell ⟨w.heap.size, 4, none⟩ hMB).trans m4; have x12 := (hx.cell ⟨B, 12, none⟩ hSB).trans y12; have x1r := (hx.cell ⟨B, 1, none⟩ hSB).trans y1; have xr := (hx.cell ⟨rb, ro + i * 3 + 1, none⟩ hrb).trans yr; go_simp;first|done|with_reducible rfl
       simp only [Act.put, nA, nB, nC];refine tU 6 152 (v := ?_) rfl rfl (fun x hx => ?_) ?_;rotate_left
       ·go_simp;first|done|with_reducible rfl
       simp only [Act.put, nA, nB, nC];refine tU 7 153 (v := ?_) rfl rfl (fun x hx => ?_) ?_;rotate_left
       ·go_simp;first|done|with_reducible rfl
       simp only [Act.put, nA, nB, nC];refine tU 8 154 (v := ?_) rfl rfl (fun x hx => ?_) ?_;rotate_left
       ·go_simp;first|done|with_reducible rfl
       simp only [Act.put, nA, nB, nC];refine tU 9 155 (v := ?_) rfl rfl (fun x hx => ?_) ?_;rotate_left
       ·have x0 := (hx.cell ⟨w.heap.size, 0, none⟩ hMB).trans m0; have x1 := (hx.cell ⟨w.heap.size, 1, none⟩ hMB).trans m1; have x2 := (hx.cell ⟨w.heap.size, 2, none⟩ hMB).trans m2; have x3 := (hx.cell ⟨w.heap.size, 3, none⟩ hMB).trans m3; have x4 := (hx.cell ⟨w.heap.size, 4, none⟩ hMB).trans m4; have x12 := (hx.cell ⟨B, 12, none⟩ hSB).trans y12; have x1r := (hx.cell ⟨B, 1, none⟩ hSB).trans y1; have xr := (hx.cell ⟨rb, ro + i * 3 + 1, none⟩ hrb).trans yr; go_simp;first|done|with_reducible rfl
       simp only [Act.put, nA, nB, nC];refine tU 10 156 (v := ?_) rfl rfl (fun x hx => ?_) ?_;rotate_left
       ·go_simp;first|done|with_reducible rfl
       simp only [Act.put, nA, nB, nC];refine tU 11 157 (v := ?_) rfl rfl (fun x hx => ?_) ?_;rotate_left
       ·go_simp;first|done|with_reducible rfl
       simp only [Act.put, nA, nB, nC];refine tU 12 158 (v := ?_) rfl rfl (fun x hx => ?_) ?_;rotate_left
       ·go_simp;first|done|with_reducible rfl
       simp only [Act.put, nA, nB, nC];refine tU 13 159 (v := ?_) rfl rfl (fun x hx => ?_) ?_;rotate_left
       ·go_simp;first|done|with_reducible rfl
       simp only [Act.put, nA, nB, nC];refine tU 14 160 (v := ?_) rfl rfl (fun x hx => ?_) ?_;rotate_left
       ·go_simp;first|done|with_reducible rfl
       simp only [Act.put, nA, nB, nC];refine tU 15 161 (v := ?_) rfl rfl (fun x hx => ?_) ?_;rotate_left
       ·have x0 := (hx.cell ⟨w.heap.size, 0, none⟩ hMB).trans m0; have x1 := (hx.cell ⟨w.heap.size, 1, none⟩ hMB).trans m1; have x2 := (hx.cell ⟨w.heap.size, 2, none⟩ hMB).trans m2; have x3 := (hx.cell ⟨w.heap.size, 3, none⟩ hMB).trans m3; have x4 := (hx.cell ⟨w.heap.size, 4, none⟩ hMB).trans m4; have x12 := (hx.cell ⟨B, 12, none⟩ hSB).trans y12; have x1r := (hx.cell ⟨B, 1, none⟩ hSB).trans y1; have xr := (hx.cell ⟨rb, ro + i * 3 + 1, none⟩ hrb).trans yr; go_simp;first|done|with_reducible rfl
       simp only [Act.put, nA, nB, nC];refine tU 16 162 (v := ?_) rfl rfl (fun x hx => ?_) ?_;rotate_left
       ·go_simp;first|done|with_reducible rfl
       simp only [Act.put, nA, nB, nC];refine tU 17 163 (v := ?_) rfl rfl (fun x hx => ?_) ?_;rotate_left
       ·go_simp;first|done|with_reducible rfl
       simp only [Act.put, nA, nB, nC];refine tU 18 164 (v := ?_) rfl rfl (fun x hx => ?_) ?_;rotate_left
       ·go_simp;first|done|with_reducible rfl
       simp only [Act.put, nA, nB, nC];refine tU 19 165 (v := ?_) rfl rfl (fun x hx => ?_) ?_;rotate_left
       ·go_simp;first|done|with_reducible rfl
       simp only [Act.put, nA, nB, nC];refine tU 20 166 (v := ?_) rfl rfl (fun x hx => ?_) ?_;rotate_left
       ·have x0 := (hx.cell ⟨w.heap.size, 0, none⟩ hMB).trans m0; have x1 := (hx.cell ⟨w.heap.size, 1, none⟩ hMB).trans m1; have x2 := (hx.cell ⟨w.heap.size, 2, none⟩ hMB).trans m2; have x3 := (hx.cell ⟨w.heap.size, 3, none⟩ hMB).trans m3; have x4 := (hx.cell ⟨w.heap.size, 4, none⟩ hMB).trans m4; have x12 := (hx.cell ⟨B, 12, none⟩ hSB).trans y12; have x1r := (hx.cell ⟨B, 1, none⟩ hSB).trans y1; have xr := (hx.cell ⟨rb, ro + i * 3 + 1, none⟩ hrb).trans yr; go_simp;first|done|with_reducible rfl
       simp only [Act.put, nA, nB, nC];refine tU 21 167 (v := ?_) rfl rfl (fun x hx => ?_) ?_;rotate_left
       ·go_simp;first|done|with_reducible rfl
       simp only [Act.put, nA, nB, nC];refine tU 22 168 (v := ?_) rfl rfl (fun x hx => ?_) ?_;rotate_left
       ·have x0 := (hx.cell ⟨w.heap.size, 0, none⟩ hMB).trans m0; have x1 := (hx.cell ⟨w.heap.size, 1, none⟩ hMB).trans m1; have x2 := (hx.cell ⟨w.heap.size, 2, none⟩ hMB).trans m2; have x3 := (hx.cell ⟨w.heap.size, 3, none⟩ hMB).trans m3; have x4 := (hx.cell ⟨w.heap.size, 4, none⟩ hMB).trans m4; have x12 := (hx.cell ⟨B, 12, none⟩ hSB).trans y12; have x1r := (hx.cell ⟨B, 1, none⟩ hSB).trans y1; have xr := (hx.cell ⟨rb, ro + i * 3 + 1, none⟩ hrb).trans yr; go_simp;first|done|with_reducible rfl
       simp only [Act.put, nA, nB, nC];refine tU 23 169 (v := ?_) rfl rfl (fun x hx => ?_) ?_;rotate_left
       ·go_simp;first|done|with_reducible rfl|rw[if_neg (by omega)]|rw[if_pos (by omega)]
       simp only [Act.put, nA, nB, nC];refine tU 24 170 (v := ?_) rfl rfl (fun x hx => ?_) ?_;rotate_left
       ·go_simp;first|done|with_reducible rfl
       simp only [Act.put, nA, nB, nC];refine tU 25 171 (v := ?_) rfl rfl (fun x hx => ?_) ?_;rotate_left
       ·have x0 := (hx.cell ⟨w.heap.size, 0, none⟩ hMB).trans m0; have x1 := (hx.cell ⟨w.heap.size, 1, none⟩ hMB).trans m1; have x2 := (hx.cell ⟨w.heap.size, 2, none⟩ hMB).trans m2; have x3 := (hx.cell ⟨w.heap.size, 3, none⟩ hMB).trans m3; have x4 := (hx.cell ⟨w.heap.size, 4, none⟩ hMB).trans m4; have x12 := (hx.cell ⟨B, 12, none⟩ hSB).trans y12; have x1r := (hx.cell ⟨B, 1, none⟩ hSB).trans y1; have xr := (hx.cell ⟨rb, ro + i * 3 + 1, none⟩ hrb).trans yr; go_simp;first|done|with_reducible rfl
       simp only [Act.put, nA, nB, nC];refine tU 26 172 (v := ?_) rfl rfl (fun x hx => ?_) ?_;rotate_left
       ·go_simp;first|done|with_reducible rfl
       simp only [Act.put, nA, nB, nC];refine tU 27 173 (v := ?_) rfl rfl (fun x hx => ?_) ?_;rotate_left
       ·go_simp;first|done|with_reducible rfl
       simp only [Act.put, nA, nB, nC];refine tU 28 174 (v := ?_) rfl rfl (fun x hx => ?_) ?_;rotate_left
       ·go_simp;first|done|with_reducible rfl
       simp only [Act.put, nA, nB, nC];refine tU 29 175 (v := ?_) rfl rfl (fun x hx => ?_) ?_;rotate_left
       ·go_simp;first|done|with_reducible rfl
       simp only [Act.put, nA, nB, nC];refine tU 30 176 (v := ?_) rfl rfl (fun x hx => ?_) ?_;rotate_left
       ·go_simp;first|done|with_reducible rfl
       simp only [Act.put, nA, nB, nC];refine tU 31 177 (v := ?_) rfl rfl (fun x hx => ?_) ?_;rotate_left
       ·go_simp;first|done|with_reducible rfl
       simp only [Act.put, nA, nB, nC];refine tU 32 178 (v := ?_) rfl rfl (fun x hx => ?_) ?_;rotate_left
       ·have x0 := (hx.cell ⟨w.heap.size, 0, none⟩ hMB).trans m0; have x1 := (hx.cell ⟨w.heap.size, 1, none⟩ hMB).trans m1; have x2 := (hx.cell ⟨w.heap.size, 2, none⟩ hMB).trans m2; have x3 := (hx.cell ⟨w.heap.size, 3, none⟩ hMB).trans m3; have x4 := (hx.cell ⟨w.heap.size, 4, none⟩ hMB).trans m4; have x12 := (hx.cell ⟨B, 12, none⟩ hSB).trans y12; have x1r := (hx.cell ⟨B, 1, none⟩ hSB).trans y1; have xr := (hx.cell ⟨rb, ro + i * 3 + 1, none⟩ hrb).trans yr; go_simp;first|done|with_reducible rfl
       simp only [Act.put, nA, nB, nC];refine Za7 [_, _, _] (by kernel_rfl) rfl rfl ?_;simp only [List.getElem_toArray, List.getElem_cons_succ, List.getElem_cons_zero];go_wp2_with fail;refine (Zb7 r B cs F _ aJ _ (HS.o.later HLC.o) (HI.o.later Zc HLC.o)).mono ?_;rw [Hai.o];rintro e w5 ⟨rfl, hcl⟩;clear HMC m0 m1 m2 m3 m4;replace HLC := zh (HLC.o.trans hcl);clear hcl;have hR0 : R = ai := by rw [HR.o]; simp
       subst hR0;go_wp2_with fail;go_ret;exact ⟨rfl, HB.o.trans HLC.o⟩
     ·have u2 : decide ((i : Int) < (r.aB.length : Int)) = false := decide_eq_false (by omega);have hX0 : X = false := by rw [← HX.o]; simp [Zag, List.getElem?_eq_none (show r.aB.length ≤ i by omega)]
      refine Z4 (fun W hW => ?_);have hWL : Za V W := by rw [hW]; exact (Za.refl _).drew
      clear hW;replace HLC := zh (HLC.o.trans hWL);clear hWL;have HMC := zB HLC HM;obtain ⟨m0, m1, m2, m3, m4⟩ := cz5 HMC.o;have y12 := (HS.o.later HLC.o).made_;have hMB := Zb HMC.o;have hSB := (HS.o.later HLC.o).lt;obtain ⟨Ar, cr, y1, hcr, hcmr, hrr⟩ := (HS.o.later HLC.o).aB;unfold maxLen at hcmr
      repeat go_big_quiet_step (fail)
      refine wpQuiet_nil ?_;have hR0 : R = false := by rw [HR.o, hX0]; simp
      subst hR0;go_wp2_with fail;go_ret;exact ⟨rfl, HB.o.trans HLC.o⟩
theorem Zud (r : Zf) (B : Nat) (cs : List Value) (F : Nat → Prop) (w : World) (tag aI : Int) (aJ aK : List Zd) (vi vk : Value) (h : Z3 F w B r cs) (hi : Zo Zg 6 F w aJ vi) (hk : Zo Zg 6 F w aK vk) (hkz : aK.length ≤ 1048576) :
  Calls Tryz.prog 100 #[.pointer (some ⟨B, 0, none⟩), .agg #[.int .i64 9, .int .i64 tag, .int .i64 aI, vi, vk]] w fun e w' => e = .returned (.bool (Zai r ⟨9, tag, aI, aJ, aK⟩)) ∧ Below w.heap.size w w' := by
 obtain ⟨R, hR⟩ : ∃ R, Zai r ⟨9, tag, aI, aJ, aK⟩ = R := ⟨_, rfl⟩;rw [hR];have HR0 := zh hR;clear hR;obtain ⟨Ai, ci, rfl, hci, hcmi, _⟩ := id hi;obtain ⟨Ak, ck, rfl, hck, hcmk, _⟩ := id hk;unfold maxLen at hcmi hcmk;have hl1 := (Za.refl w).alloc (.cells #[.int .i64 9, .int .i64 tag, .int .i64 aI, .slice Ai aJ.length ci, .slice Ak aK.length ck] 94);have HS := zh (h.later hl1);have HI := zh (hi.later Zc hl1);have HK := zh (hk.later Zc hl1);have HM := zh (heap_alloc_new w (.cells #[.int .i64 9, .int .i64 tag, .int .i64 aI, .slice Ai aJ.length ci, .slice Ak aK.length ck] 94));have HB := zh hl1;obtain ⟨w1, hw1⟩ : ∃ x, x = w.alloc (.cells #[.int .i64 9, .int .i64 tag, .int .i64 aI, .slice Ai aJ.length ci, .slice Ak aK.length ck] 94) := ⟨_, rfl⟩;rw [← hw1] at HS HI HK HM HB;have HLC := zh (Za.refl w1);clear h hi hk hl1;obtain ⟨s0, hs0⟩ : ∃ q, (aI == 0) = q := ⟨_, rfl⟩;have W0s0 : (aI != 0) = !s0 := by rw [← hs0]; exact (by rw [Bool.eq_iff_iff]; simp only [nJ, nK, nL, ne_eq, nM, nI, nH] <;> omega)
 obtain ⟨tg, htg⟩ : ∃ q, (tag == 0) = q := ⟨_, rfl⟩;have W0tg : (tag != 0) = !tg := by rw [← htg]; exact (by rw [Bool.eq_iff_iff]; simp only [nJ, nK, nL, ne_eq, nM, nI, nH] <;> omega)
 have W1tg : (tag == 0) = tg := htg;obtain ⟨ky, hky⟩ : ∃ q, (decide (aK.length = 0)) = q := ⟨_, rfl⟩;have W0ky : ((aK.length : Int) != 0) = !ky := by rw [← hky]; exact (by rw [Bool.eq_iff_iff]; simp only [nJ, nK, nL, ne_eq, nM, nI, nH] <;> omega)
 have W1ky : ((aK.length : Int) == 0) = ky := by rw [← hky]; exact (by rw [Bool.eq_iff_iff]; simp only [nJ, nK, nL, ne_eq, nM, nI, nH] <;> omega)
 obtain ⟨b1, hb1⟩ : ∃ q, (decide (aJ.length = 2)) = q := ⟨_, rfl⟩;have W0b1 : ((aJ.length : Int) == 2) = b1 := by rw [← hb1]; exact (by rw [Bool.eq_iff_iff]; simp only [nJ, nK, nL, ne_eq, nM, nI, nH] <;> omega)
 obtain ⟨X, hX⟩ : ∃ X, Zag r ⟨9, tag, aI, aJ, aK⟩ = X := ⟨_, rfl⟩;have HR := zh (show R = (s0 && (tg && (ky && (X)))) by rw [← HR0.o, ← hs0, ← htg, ← hky, ← hX]; try rfl);have Hs0 := zh hs0;clear hs0;have Htg := zh htg;clear htg;have Hky := zh hky;clear hky;have Hb1 := zh hb1;clear hb1;have HX := zh hX;clear hX;go_enter Tryz.func100, Tryz.ntmps100;go_upto_region 4 with (fail);rw [← hw1];clear hw1;have HMC := zB HLC HM;obtain ⟨m0, m1, m2, m3, m4⟩ := cz5 HMC.o
 cases s0 with
 | false =>
  simp only [Bool.not_false] at W0s0;have hR0 : R = false := by rw [HR.o]; simp
  subst hR0;go_wp2_with fail;go_ret;exact ⟨rfl, HB.o.trans HLC.o⟩
 | true =>
  simp only [Bool.not_true] at W0s0
  cases tg with
  | false =>
   simp only [Bool.not_false] at W0tg;have hR0 : R = false := by rw [HR.o]; simp
   subst hR0;go_wp2_with fail;go_ret;exact ⟨rfl, HB.o.trans HLC.o⟩
  | true =>
   simp only [Bool.not_true] at W0tg
   cases ky with
   | false =>
    simp only [Bool.not_false] at W0ky;have hR0 : R = false := by rw [HR.o]; simp
    subst hR0;go_wp2_with fail;go_ret;exact ⟨rfl, HB.o.trans HLC.o⟩
   | true =>
    simp only [Bool.not_true] at W0ky;go_upto_region 26 with (fail);clear m0 m1 m2 m3 m4 HMC;obtain ⟨m0, m1, m2, m3, m4⟩ := cz5 HM.o;have y12 := HS.o.made_;have hMB := Zb HM.o;have hSB := HS.o.lt
    cases b1 with
    | false =>
     have hX0 : X = false := by
      rw [← HX.o]
      match aJ, of_decide_eq_false Hb1.o with
      | [], _ => first | rfl | simp [Zag]
      | [_], _ => first | rfl | simp [Zag]
      | _ :: _ :: _ :: _, _ => first | rfl | simp [Zag]
      | [_, _], h => exact absurd rfl h
     refine Z4 (fun W hW => ?_);replace HLC := zh (HLC.o.trans (show Za w1 W by rw [hW]; exact (Za.refl _).drew));clear hW;have hx := HLC.o;have x0 := (hx.cell ⟨w.heap.size, 0, none⟩ hMB).trans m0; have x1 := (hx.cell ⟨w.heap.size, 1, none⟩ hMB).trans m1; have x2 := (hx.cell ⟨w.heap.size, 2, none⟩ hMB).trans m2; have x3 := (hx.cell ⟨w.heap.size, 3, none⟩ hMB).trans m3; have x4 := (hx.cell ⟨w.heap.size, 4, none⟩ hMB).trans m4; have x12 := (hx.cell ⟨B, 12, none⟩ hSB).trans y12
     repeat go_big_quiet_step (fail)
     refine wpQuiet_nil ?_;clear hx x0 x1 x2 x3 x4 x12;have hR0 : R = false := by rw [HR.o, hX0]; simp
     subst hR0;go_wp2_with fail;go_ret;exact ⟨rfl, HB.o.trans HLC.o⟩
    | true =>
     have hlen : aJ.length = 2 := of_decide_eq_true Hb1.o;clear W0b1 Hb1;obtain ⟨a, b, rfl⟩ : ∃ a b, aJ = [a, b] := by
      match aJ, hlen with
      | [a0, b0], _ => exact ⟨a0, b0, rfl⟩
     clear hlen;obtain ⟨k0, hk0⟩ : ∃ q, (a.kind == 2) = q := ⟨_, rfl⟩;have W0k0 : (a.kind == 2) = k0 := hk0;obtain ⟨k1, hk1⟩ : ∃ q, (b.kind == 1) = q := ⟨_, rfl⟩;have W0k1 : (b.kind == 1) = k1 := hk1;obtain ⟨q0, hq0⟩ : ∃ q, (Zj r a) = q := ⟨_, rfl⟩;obtain ⟨q1, hq1⟩ : ∃ q, (Zj r b) = q := ⟨_, rfl⟩;obtain ⟨n1, hn1⟩ : ∃ q, (decide (1 ≤ b.aH)) = q := ⟨_, rfl⟩;have W0n1 : (decide (1 ≤ b.aH)) = n1 := hn1;obtain ⟨n2, hn2⟩ : ∃ q, (decide (b.aH ≤ (a.text.size : Int) + 1)) = q := ⟨_, rfl⟩;have W0n2 : (decide (b.aH ≤ (a.text.size : Int) + 1)) = n2 := hn2;replace HR := zh (show R = (true && (true && (true && (k0 && (k1 && (q0 && (q1 && (n1 && (n2))))))))) by rw [HR.o, ← HX.o, ← hk0, ← hk1, ← hq0, ← hq1, ← hn1, ← hn2]; cases e : (a.kind == 2) with | false => simp [Zag, e] | true => (have e3 := beq_iff_eq.1 e; cases e' : (b.kind == 1) with | false => simp [Zag, e'] | true => (have e4 := beq_iff_eq.1 e'; simp [Zag, Zbn, e3, e4])));have Hk0 := zh hk0;clear hk0;have Hk1 := zh hk1;clear hk1;have Hq0 := zh hq0;clear hq0;have Hq1 := zh hq1;clear hq1;have Hn1 := zh hn1;clear hn1;have Hn2 := zh hn2;clear hn2;obtain ⟨b0, o0, e0, hb0, hat0, hel0⟩ := HI.o.vat (j := 0) (by simp);cases e0;simp only [List.getElem_cons_succ, List.getElem_cons_zero, Nat.reduceMul, Nat.add_zero] at hat0 hel0;have HAT0 := zh hat0;have HEL0 := zh hel0;clear hat0 hel0;obtain ⟨b1, o1, e1, hb1, hat1, hel1⟩ := HI.o.vat (j := 1) (by simp);cases e1;simp only [List.getElem_cons_succ, List.getElem_cons_zero, Nat.reduceMul, Nat.add_zero] at hat1 hel1
     have HAT1 := zh hat1;have HEL1 := zh hel1;clear hat1 hel1
     cases k0 with
     | false =>
      refine Z4 (fun W hW => ?_);replace HLC := zh (HLC.o.trans (show Za w1 W by rw [hW]; exact (Za.refl _).drew));clear hW;have hx := HLC.o;have x0 := (hx.cell ⟨w.heap.size, 0, none⟩ hMB).trans m0; have x1 := (hx.cell ⟨w.heap.size, 1, none⟩ hMB).trans m1; have x2 := (hx.cell ⟨w.heap.size, 2, none⟩ hMB).trans m2; have x3 := (hx.cell ⟨w.heap.size, 3, none⟩ hMB).trans m3; have x4 := (hx.cell ⟨w.heap.size, 4, none⟩ hMB).trans m4; have x12 := (hx.cell ⟨B, 12, none⟩ hSB).trans y12; obtain ⟨i00, i01, i02, i03, i04, i05⟩ := HAT0.o.later hx; obtain ⟨i10, i11, i12, i13, i14, i15⟩ := HAT1.o.later hx
      repeat go_big_quiet_step (fail)
      refine wpQuiet_nil ?_;clear hx x0 x1 x2 x3 x4 x12 i00 i01 i02 i03 i04 i05 i10 i11 i12 i13 i14 i15;have hR0 : R = false := by rw [HR.o]; simp
      subst hR0;go_wp2_with fail;go_ret;exact ⟨rfl, HB.o.trans HLC.o⟩
     | true =>
      cases k1 with
      | false =>
       refine Z4 (fun W hW => ?_);replace HLC := zh (HLC.o.trans (show Za w1 W by rw [hW]; exact (Za.refl _).drew));clear hW;have hx := HLC.o;have x0 := (hx.cell ⟨w.heap.size, 0, none⟩ hMB).trans m0; have x1 := (hx.cell ⟨w.heap.size, 1, none⟩ hMB).trans m1; have x2 := (hx.cell ⟨w.heap.size, 2, none⟩ hMB).trans m2; have x3 := (hx.cell ⟨w.heap.size, 3, none⟩ hMB).trans m3; have x4 := (hx.cell ⟨w.heap.size, 4, none⟩ hMB).trans m4; have x12 := (hx.cell ⟨B, 12, none⟩ hSB).trans y12; obtain ⟨i00, i01, i02, i03, i04, i05⟩ := HAT0.o.later hx; obtain ⟨i10, i11, i12, i13, i14, i15⟩ := HAT1.o.later hx
       repeat go_big_quiet_step (fail)
       refine wpQuiet_nil ?_;clear hx x0 x1 x2 x3 x4 x12 i00 i01 i02 i03 i04 i05 i10 i11 i12 i13 i14 i15;have hR0 : R = false := by rw [HR.o]; simp
       subst hR0;go_wp2_with fail;go_ret;exact ⟨rfl, HB.o.trans HLC.o⟩
      | true =>
       cases q0 with
       | false =>
        refine Zf4 w1 (by kernel_rfl) (by kernel_rfl) HLC.o ?_;obtain ⟨x0, x1, x2, x3, x4⟩ := cg5 w.heap.size HM.o;have x12 := fun y => ((Zm w1 y).cell ⟨B, 12, none⟩ hSB).trans y12;obtain ⟨i00, i01, i02, i03, i04, i05⟩ := vg HAT0.o;obtain ⟨i10, i11, i12, i13, i14, i15⟩ := vg HAT1.o
        repeat go_big_quiet_step (fail)
        go_big_quiet_step ((refine (Zbr r B cs F _ a _ (HS.o.later (Zm w1 _)) (Zc.keep HEL0.o (fun _ h => h) (Ze.later (Zm w1 _)))).mono ?_; rw [Hq0.o]; rintro e w9 ⟨rfl, hcl⟩; exact ⟨rfl, _, Zch ((Zm w1 _).trans hcl)⟩))
        repeat go_big_quiet_step (fail)
        refine wpQuiet_nil (Zc5 fun W hWL => ?_);replace HLC := zh hWL;clear hWL x0 x1 x2 x3 x4 x12 i00 i01 i02 i03 i04 i05 i10 i11 i12 i13 i14 i15;have hR0 : R = false := by rw [HR.o]; simp
        subst hR0;go_wp2_with fail;go_ret;exact ⟨rfl, HB.o.trans HLC.o⟩
       | true =>
        have htx : a.text.size ≤ 120 := Zf2 Hq0.o (by simpa using Hk0.o);have hwr : IntKind.i64.wrap ((a.text.size : Int) + 1) = (a.text.size : Int) + 1 := by rw [IntKind.wrap_i64]; omega
        cases q1 with
        | false =>
         refine Zf4 w1 (by kernel_rfl) (by kernel_rfl) HLC.o ?_;obtain ⟨x0, x1, x2, x3, x4⟩ := cg5 w.heap.size HM.o;have x12 := fun y => ((Zm w1 y).cell ⟨B, 12, none⟩ hSB).trans y12;obtain ⟨i00, i01, i02, i03, i04, i05⟩ := vg HAT0.o;obtain ⟨i10, i11, i12, i13, i14, i15⟩ := vg HAT1.o
         repeat go_big_quiet_step (fail)
         go_big_quiet_step ((refine (Zbr r B cs F _ a _ (HS.o.later (Zm w1 _)) (Zc.keep HEL0.o (fun _ h => h) (Ze.later (Zm w1 _)))).mono ?_; rw [Hq0.o]; rintro e w9 ⟨rfl, hcl⟩; exact ⟨rfl, _, Zch ((Zm w1 _).trans hcl)⟩))
         repeat go_big_quiet_step (fail)
         go_big_quiet_step ((refine (Zbr r B cs F _ b _ (HS.o.later (Zm w1 _)) (Zc.keep HEL1.o (fun _ h => h) (Ze.later (Zm w1 _)))).mono ?_; rw [Hq1.o]; rintro e w9 ⟨rfl, hcl⟩; exact ⟨rfl, _, Zch ((Zm w1 _).trans hcl)⟩))
         repeat go_big_quiet_step (fail)
         refine wpQuiet_nil (Zc5 fun W hWL => ?_);replace HLC := zh hWL;clear hWL x0 x1 x2 x3 x4 x12 i00 i01 i02 i03 i04 i05 i10 i11 i12 i13 i14 i15;have hR0 : R = false := by rw [HR.o]; simp
         subst hR0;go_wp2_with fail;go_ret;exact ⟨rfl, HB.o.trans HLC.o⟩
        | true =>
         cases n1 with
         | false =>
          refine Zf4 w1 (by kernel_rfl) (by kernel_rfl) HLC.o ?_;obtain ⟨x0, x1, x2, x3, x4⟩ := cg5 w.heap.size HM.o;have x12 := fun y => ((Zm w1 y).cell ⟨B, 12, none⟩ hSB).trans y12;obtain ⟨i00, i01, i02, i03, i04, i05⟩ := vg HAT0.o;obtain ⟨i10, i11, i12, i13, i14, i15⟩ := vg HAT1.o
          repeat go_big_quiet_step (fail)
          go_big_quiet_step ((refine (Zbr r B cs F _ a _ (HS.o.later (Zm w1 _)) (Zc.keep HEL0.o (fun _ h => h) (Ze.later (Zm w1 _)))).mono ?_; rw [Hq0.o]; rintro e w9 ⟨rfl, hcl⟩; exact ⟨rfl, _, Zch ((Zm w1 _).trans hcl)⟩))
          repeat go_big_quiet_step (fail)
          go_big_quiet_step ((refine (Zbr r B cs F _ b _ (HS.o.later (Zm w1 _)) (Zc.keep HEL1.o (fun _ h => h) (Ze.later (Zm w1 _)))).mono ?_; rw [Hq1.o]; rintro e w9 ⟨rfl, hcl⟩; exact ⟨rfl, _, Zch ((Zm w1 _).trans hcl)⟩))
          repeat go_big_quiet_step (fail)
          go_big_quiet_step (((try rw [hwr]); refine (Zcs _ _ _ _).mono ?_; rw [Hn1.o, Hn2.o]; rintro e w9 ⟨rfl, rfl⟩; exact ⟨rfl, _, rfl⟩))
          repeat go_big_quiet_step (fail)
          refine wpQuiet_nil (Zc5 fun W hWL => ?_);replace HLC := zh hWL;clear hWL x0 x1 x2 x3 x4 x12 i00 i01 i02 i03 i04 i05 i10 i11 i12 i13 i14 i15;have hR0 : R = false := by rw [HR.o]; simp
          subst hR0;go_wp2_with fail;go_ret;exact ⟨rfl, HB.o.trans HLC.o⟩
         | true =>
          cases n2 with
          | false =>
           refine Zf4 w1 (by kernel_rfl) (by kernel_rfl) HLC.o ?_;obtain ⟨x0, x1, x2, x3, x4⟩ := cg5 w.heap.size HM.o;have x12 := fun y => ((Zm w1 y).cell ⟨B, 12, none⟩ hSB).trans y12;obtain ⟨i00, i01, i02, i03, i04, i05⟩ := vg HAT0.o;obtain ⟨i10, i11, i12, i13, i14, i15⟩ := vg HAT1.o
           repeat go_big_quiet_step (fail)
           go_big_quiet_step ((refine (Zbr r B cs F _ a _ (HS.o.later (Zm w1 _)) (Zc.keep HEL0.o (fun _ h => h) (Ze.later (Zm w1 _)))).mono ?_; rw [Hq0.o]; rintro e w9 ⟨rfl, hcl⟩; exact ⟨rfl, _, Zch ((Zm w1 _).trans hcl)⟩))
           repeat go_big_quiet_step (fail)
           go_big_quiet_step ((refine (Zbr r B cs F _ b _ (HS.o.later (Zm w1 _)) (Zc.keep HEL1.o (fun _ h => h) (Ze.later (Zm w1 _)))).mono ?_; rw [Hq1.o]; rintro e w9 ⟨rfl, hcl⟩; exact ⟨rfl, _, Zch ((Zm w1 _).trans hcl)⟩))
           repeat go_big_quiet_step (fail)
           go_big_quiet_step (((try rw [hwr]); refine (Zcs _ _ _ _).mono ?_; rw [Hn1.o, Hn2.o]; rintro e w9 ⟨rfl, rfl⟩; exact ⟨rfl, _, rfl⟩))
           repeat go_big_quiet_step (fail)
           refine wpQuiet_nil (Zc5 fun W hWL => ?_);replace HLC := zh hWL;clear hWL x0 x1 x2 x3 x4 x12 i00 i01 i02 i03 i04 i05 i10 i11 i12 i13 i14 i15;have hR0 : R = false := by rw [HR.o]; simp
           subst hR0;go_wp2_with fail;go_ret;exact ⟨rfl, HB.o.trans HLC.o⟩
          | true =>
           refine Zf4 w1 (by kernel_rfl) (by kernel_rfl) HLC.o ?_;obtain ⟨x0, x1, x2, x3, x4⟩ := cg5 w.heap.size HM.o;have x12 := fun y => ((Zm w1 y).cell ⟨B, 12, none⟩ hSB).trans y12;obtain ⟨i00, i01, i02, i03, i04, i05⟩ := vg HAT0.o;obtain ⟨i10, i11, i12, i13, i14, i15⟩ := vg HAT1.o
           repeat go_big_quiet_step (fail)
           go_big_quiet_step ((refine (Zbr r B cs F _ a _ (HS.o.later (Zm w1 _)) (Zc.keep HEL0.o (fun _ h => h) (Ze.later (Zm w1 _)))).mono ?_; rw [Hq0.o]; rintro e w9 ⟨rfl, hcl⟩; exact ⟨rfl, _, Zch ((Zm w1 _).trans hcl)⟩))
           repeat go_big_quiet_step (fail)
           go_big_quiet_step ((refine (Zbr r B cs F _ b _ (HS.o.later (Zm w1 _)) (Zc.keep HEL1.o (fun _ h => h) (Ze.later (Zm w1 _)))).mono ?_; rw [Hq1.o]; rintro e w9 ⟨rfl, hcl⟩; exact ⟨rfl, _, Zch ((Zm w1 _).trans hcl)⟩))
           repeat go_big_quiet_step (fail)
           go_big_quiet_step (((try rw [hwr]); refine (Zcs _ _ _ _).mono ?_; rw [Hn1.o, Hn2.o]; rintro e w9 ⟨rfl, rfl⟩; exact ⟨rfl, _, rfl⟩))
           repeat go_big_quiet_step (fail)
           refine wpQuiet_nil (Zc5 fun W hWL => ?_);replace HLC := zh hWL;clear hWL x0 x1 x2 x3 x4 x12 i00 i01 i02 i03 i04 i05 i10 i11 i12 i13 i14 i15;have hR0 : R = true := by rw [HR.o]; rfl
           subst hR0;go_wp2_with fail;go_ret;exact ⟨rfl, HB.o.trans HLC.o⟩
theorem Zr1 (r : Zf) (B : Nat) (cs : List Value) (F : Nat → Prop) (w : World) (kd tag aI : Int) (aJ aK : List Zd) (vi vk : Value) (h : Z3 F w B r cs) (hi : Zo Zg 6 F w aJ vi) (hk : Zo Zg 6 F w aK vk) (hkd : kd < 1) (hkz : aK.length ≤ 1048576) :
  Calls Tryz.prog 100 #[.pointer (some ⟨B, 0, none⟩), .agg #[.int .i64 kd, .int .i64 tag, .int .i64 aI, vi, vk]] w fun e w' => e = .returned (.bool (Zai r ⟨kd, tag, aI, aJ, aK⟩)) ∧ Below w.heap.size w w' := by
 obtain ⟨R, hR⟩ : ∃ R, Zai r ⟨kd, tag, aI, aJ, aK⟩ = R := ⟨_, rfl⟩;rw [hR];have HR0 := zh hR;clear hR;obtain ⟨Ai, ci, rfl, hci, hcmi, _⟩ := id hi;obtain ⟨Ak, ck, rfl, hck, hcmk, _⟩ := id hk;unfold maxLen at hcmi hcmk;have hl1 := (Za.refl w).alloc (.cells #[.int .i64 kd, .int .i64 tag, .int .i64 aI, .slice Ai aJ.length ci, .slice Ak aK.length ck] 94);have HS := zh (h.later hl1);have HI := zh (hi.later Zc hl1);have HK := zh (hk.later Zc hl1);have HM := zh (heap_alloc_new w (.cells #[.int .i64 kd, .int .i64 tag, .int .i64 aI, .slice Ai aJ.length ci, .slice Ak aK.length ck] 94));have HB := zh hl1;obtain ⟨w1, hw1⟩ : ∃ x, x = w.alloc (.cells #[.int .i64 kd, .int .i64 tag, .int .i64 aI, .slice Ai aJ.length ci, .slice Ak aK.length ck] 94) := ⟨_, rfl⟩;rw [← hw1] at HS HI HK HM HB;have HLC := zh (Za.refl w1);clear h hi hk hl1;have hR0 : R = false := by rw [← HR0.o]; unfold Zai Zag; simp only []; rw [if_neg (by omega : ¬ kd = 1), if_neg (by omega : ¬ kd = 2), if_neg (by omega : ¬ kd = 3), if_neg (by omega : ¬ kd = 4), if_neg (by omega : ¬ kd = 5), if_neg (by omega : ¬ kd = 6), if_neg (by omega : ¬ kd = 7), if_neg (by omega : ¬ kd = 8), if_neg (by omega : ¬ kd = 9)]; simp
 subst hR0;clear HR0;have g1 : (kd == 1) = false := nH.2 (by omega);have n1 : (kd != 1) = true := bne_iff_ne.2 (by omega);have g2 : (kd == 2) = false := nH.2 (by omega);have n2 : (kd != 2) = true := bne_iff_ne.2 (by omega);have g3 : (kd == 3) = false := nH.2 (by omega);have n3 : (kd != 3) = true := bne_iff_ne.2 (by omega);have g4 : (kd == 4) = false := nH.2 (by omega);have n4 : (kd != 4) = true := bne_iff_ne.2 (by omega);have g5 : (kd == 5) = false := nH.2 (by omega);have n5 : (kd != 5) = true := bne_iff_ne.2 (by omega);have g6 : (kd == 6) = false := nH.2 (by omega);have n6 : (kd != 6) = true := bne_iff_ne.2 (by omega);have g7 : (kd == 7) = false := nH.2 (by omega);have n7 : (kd != 7) = true := bne_iff_ne.2 (by omega);have g8 : (kd == 8) = false := nH.2 (by omega);have n8 : (kd != 8) = true := bne_iff_ne.2 (by omega);have g9 : (kd == 9) = false := nH.2 (by omega);have n9 : (kd != 9) = true := bne_iff_ne.2 (by omega);have d2 : decide (2 ≤ kd) = false := decide_eq_false (by omega);obtain ⟨s0, hs0⟩ : ∃ q, (aI == 0) = q := ⟨_, rfl⟩;have W0s0 : (aI != 0) = !s0 := by rw [← hs0]; exact (by rw [Bool.eq_iff_iff]; simp only [nJ, nK, nL, ne_eq, nM, nI, nH] <;> omega)
 obtain ⟨tg, htg⟩ : ∃ q, (tag == 0) = q := ⟨_, rfl⟩;have W0tg : (tag != 0) = !tg := by rw [← htg]; exact (by rw [Bool.eq_iff_iff]; simp only [nJ, nK, nL, ne_eq, nM, nI, nH] <;> omega)
 have W1tg : (tag == 0) = tg := htg;obtain ⟨ky, hky⟩ : ∃ q, (decide (aK.length = 0)) = q := ⟨_, rfl⟩;have W0ky : ((aK.length : Int) != 0) = !ky := by rw [← hky]; exact (by rw [Bool.eq_iff_iff]; simp only [nJ, nK, nL, ne_eq, nM, nI, nH] <;> omega)
 have W1ky : ((aK.length : Int) == 0) = ky := by rw [← hky]; exact (by rw [Bool.eq_iff_iff]; simp only [nJ, nK, nL, ne_eq, nM, nI, nH] <;> omega)
 have Hs0 := zh hs0;clear hs0;have Htg := zh htg;clear htg;have Hky := zh hky;clear hky;clear hkd;go_enter Tryz.func100, Tryz.ntmps100;go_upto_region 4 with (fail);rw [← hw1];clear hw1;have HMC := zB HLC HM;have m0 := cz5 HMC.o
 cases s0 with
 | false =>
  simp only [Bool.not_false] at W0s0;go_wp2_with fail;go_ret;exact ⟨rfl, HB.o.trans HLC.o⟩
 | true =>
  simp only [Bool.not_true] at W0s0
  cases tg with
  | false =>
   simp only [Bool.not_false] at W0tg;go_wp2_with fail;go_ret;exact ⟨rfl, HB.o.trans HLC.o⟩
  | true =>
   simp only [Bool.not_true] at W0tg
   cases ky with
   | false =>
    simp only [Bool.not_false] at W0ky;go_wp2_with fail;go_ret;exact ⟨rfl, HB.o.trans HLC.o⟩
   | true =>
    simp only [Bool.not_true] at W0ky;go_wp2_with fail;go_ret;exact ⟨rfl, HB.o.trans HLC.o⟩
theorem Zr2 (r : Zf) (B : Nat) (cs : List Value) (F : Nat → Prop) (w : World) (kd tag aI : Int) (aJ aK : List Zd) (vi vk : Value) (h : Z3 F w B r cs) (hi : Zo Zg 6 F w aJ vi) (hk : Zo Zg 6 F w aK vk) (hkd : 9 < kd) (hkz : aK.length ≤ 1048576) :
  Calls Tryz.prog 100 #[.pointer (some ⟨B, 0, none⟩), .agg #[.int .i64 kd, .int .i64 tag, .int .i64 aI, vi, vk]] w fun e w' => e = .returned (.bool (Zai r ⟨kd, tag, aI, aJ, aK⟩)) ∧ Below w.heap.size w w' := by
 obtain ⟨R, hR⟩ : ∃ R, Zai r ⟨kd, tag, aI, aJ, aK⟩ = R := ⟨_, rfl⟩;rw [hR];have HR0 := zh hR;clear hR;obtain ⟨Ai, ci, rfl, hci, hcmi, _⟩ := id hi;obtain ⟨Ak, ck, rfl, hck, hcmk, _⟩ := id hk;unfold maxLen at hcmi hcmk;have hl1 := (Za.refl w).alloc (.cells #[.int .i64 kd, .int .i64 tag, .int .i64 aI, .slice Ai aJ.length ci, .slice Ak aK.length ck] 94);have HS := zh (h.later hl1);have HI := zh (hi.later Zc hl1);have HK := zh (hk.later Zc hl1);have HM := zh (heap_alloc_new w (.cells #[.int .i64 kd, .int .i64 tag, .int .i64 aI, .slice Ai aJ.length ci, .slice Ak aK.length ck] 94));have HB := zh hl1;obtain ⟨w1, hw1⟩ : ∃ x, x = w.alloc (.cells #[.int .i64 kd, .int .i64 tag, .int .i64 aI, .slice Ai aJ.length ci, .slice Ak aK.length ck] 94) := ⟨_, rfl⟩;rw [← hw1] at HS HI HK HM HB;have HLC := zh (Za.refl w1);clear h hi hk hl1;have hR0 : R = false := by rw [← HR0.o]; unfold Zai Zag; simp only []; rw [if_neg (by omega : ¬ kd = 1), if_neg (by omega : ¬ kd = 2), if_neg (by omega : ¬ kd = 3), if_neg (by omega : ¬ kd = 4), if_neg (by omega : ¬ kd = 5), if_neg (by omega : ¬ kd = 6), if_neg (by omega : ¬ kd = 7), if_neg (by omega : ¬ kd = 8), if_neg (by omega : ¬ kd = 9)]; simp
 subst hR0;clear HR0;have g1 : (kd == 1) = false := nH.2 (by omega);have n1 : (kd != 1) = true := bne_iff_ne.2 (by omega);have g2 : (kd == 2) = false := nH.2 (by omega);have n2 : (kd != 2) = true := bne_iff_ne.2 (by omega);have g3 : (kd == 3) = false := nH.2 (by omega);have n3 : (kd != 3) = true := bne_iff_ne.2 (by omega);have g4 : (kd == 4) = false := nH.2 (by omega);have n4 : (kd != 4) = true := bne_iff_ne.2 (by omega);have g5 : (kd == 5) = false := nH.2 (by omega);have n5 : (kd != 5) = true := bne_iff_ne.2 (by omega);have g6 : (kd == 6) = false := nH.2 (by omega);have n6 : (kd != 6) = true := bne_iff_ne.2 (by omega);have g7 : (kd == 7) = false := nH.2 (by omega);have n7 : (kd != 7) = true := bne_iff_ne.2 (by omega);have g8 : (kd == 8) = false := nH.2 (by omega);have n8 : (kd != 8) = true := bne_iff_ne.2 (by omega);have g9 : (kd == 9) = false := nH.2 (by omega);have n9 : (kd != 9) = true := bne_iff_ne.2 (by omega);have d2 : decide (2 ≤ kd) = true := decide_eq_true (by omega);have d7 : decide (kd ≤ 7) = false := decide_eq_false (by omega);obtain ⟨s0, hs0⟩ : ∃ q, (aI == 0) = q := ⟨_, rfl⟩;have W0s0 : (aI != 0) = !s0 := by rw [← hs0]; exact (by rw [Bool.eq_iff_iff]; simp only [nJ, nK, nL, ne_eq, nM, nI, nH] <;> omega)
 obtain ⟨tg, htg⟩ : ∃ q, (tag == 0) = q := ⟨_, rfl⟩;have W0tg : (tag != 0) = !tg := by rw [← htg]; exact (by rw [Bool.eq_iff_iff]; simp only [nJ, nK, nL, ne_eq, nM, nI, nH] <;> omega)
 have W1tg : (tag == 0) = tg := htg;obtain ⟨ky, hky⟩ : ∃ q, (decide (aK.length = 0)) = q := ⟨_, rfl⟩;have W0ky : ((aK.length : Int) != 0) = !ky := by rw [← hky]; exact (by rw [Bool.eq_iff_iff]; simp only [nJ, nK, nL, ne_eq, nM, nI, nH] <;> omega)
 have W1ky : ((aK.length : Int) == 0) = ky := by rw [← hky]; exact (by rw [Bool.eq_iff_iff]; simp only [nJ, nK, nL, ne_eq, nM, nI, nH] <;> omega)
 have Hs0 := zh hs0;clear hs0;have Htg := zh htg;clear htg;have Hky := zh hky;clear hky;clear hkd;go_enter Tryz.func100, Tryz.ntmps100;go_upto_region 4 with (fail);rw [← hw1];clear hw1;have HMC := zB HLC HM;have m0 := cz5 HMC.o
 cases s0 with
 | false =>
  simp only [Bool.not_false] at W0s0;go_wp2_with fail;go_ret;exact ⟨rfl, HB.o.trans HLC.o⟩
 | true =>
  simp only [Bool.not_true] at W0s0
  cases tg with
  | false =>
   simp only [Bool.not_false] at W0tg;go_wp2_with fail;go_ret;exact ⟨rfl, HB.o.trans HLC.o⟩
  | true =>
   simp only [Bool.not_true] at W0tg
   cases ky with
   | false =>
    simp only [Bool.not_false] at W0ky;go_wp2_with fail;go_ret;exact ⟨rfl, HB.o.trans HLC.o⟩
   | true =>
    simp only [Bool.not_true] at W0ky;go_wp2_with fail;go_ret;exact ⟨rfl, HB.o.trans HLC.o⟩
theorem Zlv (r : Zf) (B : Nat) (cs : List Value) (F : Nat → Prop) (w : World) (o : Zam) (os : List Value) (h : Z3 F w B r cs) (ho : Zbk F w o os) (hkz : o.aK.length ≤ 1048576) :
  Calls Tryz.prog 100 #[.pointer (some ⟨B, 0, none⟩), .agg os.toArray] w fun e w' => e = .returned (.bool (Zai r o)) ∧ Below w.heap.size w w' := by
 obtain ⟨vi, vk, rfl, _, _, _, hi, hk⟩ := ho;obtain ⟨kd, tag, aI, aJ, aK⟩ := o;have hx : kd < 1 ∨ 9 < kd ∨ kd = 1 ∨ kd = 2 ∨ kd = 3 ∨ kd = 4 ∨ kd = 5 ∨ kd = 6 ∨ kd = 7 ∨ kd = 8 ∨ kd = 9 := by omega
 rcases hx with hx | hx | rfl | rfl | rfl | rfl | rfl | rfl | rfl | rfl | rfl
 ·exact Zr1 r B cs F w kd tag aI aJ aK vi vk h hi hk hx hkz
 ·exact Zr2 r B cs F w kd tag aI aJ aK vi vk h hi hk hx hkz
 ·exact Zt5 r B cs F w tag aI aJ aK vi vk h hi hk hkz
 ·exact Zt6 r B cs F w tag aI aJ aK vi vk h hi hk hkz
 ·exact Zt7 r B cs F w tag aI aJ aK vi vk h hi hk hkz
 ·exact Zt8 r B cs F w tag aI aJ aK vi vk h hi hk hkz
 ·exact Zuc r B cs F w tag aI aJ aK vi vk h hi hk hkz
 ·exact Zua r B cs F w tag aI aJ aK vi vk h hi hk hkz
 ·exact Zt9 r B cs F w tag aI aJ aK vi vk h hi hk hkz
 ·exact Zub r B cs F w tag aI aJ aK vi vk h hi hk hkz
 ·exact Zud r B cs F w tag aI aJ aK vi vk h hi hk hkz
end Go.Proofs.YtpmhelkiicigfaaGreatDoor
