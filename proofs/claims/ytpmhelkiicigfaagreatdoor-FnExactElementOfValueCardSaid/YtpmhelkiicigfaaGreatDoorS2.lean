/- Part of the walks that the claim stands on. -/
import Derived.Test.YtpmhelkiicigfaaGreatDoorS1
import Derived.Deep.DeepCutAuto
import Derived.Test.YtpmhelkiicigfaaGreatDoorChecked
import Derived.Lib.Hide
import Derived.WalkKit
import Derived.WalkSpells
import Derived.WalkLawsBesides
import Derived.Outline
import Derived.Maps.AppendAt
import Derived.Deep.AppendLies
import Derived.Test.YtpmhelkiicigfaaGreatDoorShelf
import Derived.Deep.CutBlock
import Derived.Lib.AppendIntMem
set_option maxRecDepth 100000
set_option maxHeartbeats 40000000
namespace Go.Proofs.YtpmhelkiicigfaaGreatDoor
open Go.RowKit
theorem Zbj (w : World) (o : Obj) : (w.alloc o).heap.size = w.heap.size + 1 := by simp
theorem Zeo : (Tryz.prog.info? 9).map (fun i => (i.zero, i.size, i.bytes)) = some (some (.string ⟨#[]⟩), 1, 16) := by kernel_rfl
theorem Zmq (n : Nat) (hn : n ≤ 2097152) : ∃ cur : Array Value, cur.size = n * 1 ∧ ∀ w : World, (Instr.makeSlice 24 (.int .i64 (n : Int)) (.int .i64 (n : Int))).run Tryz.prog w = .ok (.slice (some ⟨w.heap.size, 0, none⟩) n n) (w.alloc (.cells cur 9)) := by
 obtain ⟨i, hi, hz0, hz1, hz2⟩ := info_parts Zeo;refine ⟨madeCells (Value.cells (.string ⟨#[]⟩)) (n * 1), size_madeCells _ _, fun w => ?_⟩;have := run_make (P := Tryz.prog) w 24 9 i _ Tryz.underlying24 hi hz0 .i64 .i64 n n (by omega) (by omega) (by rw [hz2]; omega) (by omega);rw [hz1] at this
 simpa using this
theorem Zek (l : List ByteArray) (v : Value) (F : Nat → Prop) (w : World) (hsz : Zk ByteArray.size l ≤ 1048576) (hr : Zu Zbp 1 F w l v) :
  Calls Tryz.prog 60 #[v] w fun e w' => ∃ v', e = .returned v' ∧ Zbo Zbp 1 9 (fun b => w.heap.size ≤ b) w' l v' ∧ Below w.heap.size w w' := by
 obtain ⟨A, c, rfl, hc, hcm, hel⟩ := hr;have HEL := zh hel;have hlen : l.length ≤ 1048576 := by unfold Zk at hsz; omega
 have HSZ := zh (show Zaq ByteArray.size l ≤ 1048576 by unfold Zk at hsz; omega);clear hel hsz hcm;obtain ⟨cur0, hcur0, hmkr⟩ := Zmq l.length (by omega);have HC0 := zh hcur0;clear hcur0;go_enter Tryz.func60, Tryz.ntmps60;go_wp2_with fail;obtain ⟨B, hB⟩ : ∃ B, w.heap.size = B := ⟨_, rfl⟩;have hwB : w.heap.size ≤ B := by omega
 have HS0 : Hd (SMk Zbp 1 9 B l 0 (w.alloc (.cells cur0 9))) := zh (SMk.start (by rw [← hB]; exact heap_alloc_new w _) HC0.o);have HBe := zh ((Below.refl w.heap.size w).alloc (Nat.le_refl _) (.cells cur0 9));rw [hB];clear hmkr HC0;have HBw := zh hB;clear hB
 go_loopw [4] (fun i wr => ∃ j : Nat, j ≤ l.length ∧ i = .int .i64 j ∧ SMk Zbp 1 9 B l j wr ∧ Below w.heap.size w wr) (fun i _ => l.length - (intOf i).toNat)
 case atStart => exact ⟨0, Nat.zero_le _, rfl, HS0.o, HBe.o⟩
 case round =>
  obtain ⟨j, hj, rfl, hmk, hbel⟩ := hrel;have hBw : B < wr.heap.size := hmk.lt
  by_cases hlt : j < l.length
  ·obtain ⟨b, o, cs, rfl, hF, hbl, hE, hcell⟩ := HEL.o j hlt
   skip
   obtain ⟨rfl, hsm⟩ := hE;have hlt' : (j : Int) < l.length := by omega
   have e0 := (hbel.cell (p := ⟨b, o + j * 1 + 0, none⟩) hbl).trans (hcell 0 _ rfl);simp only [Nat.mul_one, Nat.add_zero] at e0;have hmk4 := hmk;have hB4 := hmk4.at_ hlt;have HN := zh (SMk.next Zg hmk (Za.refl _) hlt (cs := [.string l[j]]) ⟨rfl, hsm⟩);have HB5 := zh (Z8 hwB [.string l[j]] wr (j * 1) hbel);rw [Nat.mul_one] at HN HB5;obtain ⟨hce, hfr⟩ := hB4;have f0 := hfr (j * 1 + 0);obtain ⟨u0, c0⟩ := hce 0 (by decide);simp only [Nat.mul_one, Nat.add_zero] at c0 f0;clear hce hfr hmk4 hmk;go_wp2_with fail
   go_roundw
   case rel => exact ⟨j + 1, by omega, by go_num, HN.o, HB5.o⟩
   case measure => simp [intOf]; omega
  ·have hjl : j = l.length := by omega
   have HD := zh (SMk.done Zg (by rw [hjl] at hmk; exact hmk) (G := fun b => w.heap.size ≤ b) (fun b h => by have := HBw.o; omega) (by unfold maxLen; omega));clear hmk;go_wp2_with fail;go_ret;exact ⟨_, rfl, HD.o, hbel⟩
theorem Zod (r : Zi6) (cs : List Value) (F : Nat → Prop) (w : World) (h : Zf5 F w r cs) :
  Calls Tryz.prog 65 #[.agg cs.toArray] w fun e w' => ∃ cs', e = .returned (.agg cs'.toArray) ∧ Zf5 (fun b => w.heap.size ≤ b) w' r cs' ∧ Below w.heap.size w w' := by
 obtain ⟨rfl, hlow, hhigh⟩ := h;have HF := zh (And.intro trivial (And.intro hlow (hhigh)));clear hlow hhigh;go_enter Tryz.func65, Tryz.ntmps65;go_wp2_with fail;refine bodyPost_ret (v := .agg #[.int .i64 r.low, .int .i64 r.high]) (by simp [results, Tryz.results65, go_sem]) rfl ⟨[.int .i64 r.low, .int .i64 r.high], rfl, ⟨rfl, HF.o.2⟩, ?_⟩;exact (((Below.refl _ _).alloc (Nat.le_refl _) _).alloc (by simp) _).alloc (by simp; omega) _
theorem Ziw (r : Zaw) (cs : List Value) (F : Nat → Prop) (w : World) (hsz : Zo r ≤ 1048576) (h : Zaz F w r cs) :
  Calls Tryz.prog 114 #[.agg cs.toArray] w fun e w' => ∃ cs', e = .returned (.agg cs'.toArray) ∧ Za0 (fun b => w.heap.size ≤ b) w' r cs' ∧ Below w.heap.size w w' := by
 obtain ⟨aU, rfl, bR, bS, bT⟩ := h;have HSZ := zh (show r.name.size + (Zk ByteArray.size r.fields) ≤ 1048576 from hsz);clear hsz;have Hname := zh bR;clear bR;have Hfields := zh bS;clear bS;have Hline := zh bT;clear bT;have HP := zh (((Za.refl _).alloc (.cells #[.string ⟨#[]⟩, .slice none 0 0, .int .i64 0] 136)).alloc (.cells #[.string r.name, .slice none 0 0, .int .i64 0] 136) |>.block _ (by simp) |>.trans (heap_alloc_new w (.cells #[.string r.name, aU, .int .i64 r.line] 143)));have HZ := zh ((Za.refl _).alloc (.cells #[.string r.name, .slice none 0 0, .int .i64 0] 136) |>.block _ (by simp) |>.trans (heap_alloc_new (w.alloc (.cells #[.string r.name, aU, .int .i64 r.line] 143)) (.cells #[.string ⟨#[]⟩, .slice none 0 0, .int .i64 0] 136)));have HO := zh (heap_alloc_new ((w.alloc (.cells #[.string r.name, aU, .int .i64 r.line] 143)).alloc (.cells #[.string ⟨#[]⟩, .slice none 0 0, .int .i64 0] 136)) (.cells #[.string r.name, .slice none 0 0, .int .i64 0] 136));simp only [Zbj] at HZ HO;have HB := zh ((((Below.refl w.heap.size w).alloc (Nat.le_refl _) (.cells #[.string r.name, aU, .int .i64 r.line] 143)).alloc (by simp) (.cells #[.string ⟨#[]⟩, .slice none 0 0, .int .i64 0] 136)).alloc (by simp; omega) (.cells #[.string r.name, .slice none 0 0, .int .i64 0] 136));have hne1 : ¬ w.heap.size = w.heap.size + 2 := by omega
 have hne2 : ¬ w.heap.size + 1 = w.heap.size + 2 := by omega
 have hne3 : ¬ w.heap.size + 2 = w.heap.size + 1 := by omega
 have hne4 : ¬ w.heap.size = w.heap.size + 1 := by omega
 go_enter Tryz.func114, Tryz.ntmps114;go_wp2_with fail;have hlo := (Array.getElem?_eq_some_iff.1 HO.o).1;refine (Zek r.fields aU F _ (by have := HSZ.o; omega) (Hfields.o.later Z4 HB.o)).mono ?_;rintro e w1 ⟨v', rfl, hr1, hb1⟩;obtain ⟨A1, c1, rfl, _⟩ := id hr1;have HR1 := zh ((hr1.trim Zg).keep Zg.is (G := fun b => w.heap.size + 2 < b ∧ b < w1.heap.size) (fun b h => ⟨by have := h.1; have := hlo; omega, h.2⟩) (Zc.refl _ _));have HM1 := zh (show w.heap.size + 3 ≤ w1.heap.size from by have := hlo; have := Below.size hb1; omega);replace HP := zC hb1 HP;replace HZ := zC hb1 HZ;replace HO := zC hb1 HO;replace HB := zh (HB.o.trans (Below.mono hb1 HB.o.size));clear hr1 hb1 hlo;have p0 := cz3 HP.o;have z0 := cz3 HZ.o;have o0 := cz3 HO.o;have fz0 := fz HZ.o;have fo0 := fz HO.o;replace HO := zh (Zax (o := 2) (Zax (o := 1) HO.o (.slice A1 r.fields.length c1)) (.int .i64 r.line));simp only [List.setIfInBounds_toArray, List.set_cons_zero, List.set_cons_succ] at HO;replace HP := zh ((Below.heap_setCell _ ⟨w.heap.size + 2, 2, none⟩ (.int .i64 r.line) _ hne1).trans ((Below.heap_setCell _ ⟨w.heap.size + 2, 1, none⟩ (.slice A1 r.fields.length c1) _ hne1).trans HP.o));replace HZ := zh ((Below.heap_setCell _ ⟨w.heap.size + 2, 2, none⟩ (.int .i64 r.line) _ hne2).trans ((Below.heap_setCell _ ⟨w.heap.size + 2, 1, none⟩ (.slice A1 r.fields.length c1) _ hne2).trans HZ.o));replace HB := zh ((HB.o.setCell (p := ⟨w.heap.size + 2, 1, none⟩) (by simp) (.slice A1 r.fields.length c1)).setCell (p := ⟨w.heap.size + 2, 2, none⟩) (by simp) (.int .i64 r.line))
 replace HR1 := zh (HR1.o.keep Zg.is (fun _ h => h) (((Zc.later (F := _) (Za.refl w1)).set (B := w.heap.size + 2) (by have := HM1.o; omega) 1 (.slice A1 r.fields.length c1)).set (B := w.heap.size + 2) (by have := HM1.o; omega) 2 (.int .i64 r.line)));have HN := zh (show w1.heap.size ≤ _ from ((((Zc.later (F := fun _ => False) (Za.refl w1)).set (B := w.heap.size + 2) (fun h => h) 1 (.slice A1 r.fields.length c1)).set (B := w.heap.size + 2) (fun h => h) 2 (.int .i64 r.line))).size);go_upto_region 5 with (fail);clear p0 z0 o0 fz0 fo0;obtain ⟨wf, hwf⟩ : ∃ wf, wf = ((w1.setCell ⟨w.heap.size + 2, 1, none⟩ (.slice A1 r.fields.length c1)).setCell ⟨w.heap.size + 2, 2, none⟩ (.int .i64 r.line)) := ⟨_, rfl⟩;rw [← hwf] at HO HP HZ HB HR1 ⊢;clear hwf;have z0 := cz3 HZ.o;have o0 := cz3 HO.o;have fz0 := fz HZ.o;go_wp2_with fail;refine bodyPost_ret (v := .agg #[.string r.name, .slice A1 r.fields.length c1, .int .i64 r.line]) (by simp [results, Tryz.results114, go_sem, z0, o0, fz0, hne3]) rfl ⟨[.string r.name, .slice A1 r.fields.length c1, .int .i64 r.line], rfl, ?_, (((HB.o.setCell (p := ⟨w.heap.size + 1, 0, none⟩) (by simp) _).setCell (p := ⟨w.heap.size + 1, 1, none⟩) (by simp) _).setCell (p := ⟨w.heap.size + 1, 2, none⟩) (by simp) _)⟩;have := HM1.o;have kk := Z5 (F := fun y => y ≠ w.heap.size + 1) (fun h => h rfl) [.string r.name, .slice A1 r.fields.length c1, .int .i64 r.line] wf 0 (Zc.refl _ _);simp only [Zp, Nat.zero_add, Nat.reduceAdd] at kk
 exact ⟨(fun y => (0 : Nat)), _, rfl, Hname.o, HR1.o.keep Zg.is (fun b h => ⟨by have := h.1; omega, rfl⟩) (kk.mono fun b h => by have := h.1; have := h.2; omega), Hline.o⟩
theorem Zew : (Tryz.prog.info? 136).map (fun i => (i.zero, i.size, i.bytes)) = some (some (.agg #[.string ⟨#[]⟩, .slice none 0 0, .int .i64 0]), 3, 48) := by kernel_rfl
theorem Zjh (n : Nat) (hn : n ≤ 2097152) : ∃ cur : Array Value, cur.size = n * 3 ∧ ∀ w : World, (Instr.makeSlice 25 (.int .i64 (n : Int)) (.int .i64 (n : Int))).run Tryz.prog w = .ok (.slice (some ⟨w.heap.size, 0, none⟩) n n) (w.alloc (.cells cur 136)) := by
 obtain ⟨i, hi, hz0, hz1, hz2⟩ := info_parts Zew;refine ⟨madeCells (Value.cells (.agg #[.string ⟨#[]⟩, .slice none 0 0, .int .i64 0])) (n * 3), size_madeCells _ _, fun w => ?_⟩;have := run_make (P := Tryz.prog) w 25 136 i _ Tryz.underlying25 hi hz0 .i64 .i64 n n (by omega) (by omega) (by rw [hz2]; omega) (by omega);rw [hz1] at this
 simpa using this
theorem Zia (l : List Zaw) (v : Value) (F : Nat → Prop) (w : World) (hsz : Zk Zo l ≤ 1048576) (hr : Zu Zaz 3 F w l v) :
  Calls Tryz.prog 61 #[v] w fun e w' => ∃ v', e = .returned v' ∧ Zbo Za0 3 136 (fun b => w.heap.size ≤ b) w' l v' ∧ Below w.heap.size w w' := by
 obtain ⟨A, c, rfl, hc, hcm, hel⟩ := hr;have HEL := zh hel;have hlen : l.length ≤ 1048576 := by unfold Zk at hsz; omega
 have HSZ := zh (show Zaq Zo l ≤ 1048576 by unfold Zk at hsz; omega);clear hel hsz hcm;obtain ⟨cur0, hcur0, hmkr⟩ := Zjh l.length (by omega);have HC0 := zh hcur0;clear hcur0;go_enter Tryz.func61, Tryz.ntmps61;go_wp2_with fail;obtain ⟨B, hB⟩ : ∃ B, w.heap.size = B := ⟨_, rfl⟩;have hwB : w.heap.size ≤ B := by omega
 have HS0 : Hd (SMk Za0 3 136 B l 0 (w.alloc (.cells cur0 136))) := zh (SMk.start (by rw [← hB]; exact heap_alloc_new w _) HC0.o);have HBe := zh ((Below.refl w.heap.size w).alloc (Nat.le_refl _) (.cells cur0 136));rw [hB];clear hmkr HC0;have HBw := zh hB;clear hB
 go_loopw [4] (fun i wr => ∃ j : Nat, j ≤ l.length ∧ i = .int .i64 j ∧ SMk Za0 3 136 B l j wr ∧ Below w.heap.size w wr) (fun i _ => l.length - (intOf i).toNat)
 case atStart => exact ⟨0, Nat.zero_le _, rfl, HS0.o, HBe.o⟩
 case round =>
  obtain ⟨j, hj, rfl, hmk, hbel⟩ := hrel;have hBw : B < wr.heap.size := hmk.lt
  by_cases hlt : j < l.length
  ·obtain ⟨b, o, cs, rfl, hF, hbl, hE, hcell⟩ := HEL.o j hlt;have hE' := hE;obtain ⟨aU, rfl, hfacts⟩ := hE;have hlt' : (j : Int) < l.length := by omega
   have e0 := (hbel.cell (p := ⟨b, o + j * 3 + 0, none⟩) hbl).trans (hcell 0 _ rfl);have e1 := (hbel.cell (p := ⟨b, o + j * 3 + 1, none⟩) hbl).trans (hcell 1 _ rfl);have e2 := (hbel.cell (p := ⟨b, o + j * 3 + 2, none⟩) hbl).trans (hcell 2 _ rfl);simp only [Nat.mul_one, Nat.add_zero] at e0;have HE2 := zh (Zak.keep (G := F) hE' (fun _ h => h) (Zc.later hbel));have HS := zh (Nat.le_trans (Zb4 Zo l l[j] (List.getElem_mem hlt)) (HSZ.o));clear hE' hcell hfacts;go_wp2_with fail;refine (Ziw l[j] _ F wr HS.o HE2.o).mono ?_;rintro e w4 ⟨cs4, rfl, hE4, hb4⟩;have hmk4 := hmk.later Zf.is hb4;have hB4 := hmk4.at_ hlt;have HN := zh (SMk.next Zf hmk hb4 hlt hE4);have hbel4 : Below w.heap.size w w4 := hbel.trans (Below.mono hb4 hbel.size);have HB5 := zh (Z8 hwB cs4 w4 (j * 3) hbel4);obtain ⟨tag4, aU, rfl, hfacts⟩ := hE4;obtain ⟨_, _, rfl, _⟩ := hfacts.2.1;obtain ⟨hce, hfr⟩ := hB4;have f0 := hfr (j * 3 + 0);obtain ⟨u0, c0⟩ := hce 0 (by decide);have f1 := hfr (j * 3 + 1);obtain ⟨u1, c1⟩ := hce 1 (by decide);have f2 := hfr (j * 3 + 2);obtain ⟨u2, c2⟩ := hce 2 (by decide);simp only [Nat.add_zero] at c0 f0;clear hce hfr hmk4 hmk hb4 hbel4;go_wp2_with fail
   go_roundw
   case rel => exact ⟨j + 1, by omega, by go_num, HN.o, HB5.o⟩
   case measure => simp [intOf]; omega
  ·have hjl : j = l.length := by omega
   have HD := zh (SMk.done Zf (by rw [hjl] at hmk; exact hmk) (G := fun b => w.heap.size ≤ b) (fun b h => by have := HBw.o; omega) (by unfold maxLen; omega));clear hmk;go_wp2_with fail;go_ret;exact ⟨_, rfl, HD.o, hbel⟩
theorem Zch (r : Zj) (cs : List Value) (F : Nat → Prop) (w : World) (hsz : Zs r ≤ 1048576) (h : Ze F w r cs) :
  Calls Tryz.prog 19 #[.agg cs.toArray] w fun e w' => ∃ cs', e = .returned (.agg cs'.toArray) ∧ Ze (fun b => w.heap.size ≤ b) w' r cs' ∧ Below w.heap.size w w' := by
 obtain ⟨rfl, bH, bI, bJ, bK, bL, bM⟩ := h;have HSZ := zh (show r.text.size ≤ 1048576 from hsz);clear hsz;have Hset_ := zh (show Zf5 F w r.set_ [.int .i64 r.set_.low, .int .i64 r.set_.high] from ⟨rfl, bL, bM⟩);have Hkind := zh bH;clear bH;have Hnumber := zh bI;clear bI;have Hindex := zh bJ;clear bJ;have Htext := zh bK;clear bK;clear bL;clear bM;have HP := zh (((Za.refl _).alloc (.cells #[.int .i64 0, .int .i64 0, .int .i64 0, .string ⟨#[]⟩, .int .i64 0, .int .i64 0] 34)).alloc (.cells #[.int .i64 r.kind, .int .i64 r.aH, .int .i64 r.index, .string r.text, .int .i64 0, .int .i64 0] 34) |>.block _ (by simp) |>.trans (heap_alloc_new w (.cells #[.int .i64 r.kind, .int .i64 r.aH, .int .i64 r.index, .string r.text, .int .i64 r.set_.low, .int .i64 r.set_.high] 50)));have HZ := zh ((Za.refl _).alloc (.cells #[.int .i64 r.kind, .int .i64 r.aH, .int .i64 r.index, .string r.text, .int .i64 0, .int .i64 0] 34) |>.block _ (by simp) |>.trans (heap_alloc_new (w.alloc (.cells #[.int .i64 r.kind, .int .i64 r.aH, .int .i64 r.index, .string r.text, .int .i64 r.set_.low, .int .i64 r.set_.high] 50)) (.cells #[.int .i64 0, .int .i64 0, .int .i64 0, .string ⟨#[]⟩, .int .i64 0, .int .i64 0] 34)));have HO := zh (heap_alloc_new ((w.alloc (.cells #[.int .i64 r.kind, .int .i64 r.aH, .int .i64 r.index, .string r.text, .int .i64 r.set_.low, .int .i64 r.set_.high] 50)).alloc (.cells #[.int .i64 0, .int .i64 0, .int .i64 0, .string ⟨#[]⟩, .int .i64 0, .int .i64 0] 34)) (.cells #[.int .i64 r.kind, .int .i64 r.aH, .int .i64 r.index, .string r.text, .int .i64 0, .int .i64 0] 34))
 simp only [Zbj] at HZ HO;have HB := zh ((((Below.refl w.heap.size w).alloc (Nat.le_refl _) (.cells #[.int .i64 r.kind, .int .i64 r.aH, .int .i64 r.index, .string r.text, .int .i64 r.set_.low, .int .i64 r.set_.high] 50)).alloc (by simp) (.cells #[.int .i64 0, .int .i64 0, .int .i64 0, .string ⟨#[]⟩, .int .i64 0, .int .i64 0] 34)).alloc (by simp; omega) (.cells #[.int .i64 r.kind, .int .i64 r.aH, .int .i64 r.index, .string r.text, .int .i64 0, .int .i64 0] 34));have hne1 : ¬ w.heap.size = w.heap.size + 2 := by omega
 have hne2 : ¬ w.heap.size + 1 = w.heap.size + 2 := by omega
 have hne3 : ¬ w.heap.size + 2 = w.heap.size + 1 := by omega
 have hne4 : ¬ w.heap.size = w.heap.size + 1 := by omega
 go_enter Tryz.func19, Tryz.ntmps19;go_wp2_with fail;refine (Zod r.set_ _ F _ (Zfv.keep Hset_.o (fun _ h => h) (Zc.later HB.o))).mono ?_;rintro e w4 ⟨cs4, rfl, hr4, hb4⟩;have hlo := (Array.getElem?_eq_some_iff.1 HO.o).1;have HR4 := zh (Zfv.keep (G := fun b => w.heap.size + 2 < b) hr4 (fun b h => Nat.lt_of_lt_of_le hlo h) (Zc.later (Za.refl _)));obtain ⟨rfl, g4_0, g4_1⟩ := hr4;clear g4_0 g4_1;replace HP := zC hb4 HP;replace HZ := zC hb4 HZ;replace HO := zC hb4 HO;replace HB := zh (HB.o.trans (Below.mono hb4 HB.o.size));clear hb4 hlo;have p0 := cz6 HP.o;have z0 := cz6 HZ.o;have o0 := cz6 HO.o;have fz0 := fz HZ.o;have fo0 := fz HO.o;replace HO := zh (Zax (o := 5) (Zax (o := 4) HO.o (.int .i64 r.set_.low)) (.int .i64 r.set_.high));simp only [List.setIfInBounds_toArray, List.set_cons_zero, List.set_cons_succ] at HO;replace HP := zh ((Below.heap_setCell _ ⟨w.heap.size + 2, 5, none⟩ (.int .i64 r.set_.high) _ hne1).trans ((Below.heap_setCell _ ⟨w.heap.size + 2, 4, none⟩ (.int .i64 r.set_.low) _ hne1).trans HP.o));replace HZ := zh ((Below.heap_setCell _ ⟨w.heap.size + 2, 5, none⟩ (.int .i64 r.set_.high) _ hne2).trans ((Below.heap_setCell _ ⟨w.heap.size + 2, 4, none⟩ (.int .i64 r.set_.low) _ hne2).trans HZ.o));replace HB := zh ((HB.o.setCell (p := ⟨w.heap.size + 2, 4, none⟩) (by simp) (.int .i64 r.set_.low)).setCell (p := ⟨w.heap.size + 2, 5, none⟩) (by simp) (.int .i64 r.set_.high))
 replace HR4 := zh (Zfv.keep HR4.o (fun _ h => h) (((Zc.later (Za.refl w4)).set (B := w.heap.size + 2) (by omega) 4 (.int .i64 r.set_.low)).set (B := w.heap.size + 2) (by omega) 5 (.int .i64 r.set_.high)));go_upto_region 7 with (fail);clear p0 z0 o0 fz0 fo0;obtain ⟨wf, hwf⟩ : ∃ wf, wf = ((w4.setCell ⟨w.heap.size + 2, 4, none⟩ (.int .i64 r.set_.low)).setCell ⟨w.heap.size + 2, 5, none⟩ (.int .i64 r.set_.high)) := ⟨_, rfl⟩;rw [← hwf] at HO HP HZ HB HR4 ⊢;clear hwf;have z0 := cz6 HZ.o;have o0 := cz6 HO.o;have fz0 := fz HZ.o;go_wp2_with fail;refine bodyPost_ret (v := .agg #[.int .i64 r.kind, .int .i64 r.aH, .int .i64 r.index, .string r.text, .int .i64 r.set_.low, .int .i64 r.set_.high]) (by simp [results, Tryz.results19, go_sem, z0, o0, fz0, hne3]) rfl ⟨[.int .i64 r.kind, .int .i64 r.aH, .int .i64 r.index, .string r.text, .int .i64 r.set_.low, .int .i64 r.set_.high], rfl, ?_, ((((((HB.o.setCell (p := ⟨w.heap.size + 1, 0, none⟩) (by simp) _).setCell (p := ⟨w.heap.size + 1, 1, none⟩) (by simp) _).setCell (p := ⟨w.heap.size + 1, 2, none⟩) (by simp) _).setCell (p := ⟨w.heap.size + 1, 3, none⟩) (by simp) _).setCell (p := ⟨w.heap.size + 1, 4, none⟩) (by simp) _).setCell (p := ⟨w.heap.size + 1, 5, none⟩) (by simp) _)⟩;obtain ⟨e4, k4_0, k4_1⟩ := HR4.o;exact ⟨rfl, Hkind.o, Hnumber.o, Hindex.o, Htext.o, k4_0, k4_1⟩
theorem Zf7 : (Tryz.prog.info? 34).map (fun i => (i.zero, i.size, i.bytes)) = some (some (.agg #[.int .i64 0, .int .i64 0, .int .i64 0, .string ⟨#[]⟩, .int .i64 0, .int .i64 0]), 6, 56) := by kernel_rfl
theorem Zoe (n : Nat) (hn : n ≤ 2097152) : ∃ cur : Array Value, cur.size = n * 6 ∧ ∀ w : World, (Instr.makeSlice 27 (.int .i64 (n : Int)) (.int .i64 (n : Int))).run Tryz.prog w = .ok (.slice (some ⟨w.heap.size, 0, none⟩) n n) (w.alloc (.cells cur 34)) := by
 obtain ⟨i, hi, hz0, hz1, hz2⟩ := info_parts Zf7;refine ⟨madeCells (Value.cells (.agg #[.int .i64 0, .int .i64 0, .int .i64 0, .string ⟨#[]⟩, .int .i64 0, .int .i64 0])) (n * 6), size_madeCells _ _, fun w => ?_⟩;have := run_make (P := Tryz.prog) w 27 34 i _ Tryz.underlying27 hi hz0 .i64 .i64 n n (by omega) (by omega) (by rw [hz2]; omega) (by omega);rw [hz1] at this
 simpa using this
theorem Zf8 (l : List Zj) (v : Value) (F : Nat → Prop) (w : World) (hsz : Zk Zs l ≤ 1048576) (hr : Zu Ze 6 F w l v) :
  Calls Tryz.prog 63 #[v] w fun e w' => ∃ v', e = .returned v' ∧ Zbo Ze 6 34 (fun b => w.heap.size ≤ b) w' l v' ∧ Below w.heap.size w w' := by
 obtain ⟨A, c, rfl, hc, hcm, hel⟩ := hr;have HEL := zh hel;have hlen : l.length ≤ 1048576 := by unfold Zk at hsz; omega
 have HSZ := zh (show Zaq Zs l ≤ 1048576 by unfold Zk at hsz; omega);clear hel hsz hcm;obtain ⟨cur0, hcur0, hmkr⟩ := Zoe l.length (by omega);have HC0 := zh hcur0;clear hcur0;go_enter Tryz.func63, Tryz.ntmps63;go_wp2_with fail;obtain ⟨B, hB⟩ : ∃ B, w.heap.size = B := ⟨_, rfl⟩;have hwB : w.heap.size ≤ B := by omega
 have HS0 : Hd (SMk Ze 6 34 B l 0 (w.alloc (.cells cur0 34))) := zh (SMk.start (by rw [← hB]; exact heap_alloc_new w _) HC0.o);have HBe := zh ((Below.refl w.heap.size w).alloc (Nat.le_refl _) (.cells cur0 34));rw [hB];clear hmkr HC0;have HBw := zh hB;clear hB
 go_loopw [4] (fun i wr => ∃ j : Nat, j ≤ l.length ∧ i = .int .i64 j ∧ SMk Ze 6 34 B l j wr ∧ Below w.heap.size w wr) (fun i _ => l.length - (intOf i).toNat)
 case atStart => exact ⟨0, Nat.zero_le _, rfl, HS0.o, HBe.o⟩
 case round =>
  obtain ⟨j, hj, rfl, hmk, hbel⟩ := hrel;have hBw : B < wr.heap.size := hmk.lt
  by_cases hlt : j < l.length
  ·obtain ⟨b, o, cs, rfl, hF, hbl, hE, hcell⟩ := HEL.o j hlt;have hE' := hE;obtain ⟨rfl, hfacts⟩ := hE;have hlt' : (j : Int) < l.length := by omega
   have e0 := (hbel.cell (p := ⟨b, o + j * 6 + 0, none⟩) hbl).trans (hcell 0 _ rfl);have e1 := (hbel.cell (p := ⟨b, o + j * 6 + 1, none⟩) hbl).trans (hcell 1 _ rfl);have e2 := (hbel.cell (p := ⟨b, o + j * 6 + 2, none⟩) hbl).trans (hcell 2 _ rfl);have e3 := (hbel.cell (p := ⟨b, o + j * 6 + 3, none⟩) hbl).trans (hcell 3 _ rfl);have e4 := (hbel.cell (p := ⟨b, o + j * 6 + 4, none⟩) hbl).trans (hcell 4 _ rfl);have e5 := (hbel.cell (p := ⟨b, o + j * 6 + 5, none⟩) hbl).trans (hcell 5 _ rfl);simp only [Nat.mul_one, Nat.add_zero] at e0;have HE2 := zh (Zb.keep (G := F) hE' (fun _ h => h) (Zc.later hbel));have HS := zh (Nat.le_trans (Zb4 Zs l l[j] (List.getElem_mem hlt)) (HSZ.o));clear hE' hcell hfacts;go_wp2_with fail;refine (Zch l[j] _ F wr HS.o HE2.o).mono ?_;rintro e w4 ⟨cs4, rfl, hE4, hb4⟩;have hmk4 := hmk.later Zn.is hb4;have hB4 := hmk4.at_ hlt;have HN := zh (SMk.next Zn hmk hb4 hlt hE4);have hbel4 : Below w.heap.size w w4 := hbel.trans (Below.mono hb4 hbel.size);have HB5 := zh (Z8 hwB cs4 w4 (j * 6) hbel4);obtain ⟨rfl, hfacts⟩ := hE4;obtain ⟨hce, hfr⟩ := hB4;have f0 := hfr (j * 6 + 0);obtain ⟨u0, c0⟩ := hce 0 (by decide);have f1 := hfr (j * 6 + 1);obtain ⟨u1, c1⟩ := hce 1 (by decide);have f2 := hfr (j * 6 + 2);obtain ⟨u2, c2⟩ := hce 2 (by decide);have f3 := hfr (j * 6 + 3);obtain ⟨u3, c3⟩ := hce 3 (by decide);have f4 := hfr (j * 6 + 4);obtain ⟨u4, c4⟩ := hce 4 (by decide);have f5 := hfr (j * 6 + 5);obtain ⟨u5, c5⟩ := hce 5 (by decide)
   simp only [Nat.add_zero] at c0 f0;clear hce hfr hmk4 hmk hb4 hbel4;go_wp2_with fail
   go_roundw
   case rel => exact ⟨j + 1, by omega, by go_num, HN.o, HB5.o⟩
   case measure => simp [intOf]; omega
  ·have hjl : j = l.length := by omega
   have HD := zh (SMk.done Zn (by rw [hjl] at hmk; exact hmk) (G := fun b => w.heap.size ≤ b) (fun b h => by have := HBw.o; omega) (by unfold maxLen; omega));clear hmk;go_wp2_with fail;go_ret;exact ⟨_, rfl, HD.o, hbel⟩
theorem Zlo (r : Zay) (cs : List Value) (F : Nat → Prop) (w : World) (hsz : Zr r ≤ 1048576) (h : Zbq F w r cs) :
  Calls Tryz.prog 115 #[.agg cs.toArray] w fun e w' => ∃ cs', e = .returned (.agg cs'.toArray) ∧ Zbx (fun b => w.heap.size ≤ b) w' r cs' ∧ Below w.heap.size w w' := by
 obtain ⟨aS, aT, rfl, bH, bN, bO, bP, bQ⟩ := h;have HSZ := zh (show Zk Zs r.aJ + (Zk Zs r.aK) ≤ 1048576 from hsz);clear hsz;have Hkind := zh bH;clear bH;have Htag := zh bN;clear bN;have Hserial := zh bO;clear bO;have Hitems := zh bP;clear bP;have Hkeys := zh bQ;clear bQ;have HP := zh (((Za.refl _).alloc (.cells #[.int .i64 0, .int .i64 0, .int .i64 0, .slice none 0 0, .slice none 0 0] 94)).alloc (.cells #[.int .i64 r.kind, .int .i64 r.tag, .int .i64 r.aI, .slice none 0 0, .slice none 0 0] 94) |>.block _ (by simp) |>.trans (heap_alloc_new w (.cells #[.int .i64 r.kind, .int .i64 r.tag, .int .i64 r.aI, aS, aT] 146)));have HZ := zh ((Za.refl _).alloc (.cells #[.int .i64 r.kind, .int .i64 r.tag, .int .i64 r.aI, .slice none 0 0, .slice none 0 0] 94) |>.block _ (by simp) |>.trans (heap_alloc_new (w.alloc (.cells #[.int .i64 r.kind, .int .i64 r.tag, .int .i64 r.aI, aS, aT] 146)) (.cells #[.int .i64 0, .int .i64 0, .int .i64 0, .slice none 0 0, .slice none 0 0] 94)));have HO := zh (heap_alloc_new ((w.alloc (.cells #[.int .i64 r.kind, .int .i64 r.tag, .int .i64 r.aI, aS, aT] 146)).alloc (.cells #[.int .i64 0, .int .i64 0, .int .i64 0, .slice none 0 0, .slice none 0 0] 94)) (.cells #[.int .i64 r.kind, .int .i64 r.tag, .int .i64 r.aI, .slice none 0 0, .slice none 0 0] 94));simp only [Zbj] at HZ HO;have HB := zh ((((Below.refl w.heap.size w).alloc (Nat.le_refl _) (.cells #[.int .i64 r.kind, .int .i64 r.tag, .int .i64 r.aI, aS, aT] 146)).alloc (by simp) (.cells #[.int .i64 0, .int .i64 0, .int .i64 0, .slice none 0 0, .slice none 0 0] 94)).alloc (by simp; omega) (.cells #[.int .i64 r.kind, .int .i64 r.tag, .int .i64 r.aI, .slice none 0 0, .slice none 0 0] 94))
 have hne1 : ¬ w.heap.size = w.heap.size + 2 := by omega
 have hne2 : ¬ w.heap.size + 1 = w.heap.size + 2 := by omega
 have hne3 : ¬ w.heap.size + 2 = w.heap.size + 1 := by omega
 have hne4 : ¬ w.heap.size = w.heap.size + 1 := by omega
 go_enter Tryz.func115, Tryz.ntmps115;go_wp2_with fail;have hlo := (Array.getElem?_eq_some_iff.1 HO.o).1;refine (Zf8 r.aJ aS F _ (by have := HSZ.o; omega) (Hitems.o.later Zb HB.o)).mono ?_;rintro e w3 ⟨v', rfl, hr3, hb3⟩;obtain ⟨A3, c3, rfl, _⟩ := id hr3;have HR3 := zh ((hr3.trim Zn).keep Zn.is (G := fun b => w.heap.size + 2 < b ∧ b < w3.heap.size) (fun b h => ⟨by have := h.1; have := hlo; omega, h.2⟩) (Zc.refl _ _));have HM3 := zh (show w.heap.size + 3 ≤ w3.heap.size from by have := hlo; have := Below.size hb3; omega);replace HP := zC hb3 HP;replace HZ := zC hb3 HZ;replace HO := zC hb3 HO;replace HB := zh (HB.o.trans (Below.mono hb3 HB.o.size));clear hr3 hb3 hlo;have p0 := cz5 HP.o;have z0 := cz5 HZ.o;have o0 := cz5 HO.o;have fz0 := fz HZ.o;have fo0 := fz HO.o;replace HO := zh (Zax (o := 3) HO.o (.slice A3 r.aJ.length c3));simp only [List.setIfInBounds_toArray, List.set_cons_zero, List.set_cons_succ] at HO;replace HP := zh ((Below.heap_setCell _ ⟨w.heap.size + 2, 3, none⟩ (.slice A3 r.aJ.length c3) _ hne1).trans HP.o);replace HZ := zh ((Below.heap_setCell _ ⟨w.heap.size + 2, 3, none⟩ (.slice A3 r.aJ.length c3) _ hne2).trans HZ.o);replace HB := zh (HB.o.setCell (p := ⟨w.heap.size + 2, 3, none⟩) (by simp) (.slice A3 r.aJ.length c3));replace HR3 := zh (HR3.o.keep Zn.is (fun _ h => h) ((Zc.later (F := _) (Za.refl w3)).set (B := w.heap.size + 2) (by have := HM3.o; omega) 3 (.slice A3 r.aJ.length c3)))
 have HN := zh (show w3.heap.size ≤ _ from (((Zc.later (F := fun _ => False) (Za.refl w3)).set (B := w.heap.size + 2) (fun h => h) 3 (.slice A3 r.aJ.length c3))).size);go_upto_region 6 with (fail);clear p0 z0 o0 fz0 fo0;have p0 := cz5 HP.o;go_wp2_with fail;have hlo := (Array.getElem?_eq_some_iff.1 HO.o).1;refine (Zf8 r.aK aT F _ (by have := HSZ.o; omega) (Hkeys.o.later Zb HB.o)).mono ?_;rintro e w4 ⟨v', rfl, hr4, hb4⟩;obtain ⟨A4, c4, rfl, _⟩ := id hr4;have HR4 := zh ((hr4.trim Zn).keep Zn.is (G := fun b => w3.heap.size ≤ b ∧ b < w4.heap.size) (fun b h => ⟨by have := h.1; have := HN.o; omega, h.2⟩) (Zc.refl _ _));have HM4 := zh (show w3.heap.size ≤ w4.heap.size from by have := HN.o; have := Below.size hb4; omega);replace HR3 := zh (HR3.o.keep Zn.is (fun _ h => h) (Zc.later hb4));replace HP := zC hb4 HP;replace HZ := zC hb4 HZ;replace HO := zC hb4 HO;replace HB := zh (HB.o.trans (Below.mono hb4 HB.o.size));clear hr4 hb4 hlo;have p0 := cz5 HP.o;have z0 := cz5 HZ.o;have o0 := cz5 HO.o;have fz0 := fz HZ.o;have fo0 := fz HO.o;replace HO := zh (Zax (o := 4) HO.o (.slice A4 r.aK.length c4));simp only [List.setIfInBounds_toArray, List.set_cons_zero, List.set_cons_succ] at HO;replace HP := zh ((Below.heap_setCell _ ⟨w.heap.size + 2, 4, none⟩ (.slice A4 r.aK.length c4) _ hne1).trans HP.o);replace HZ := zh ((Below.heap_setCell _ ⟨w.heap.size + 2, 4, none⟩ (.slice A4 r.aK.length c4) _ hne2).trans HZ.o)
 replace HB := zh (HB.o.setCell (p := ⟨w.heap.size + 2, 4, none⟩) (by simp) (.slice A4 r.aK.length c4));replace HR3 := zh (HR3.o.keep Zn.is (fun _ h => h) ((Zc.later (F := _) (Za.refl w4)).set (B := w.heap.size + 2) (by have := HM3.o; have := HM4.o; omega) 4 (.slice A4 r.aK.length c4)));replace HR4 := zh (HR4.o.keep Zn.is (fun _ h => h) ((Zc.later (F := _) (Za.refl w4)).set (B := w.heap.size + 2) (by have := HM3.o; have := HM4.o; omega) 4 (.slice A4 r.aK.length c4)));replace HN := zh (show w4.heap.size ≤ _ from (((Zc.later (F := fun _ => False) (Za.refl w4)).set (B := w.heap.size + 2) (fun h => h) 4 (.slice A4 r.aK.length c4))).size);go_upto_region 7 with (fail);clear p0 z0 o0 fz0 fo0;obtain ⟨wf, hwf⟩ : ∃ wf, wf = (w4.setCell ⟨w.heap.size + 2, 4, none⟩ (.slice A4 r.aK.length c4)) := ⟨_, rfl⟩;rw [← hwf] at HO HP HZ HB HR3 HR4 ⊢;clear hwf;have z0 := cz5 HZ.o;have o0 := cz5 HO.o;have fz0 := fz HZ.o;go_wp2_with fail;refine bodyPost_ret (v := .agg #[.int .i64 r.kind, .int .i64 r.tag, .int .i64 r.aI, .slice A3 r.aJ.length c3, .slice A4 r.aK.length c4]) (by simp [results, Tryz.results115, go_sem, z0, o0, fz0, hne3]) rfl ⟨[.int .i64 r.kind, .int .i64 r.tag, .int .i64 r.aI, .slice A3 r.aJ.length c3, .slice A4 r.aK.length c4], rfl, ?_, (((((HB.o.setCell (p := ⟨w.heap.size + 1, 0, none⟩) (by simp) _).setCell (p := ⟨w.heap.size + 1, 1, none⟩) (by simp) _).setCell (p := ⟨w.heap.size + 1, 2, none⟩) (by simp) _).setCell (p := ⟨w.heap.size + 1, 3, none⟩) (by simp) _).setCell (p := ⟨w.heap.size + 1, 4, none⟩) (by simp) _)⟩
 have := HM3.o; have := HM4.o;have kk := Z5 (F := fun y => y ≠ w.heap.size + 1) (fun h => h rfl) [.int .i64 r.kind, .int .i64 r.tag, .int .i64 r.aI, .slice A3 r.aJ.length c3, .slice A4 r.aK.length c4] wf 0 (Zc.refl _ _);simp only [Zp, Nat.zero_add, Nat.reduceAdd] at kk;exact ⟨(fun y => if y < w3.heap.size then 0 else (1 : Nat)), _, _, rfl, Hkind.o, Htag.o, Hserial.o, HR3.o.keep Zn.is (fun b h => ⟨by have := h.1; omega, by have := h.1; have := h.2; dsimp only; (repeat' split) <;> omega⟩) (kk.mono fun b h => by have := h.1; have := h.2; omega), HR4.o.keep Zn.is (fun b h => ⟨by have := h.1; omega, by have := h.1; have := h.2; dsimp only; (repeat' split) <;> omega⟩) (kk.mono fun b h => by have := h.1; have := h.2; omega)⟩
theorem Zep : (Tryz.prog.info? 94).map (fun i => (i.zero, i.size, i.bytes)) = some (some (.agg #[.int .i64 0, .int .i64 0, .int .i64 0, .slice none 0 0, .slice none 0 0]), 5, 72) := by kernel_rfl
theorem Zmr (n : Nat) (hn : n ≤ 2097152) : ∃ cur : Array Value, cur.size = n * 5 ∧ ∀ w : World, (Instr.makeSlice 26 (.int .i64 (n : Int)) (.int .i64 (n : Int))).run Tryz.prog w = .ok (.slice (some ⟨w.heap.size, 0, none⟩) n n) (w.alloc (.cells cur 94)) := by
 obtain ⟨i, hi, hz0, hz1, hz2⟩ := info_parts Zep;refine ⟨madeCells (Value.cells (.agg #[.int .i64 0, .int .i64 0, .int .i64 0, .slice none 0 0, .slice none 0 0])) (n * 5), size_madeCells _ _, fun w => ?_⟩;have := run_make (P := Tryz.prog) w 26 94 i _ Tryz.underlying26 hi hz0 .i64 .i64 n n (by omega) (by omega) (by rw [hz2]; omega) (by omega);rw [hz1] at this
 simpa using this
theorem Zkt (l : List Zay) (v : Value) (F : Nat → Prop) (w : World) (hsz : Zk Zr l ≤ 1048576) (hr : Zu Zbq 5 F w l v) :
  Calls Tryz.prog 62 #[v] w fun e w' => ∃ v', e = .returned v' ∧ Zbo Zbx 5 94 (fun b => w.heap.size ≤ b) w' l v' ∧ Below w.heap.size w w' := by
 obtain ⟨A, c, rfl, hc, hcm, hel⟩ := hr;have HEL := zh hel;have hlen : l.length ≤ 1048576 := by unfold Zk at hsz; omega
 have HSZ := zh (show Zaq Zr l ≤ 1048576 by unfold Zk at hsz; omega);clear hel hsz hcm;obtain ⟨cur0, hcur0, hmkr⟩ := Zmr l.length (by omega);have HC0 := zh hcur0;clear hcur0;go_enter Tryz.func62, Tryz.ntmps62;go_wp2_with fail;obtain ⟨B, hB⟩ : ∃ B, w.heap.size = B := ⟨_, rfl⟩;have hwB : w.heap.size ≤ B := by omega
 have HS0 : Hd (SMk Zbx 5 94 B l 0 (w.alloc (.cells cur0 94))) := zh (SMk.start (by rw [← hB]; exact heap_alloc_new w _) HC0.o);have HBe := zh ((Below.refl w.heap.size w).alloc (Nat.le_refl _) (.cells cur0 94));rw [hB];clear hmkr HC0;have HBw := zh hB;clear hB
 go_loopw [4] (fun i wr => ∃ j : Nat, j ≤ l.length ∧ i = .int .i64 j ∧ SMk Zbx 5 94 B l j wr ∧ Below w.heap.size w wr) (fun i _ => l.length - (intOf i).toNat)
 case atStart => exact ⟨0, Nat.zero_le _, rfl, HS0.o, HBe.o⟩
 case round =>
  obtain ⟨j, hj, rfl, hmk, hbel⟩ := hrel;have hBw : B < wr.heap.size := hmk.lt
  by_cases hlt : j < l.length
  ·obtain ⟨b, o, cs, rfl, hF, hbl, hE, hcell⟩ := HEL.o j hlt;have hE' := hE;obtain ⟨aS, aT, rfl, hfacts⟩ := hE;have hlt' : (j : Int) < l.length := by omega
   have e0 := (hbel.cell (p := ⟨b, o + j * 5 + 0, none⟩) hbl).trans (hcell 0 _ rfl);have e1 := (hbel.cell (p := ⟨b, o + j * 5 + 1, none⟩) hbl).trans (hcell 1 _ rfl);have e2 := (hbel.cell (p := ⟨b, o + j * 5 + 2, none⟩) hbl).trans (hcell 2 _ rfl);have e3 := (hbel.cell (p := ⟨b, o + j * 5 + 3, none⟩) hbl).trans (hcell 3 _ rfl);have e4 := (hbel.cell (p := ⟨b, o + j * 5 + 4, none⟩) hbl).trans (hcell 4 _ rfl);simp only [Nat.mul_one, Nat.add_zero] at e0;have HE2 := zh (Za9.keep (G := F) hE' (fun _ h => h) (Zc.later hbel));have HS := zh (Nat.le_trans (Zb4 Zr l l[j] (List.getElem_mem hlt)) (HSZ.o));clear hE' hcell hfacts;go_wp2_with fail;refine (Zlo l[j] _ F wr HS.o HE2.o).mono ?_;rintro e w4 ⟨cs4, rfl, hE4, hb4⟩;have hmk4 := hmk.later Zq.is hb4;have hB4 := hmk4.at_ hlt;have HN := zh (SMk.next Zq hmk hb4 hlt hE4);have hbel4 : Below w.heap.size w w4 := hbel.trans (Below.mono hb4 hbel.size);have HB5 := zh (Z8 hwB cs4 w4 (j * 5) hbel4);obtain ⟨tag4, aS, aT, rfl, hfacts⟩ := hE4;obtain ⟨_, _, rfl, _⟩ := hfacts.2.2.2.1;obtain ⟨_, _, rfl, _⟩ := hfacts.2.2.2.2;obtain ⟨hce, hfr⟩ := hB4;have f0 := hfr (j * 5 + 0);obtain ⟨u0, c0⟩ := hce 0 (by decide);have f1 := hfr (j * 5 + 1);obtain ⟨u1, c1⟩ := hce 1 (by decide);have f2 := hfr (j * 5 + 2);obtain ⟨u2, c2⟩ := hce 2 (by decide);have f3 := hfr (j * 5 + 3);obtain ⟨u3, c3⟩ := hce 3 (by decide);have f4 := hfr (j * 5 + 4);obtain ⟨u4, c4⟩ := hce 4 (by decide);simp only [Nat.add_zero] at c0 f0
   clear hce hfr hmk4 hmk hb4 hbel4;go_wp2_with fail
   go_roundw
   case rel => exact ⟨j + 1, by omega, by go_num, HN.o, HB5.o⟩
   case measure => simp [intOf]; omega
  ·have hjl : j = l.length := by omega
   have HD := zh (SMk.done Zq (by rw [hjl] at hmk; exact hmk) (G := fun b => w.heap.size ≤ b) (fun b h => by have := HBw.o; omega) (by unfold maxLen; omega));clear hmk;go_wp2_with fail;go_ret;exact ⟨_, rfl, HD.o, hbel⟩
theorem Zlp (r : Zdd) (cs : List Value) (F : Nat → Prop) (w : World) (h : Zbf F w r cs) :
  Calls Tryz.prog 116 #[.agg cs.toArray] w fun e w' => ∃ cs', e = .returned (.agg cs'.toArray) ∧ Zbf (fun b => w.heap.size ≤ b) w' r cs' ∧ Below w.heap.size w w' := by
 obtain ⟨rfl, hroutine, hframe⟩ := h;have HF := zh (And.intro trivial (And.intro hroutine (hframe)));clear hroutine hframe;go_enter Tryz.func116, Tryz.ntmps116;go_wp2_with fail;refine bodyPost_ret (v := .agg #[.int .i64 r.routine, .int .i64 r.frame]) (by simp [results, Tryz.results116, go_sem]) rfl ⟨[.int .i64 r.routine, .int .i64 r.frame], rfl, ⟨rfl, HF.o.2⟩, ?_⟩;exact (((Below.refl _ _).alloc (Nat.le_refl _) _).alloc (by simp) _).alloc (by simp; omega) _
theorem Zgr : (Tryz.prog.info? 89).map (fun i => (i.zero, i.size, i.bytes)) = some (some (.agg #[.int .i64 0, .int .i64 0]), 2, 16) := by kernel_rfl
theorem Zms (n : Nat) (hn : n ≤ 2097152) : ∃ cur : Array Value, cur.size = n * 2 ∧ ∀ w : World, (Instr.makeSlice 28 (.int .i64 (n : Int)) (.int .i64 (n : Int))).run Tryz.prog w = .ok (.slice (some ⟨w.heap.size, 0, none⟩) n n) (w.alloc (.cells cur 89)) := by
 obtain ⟨i, hi, hz0, hz1, hz2⟩ := info_parts Zgr;refine ⟨madeCells (Value.cells (.agg #[.int .i64 0, .int .i64 0])) (n * 2), size_madeCells _ _, fun w => ?_⟩;have := run_make (P := Tryz.prog) w 28 89 i _ Tryz.underlying28 hi hz0 .i64 .i64 n n (by omega) (by omega) (by rw [hz2]; omega) (by omega);rw [hz1] at this
 simpa using this
theorem Zku (l : List Zdd) (v : Value) (F : Nat → Prop) (w : World) (hsz : Zk (fun _ => 0) l ≤ 1048576) (hr : Zu Zbf 2 F w l v) :
  Calls Tryz.prog 64 #[v] w fun e w' => ∃ v', e = .returned v' ∧ Zbo Zbf 2 89 (fun b => w.heap.size ≤ b) w' l v' ∧ Below w.heap.size w w' := by
 obtain ⟨A, c, rfl, hc, hcm, hel⟩ := hr;have HEL := zh hel;have hlen : l.length ≤ 1048576 := by unfold Zk at hsz; omega
 have HSZ := zh (show Zaq (fun _ => 0) l ≤ 1048576 by unfold Zk at hsz; omega);clear hel hsz hcm;obtain ⟨cur0, hcur0, hmkr⟩ := Zms l.length (by omega);have HC0 := zh hcur0;clear hcur0;go_enter Tryz.func64, Tryz.ntmps64;go_wp2_with fail;obtain ⟨B, hB⟩ : ∃ B, w.heap.size = B := ⟨_, rfl⟩;have hwB : w.heap.size ≤ B := by omega
 have HS0 : Hd (SMk Zbf 2 89 B l 0 (w.alloc (.cells cur0 89))) := zh (SMk.start (by rw [← hB]; exact heap_alloc_new w _) HC0.o);have HBe := zh ((Below.refl w.heap.size w).alloc (Nat.le_refl _) (.cells cur0 89));rw [hB];clear hmkr HC0;have HBw := zh hB;clear hB
 go_loopw [4] (fun i wr => ∃ j : Nat, j ≤ l.length ∧ i = .int .i64 j ∧ SMk Zbf 2 89 B l j wr ∧ Below w.heap.size w wr) (fun i _ => l.length - (intOf i).toNat)
 case atStart => exact ⟨0, Nat.zero_le _, rfl, HS0.o, HBe.o⟩
 case round =>
  obtain ⟨j, hj, rfl, hmk, hbel⟩ := hrel;have hBw : B < wr.heap.size := hmk.lt
  by_cases hlt : j < l.length
  ·obtain ⟨b, o, cs, rfl, hF, hbl, hE, hcell⟩ := HEL.o j hlt;have hE' := hE;obtain ⟨rfl, hfacts⟩ := hE;have hlt' : (j : Int) < l.length := by omega
   have e0 := (hbel.cell (p := ⟨b, o + j * 2 + 0, none⟩) hbl).trans (hcell 0 _ rfl);have e1 := (hbel.cell (p := ⟨b, o + j * 2 + 1, none⟩) hbl).trans (hcell 1 _ rfl);simp only [Nat.mul_one, Nat.add_zero] at e0;have HE2 := zh (Zba.keep (G := F) hE' (fun _ h => h) (Zc.later hbel));have HS := zh (Nat.le_trans (Zb4 (fun _ => 0) l l[j] (List.getElem_mem hlt)) (HSZ.o));clear hE' hcell hfacts;go_wp2_with fail;refine (Zlp l[j] _ F wr HE2.o).mono ?_;rintro e w4 ⟨cs4, rfl, hE4, hb4⟩;have hmk4 := hmk.later Zah.is hb4;have hB4 := hmk4.at_ hlt;have HN := zh (SMk.next Zah hmk hb4 hlt hE4);have hbel4 : Below w.heap.size w w4 := hbel.trans (Below.mono hb4 hbel.size);have HB5 := zh (Z8 hwB cs4 w4 (j * 2) hbel4);obtain ⟨rfl, hfacts⟩ := hE4;obtain ⟨hce, hfr⟩ := hB4;have f0 := hfr (j * 2 + 0);obtain ⟨u0, c0⟩ := hce 0 (by decide);have f1 := hfr (j * 2 + 1);obtain ⟨u1, c1⟩ := hce 1 (by decide);simp only [Nat.add_zero] at c0 f0;clear hce hfr hmk4 hmk hb4 hbel4;go_wp2_with fail
   go_roundw
   case rel => exact ⟨j + 1, by omega, by go_num, HN.o, HB5.o⟩
   case measure => simp [intOf]; omega
  ·have hjl : j = l.length := by omega
   have HD := zh (SMk.done Zah (by rw [hjl] at hmk; exact hmk) (G := fun b => w.heap.size ≤ b) (fun b h => by have := HBw.o; omega) (by unfold maxLen; omega));clear hmk;go_wp2_with fail;go_ret;exact ⟨_, rfl, HD.o, hbel⟩
theorem Zc4 (r : Zh) (cs : List Value) (F : Nat → Prop) (w : World) (hsz : Zad r ≤ 1048576) (h : Zb6 F w r cs) :
  Calls Tryz.prog 18 #[.agg cs.toArray] w fun e w' => ∃ cs', e = .returned (.agg cs'.toArray) ∧ Zcz (fun b => w.heap.size ≤ b) w' r cs' ∧ Below w.heap.size w w' := by
 obtain ⟨aL, aM, aN, aO, aP, aQ, aR, rfl, aV, aW, aX, aY, aZ, bA, bB, bC, bD, bE, bF, bG⟩ := h;have HSZ := zh (show Zk ByteArray.size r.names + (Zk Zo r.aB + (Zk Zr r.aA + (Zk Zs r.globals + (r.aC.size + (Zk ByteArray.size r.output + (Zk ByteArray.size r.trace + (Zk (fun _ => 0) r.aE))))))) ≤ 1048576 from hsz);clear hsz;have Hnames := zh aV;clear aV;have Hrecords := zh aW;clear aW;have Hobjects := zh aX;clear aX;have Hglobals := zh aY;clear aY;have Hsubject := zh aZ;clear aZ;have Hposition := zh bA;clear bA;have Houtput := zh bB;clear bB;have Htrace := zh bC;clear bC;have Hactives := zh bD;clear bD;have Hticks := zh bE;clear bE;have Hbudget := zh bF;clear bF;have Hmade := zh bG;clear bG;have HP := zh (((Za.refl _).alloc (.cells #[.slice none 0 0, .slice none 0 0, .slice none 0 0, .slice none 0 0, .string ⟨#[]⟩, .int .i64 0, .slice none 0 0, .slice none 0 0, .slice none 0 0, .bool false, .int .i64 0, .int .i64 0, .int .i64 0] 30)).alloc (.cells #[.slice none 0 0, .slice none 0 0, .slice none 0 0, .slice none 0 0, .string ⟨#[]⟩, .int .i64 0, .slice none 0 0, .slice none 0 0, .slice none 0 0, .bool false, .int .i64 0, .int .i64 0, .int .i64 0] 30) |>.block _ (by simp) |>.trans (heap_alloc_new w (.cells #[aL, aM, aN, aO, .string r.aC, .int .i64 r.aD, aP, aQ, aR, .bool r.aF, .int .i64 r.ticks, .int .i64 r.aG, .int .i64 r.made] 47)))
 have HZ := zh ((Za.refl _).alloc (.cells #[.slice none 0 0, .slice none 0 0, .slice none 0 0, .slice none 0 0, .string ⟨#[]⟩, .int .i64 0, .slice none 0 0, .slice none 0 0, .slice none 0 0, .bool false, .int .i64 0, .int .i64 0, .int .i64 0] 30) |>.block _ (by simp) |>.trans (heap_alloc_new (w.alloc (.cells #[aL, aM, aN, aO, .string r.aC, .int .i64 r.aD, aP, aQ, aR, .bool r.aF, .int .i64 r.ticks, .int .i64 r.aG, .int .i64 r.made] 47)) (.cells #[.slice none 0 0, .slice none 0 0, .slice none 0 0, .slice none 0 0, .string ⟨#[]⟩, .int .i64 0, .slice none 0 0, .slice none 0 0, .slice none 0 0, .bool false, .int .i64 0, .int .i64 0, .int .i64 0] 30)));have HO := zh (heap_alloc_new ((w.alloc (.cells #[aL, aM, aN, aO, .string r.aC, .int .i64 r.aD, aP, aQ, aR, .bool r.aF, .int .i64 r.ticks, .int .i64 r.aG, .int .i64 r.made] 47)).alloc (.cells #[.slice none 0 0, .slice none 0 0, .slice none 0 0, .slice none 0 0, .string ⟨#[]⟩, .int .i64 0, .slice none 0 0, .slice none 0 0, .slice none 0 0, .bool false, .int .i64 0, .int .i64 0, .int .i64 0] 30)) (.cells #[.slice none 0 0, .slice none 0 0, .slice none 0 0, .slice none 0 0, .string ⟨#[]⟩, .int .i64 0, .slice none 0 0, .slice none 0 0, .slice none 0 0, .bool false, .int .i64 0, .int .i64 0, .int .i64 0] 30));simp only [Zbj] at HZ HO;have HB := zh ((((Below.refl w.heap.size w).alloc (Nat.le_refl _) (.cells #[aL, aM, aN, aO, .string r.aC, .int .i64 r.aD, aP, aQ, aR, .bool r.aF, .int .i64 r.ticks, .int .i64 r.aG, .int .i64 r.made] 47)).alloc (by simp) (.cells #[.slice none 0 0, .slice none 0 0, .slice none 0 0, .slice none 0 0, .string ⟨#[]⟩, .int .i64 0, .slice none 0 0, .slice none 0 0, .slice none 0 0, .bool false, .int .i64 0, .int .i64 0, .int .i64 0] 30)).alloc (by simp; omega) (.cells #[.slice none 0 0, .slice none 0 0, .slice none 0 0, .slice none 0 0, .string ⟨#[]⟩, .int .i64 0, .slice none 0 0, .slice none 0 0, .slice none 0 0, .bool false, .int .i64 0, .int .i64 0, .int .i64 0] 30))
 have hne1 : ¬ w.heap.size = w.heap.size + 2 := by omega
 have hne2 : ¬ w.heap.size + 1 = w.heap.size + 2 := by omega
 have hne3 : ¬ w.heap.size + 2 = w.heap.size + 1 := by omega
 have hne4 : ¬ w.heap.size = w.heap.size + 1 := by omega
 go_enter Tryz.func18, Tryz.ntmps18;go_wp2_with fail;have hlo := (Array.getElem?_eq_some_iff.1 HO.o).1;refine (Zek r.names aL F _ (by have := HSZ.o; omega) (Hnames.o.later Z4 HB.o)).mono ?_;rintro e w0 ⟨v', rfl, hr0, hb0⟩;obtain ⟨A0, c0, rfl, _⟩ := id hr0;have HR0 := zh ((hr0.trim Zg).keep Zg.is (G := fun b => w.heap.size + 2 < b ∧ b < w0.heap.size) (fun b h => ⟨by have := h.1; have := hlo; omega, h.2⟩) (Zc.refl _ _));have HM0 := zh (show w.heap.size + 3 ≤ w0.heap.size from by have := hlo; have := Below.size hb0; omega);replace HP := zC hb0 HP;replace HZ := zC hb0 HZ;replace HO := zC hb0 HO;replace HB := zh (HB.o.trans (Below.mono hb0 HB.o.size));clear hr0 hb0 hlo;have p0 := Zae HP.o;have z0 := Zae HZ.o;have o0 := Zae HO.o;have fz0 := fz HZ.o;have fo0 := fz HO.o;replace HO := zh (Zax (o := 0) HO.o (.slice A0 r.names.length c0));simp only [List.setIfInBounds_toArray, List.set_cons_zero, List.set_cons_succ] at HO;replace HP := zh ((Below.heap_setCell _ ⟨w.heap.size + 2, 0, none⟩ (.slice A0 r.names.length c0) _ hne1).trans HP.o);replace HZ := zh ((Below.heap_setCell _ ⟨w.heap.size + 2, 0, none⟩ (.slice A0 r.names.length c0) _ hne2).trans HZ.o);replace HB := zh (HB.o.setCell (p := ⟨w.heap.size + 2, 0, none⟩) (by simp) (.slice A0 r.names.length c0));replace HR0 := zh (HR0.o.keep Zg.is (fun _ h => h) ((Zc.later (F := _) (Za.refl w0)).set (B := w.heap.size + 2) (by have := HM0.o; omega) 0 (.slice A0 r.names.length c0)))
 have HN := zh (show w0.heap.size ≤ _ from (((Zc.later (F := fun _ => False) (Za.refl w0)).set (B := w.heap.size + 2) (fun h => h) 0 (.slice A0 r.names.length c0))).size);go_upto_region 3 with (fail);clear p0 z0 o0 fz0 fo0;have p0 := Zae HP.o;go_wp2_with fail;have hlo := (Array.getElem?_eq_some_iff.1 HO.o).1;refine (Zia r.aB aM F _ (by have := HSZ.o; omega) (Hrecords.o.later Zak HB.o)).mono ?_;rintro e w1 ⟨v', rfl, hr1, hb1⟩;obtain ⟨A1, c1, rfl, _⟩ := id hr1;have HR1 := zh ((hr1.trim Zf).keep Zf.is (G := fun b => w0.heap.size ≤ b ∧ b < w1.heap.size) (fun b h => ⟨by have := h.1; have := HN.o; omega, h.2⟩) (Zc.refl _ _));have HM1 := zh (show w0.heap.size ≤ w1.heap.size from by have := HN.o; have := Below.size hb1; omega);replace HR0 := zh (HR0.o.keep Zg.is (fun _ h => h) (Zc.later hb1));replace HP := zC hb1 HP;replace HZ := zC hb1 HZ;replace HO := zC hb1 HO;replace HB := zh (HB.o.trans (Below.mono hb1 HB.o.size));clear hr1 hb1 hlo;have p0 := Zae HP.o;have z0 := Zae HZ.o;have o0 := Zae HO.o;have fz0 := fz HZ.o;have fo0 := fz HO.o;replace HO := zh (Zax (o := 1) HO.o (.slice A1 r.aB.length c1))
 simp only [List.setIfInBounds_toArray, List.set_cons_zero, List.set_cons_succ] at HO;replace HP := zh ((Below.heap_setCell _ ⟨w.heap.size + 2, 1, none⟩ (.slice A1 r.aB.length c1) _ hne1).trans HP.o);replace HZ := zh ((Below.heap_setCell _ ⟨w.heap.size + 2, 1, none⟩ (.slice A1 r.aB.length c1) _ hne2).trans HZ.o);replace HB := zh (HB.o.setCell (p := ⟨w.heap.size + 2, 1, none⟩) (by simp) (.slice A1 r.aB.length c1));replace HR0 := zh (HR0.o.keep Zg.is (fun _ h => h) ((Zc.later (F := _) (Za.refl w1)).set (B := w.heap.size + 2) (by have := HM0.o; have := HM1.o; omega) 1 (.slice A1 r.aB.length c1)));replace HR1 := zh (HR1.o.keep Zf.is (fun _ h => h) ((Zc.later (F := _) (Za.refl w1)).set (B := w.heap.size + 2) (by have := HM0.o; have := HM1.o; omega) 1 (.slice A1 r.aB.length c1)));replace HN := zh (show w1.heap.size ≤ _ from (((Zc.later (F := fun _ => False) (Za.refl w1)).set (B := w.heap.size + 2) (fun h => h) 1 (.slice A1 r.aB.length c1))).size);go_upto_region 4 with (fail);clear p0 z0 o0 fz0 fo0;have p0 := Zae HP.o;go_wp2_with fail;have hlo := (Array.getElem?_eq_some_iff.1 HO.o).1;refine (Zkt r.aA aN F _ (by have := HSZ.o; omega) (Hobjects.o.later Za9 HB.o)).mono ?_;rintro e w2 ⟨v', rfl, hr2, hb2⟩;obtain ⟨A2, c2, rfl, _⟩ := id hr2
 have HR2 := zh ((hr2.trim Zq).keep Zq.is (G := fun b => w1.heap.size ≤ b ∧ b < w2.heap.size) (fun b h => ⟨by have := h.1; have := HN.o; omega, h.2⟩) (Zc.refl _ _));have HM2 := zh (show w1.heap.size ≤ w2.heap.size from by have := HN.o; have := Below.size hb2; omega);replace HR0 := zh (HR0.o.keep Zg.is (fun _ h => h) (Zc.later hb2));replace HR1 := zh (HR1.o.keep Zf.is (fun _ h => h) (Zc.later hb2));replace HP := zC hb2 HP;replace HZ := zC hb2 HZ;replace HO := zC hb2 HO;replace HB := zh (HB.o.trans (Below.mono hb2 HB.o.size));clear hr2 hb2 hlo;have p0 := Zae HP.o;have z0 := Zae HZ.o;have o0 := Zae HO.o;have fz0 := fz HZ.o;have fo0 := fz HO.o;replace HO := zh (Zax (o := 2) HO.o (.slice A2 r.aA.length c2));simp only [List.setIfInBounds_toArray, List.set_cons_zero, List.set_cons_succ] at HO;replace HP := zh ((Below.heap_setCell _ ⟨w.heap.size + 2, 2, none⟩ (.slice A2 r.aA.length c2) _ hne1).trans HP.o);replace HZ := zh ((Below.heap_setCell _ ⟨w.heap.size + 2, 2, none⟩ (.slice A2 r.aA.length c2) _ hne2).trans HZ.o);replace HB := zh (HB.o.setCell (p := ⟨w.heap.size + 2, 2, none⟩) (by simp) (.slice A2 r.aA.length c2));replace HR0 := zh (HR0.o.keep Zg.is (fun _ h => h) ((Zc.later (F := _) (Za.refl w2)).set (B := w.heap.size + 2) (by have := HM0.o; have := HM1.o; have := HM2.o; omega) 2 (.slice A2 r.aA.length c2)))
 replace HR1 := zh (HR1.o.keep Zf.is (fun _ h => h) ((Zc.later (F := _) (Za.refl w2)).set (B := w.heap.size + 2) (by have := HM0.o; have := HM1.o; have := HM2.o; omega) 2 (.slice A2 r.aA.length c2)));replace HR2 := zh (HR2.o.keep Zq.is (fun _ h => h) ((Zc.later (F := _) (Za.refl w2)).set (B := w.heap.size + 2) (by have := HM0.o; have := HM1.o; have := HM2.o; omega) 2 (.slice A2 r.aA.length c2)));replace HN := zh (show w2.heap.size ≤ _ from (((Zc.later (F := fun _ => False) (Za.refl w2)).set (B := w.heap.size + 2) (fun h => h) 2 (.slice A2 r.aA.length c2))).size);go_upto_region 5 with (fail);clear p0 z0 o0 fz0 fo0;have p0 := Zae HP.o;go_wp2_with fail;have hlo := (Array.getElem?_eq_some_iff.1 HO.o).1;refine (Zf8 r.globals aO F _ (by have := HSZ.o; omega) (Hglobals.o.later Zb HB.o)).mono ?_;rintro e w3 ⟨v', rfl, hr3, hb3⟩;obtain ⟨A3, c3, rfl, _⟩ := id hr3;have HR3 := zh ((hr3.trim Zn).keep Zn.is (G := fun b => w2.heap.size ≤ b ∧ b < w3.heap.size) (fun b h => ⟨by have := h.1; have := HN.o; omega, h.2⟩) (Zc.refl _ _));have HM3 := zh (show w2.heap.size ≤ w3.heap.size from by have := HN.o; have := Below.size hb3; omega);replace HR0 := zh (HR0.o.keep Zg.is (fun _ h => h) (Zc.later hb3));replace HR1 := zh (HR1.o.keep Zf.is (fun _ h => h) (Zc.later hb3))
 replace HR2 := zh (HR2.o.keep Zq.is (fun _ h => h) (Zc.later hb3));replace HP := zC hb3 HP;replace HZ := zC hb3 HZ;replace HO := zC hb3 HO;replace HB := zh (HB.o.trans (Below.mono hb3 HB.o.size));clear hr3 hb3 hlo;have p0 := Zae HP.o;have z0 := Zae HZ.o;have o0 := Zae HO.o;have fz0 := fz HZ.o;have fo0 := fz HO.o;replace HO := zh (Zax (o := 5) (Zax (o := 4) (Zax (o := 3) HO.o (.slice A3 r.globals.length c3)) (.string r.aC)) (.int .i64 r.aD));simp only [List.setIfInBounds_toArray, List.set_cons_zero, List.set_cons_succ] at HO;replace HP := zh ((Below.heap_setCell _ ⟨w.heap.size + 2, 5, none⟩ (.int .i64 r.aD) _ hne1).trans ((Below.heap_setCell _ ⟨w.heap.size + 2, 4, none⟩ (.string r.aC) _ hne1).trans ((Below.heap_setCell _ ⟨w.heap.size + 2, 3, none⟩ (.slice A3 r.globals.length c3) _ hne1).trans HP.o)));replace HZ := zh ((Below.heap_setCell _ ⟨w.heap.size + 2, 5, none⟩ (.int .i64 r.aD) _ hne2).trans ((Below.heap_setCell _ ⟨w.heap.size + 2, 4, none⟩ (.string r.aC) _ hne2).trans ((Below.heap_setCell _ ⟨w.heap.size + 2, 3, none⟩ (.slice A3 r.globals.length c3) _ hne2).trans HZ.o)));replace HB := zh (((HB.o.setCell (p := ⟨w.heap.size + 2, 3, none⟩) (by simp) (.slice A3 r.globals.length c3)).setCell (p := ⟨w.heap.size + 2, 4, none⟩) (by simp) (.string r.aC)).setCell (p := ⟨w.heap.size + 2, 5, none⟩) (by simp) (.int .i64 r.aD))
 replace HR0 := zh (HR0.o.keep Zg.is (fun _ h => h) ((((Zc.later (F := _) (Za.refl w3)).set (B := w.heap.size + 2) (by have := HM0.o; have := HM1.o; have := HM2.o; have := HM3.o; omega) 3 (.slice A3 r.globals.length c3)).set (B := w.heap.size + 2) (by have := HM0.o; have := HM1.o; have := HM2.o; have := HM3.o; omega) 4 (.string r.aC)).set (B := w.heap.size + 2) (by have := HM0.o; have := HM1.o; have := HM2.o; have := HM3.o; omega) 5 (.int .i64 r.aD)));replace HR1 := zh (HR1.o.keep Zf.is (fun _ h => h) ((((Zc.later (F := _) (Za.refl w3)).set (B := w.heap.size + 2) (by have := HM0.o; have := HM1.o; have := HM2.o; have := HM3.o; omega) 3 (.slice A3 r.globals.length c3)).set (B := w.heap.size + 2) (by have := HM0.o; have := HM1.o; have := HM2.o; have := HM3.o; omega) 4 (.string r.aC)).set (B := w.heap.size + 2) (by have := HM0.o; have := HM1.o; have := HM2.o; have := HM3.o; omega) 5 (.int .i64 r.aD)));replace HR2 := zh (HR2.o.keep Zq.is (fun _ h => h) ((((Zc.later (F := _) (Za.refl w3)).set (B := w.heap.size + 2) (by have := HM0.o; have := HM1.o; have := HM2.o; have := HM3.o; omega) 3 (.slice A3 r.globals.length c3)).set (B := w.heap.size + 2) (by have := HM0.o; have := HM1.o; have := HM2.o; have := HM3.o; omega) 4 (.string r.aC)).set (B := w.heap.size + 2) (by have := HM0.o; have := HM1.o; have := HM2.o; have := HM3.o; omega) 5 (.int .i64 r.aD)));replace HR3 := zh (HR3.o.keep Zn.is (fun _ h => h) ((((Zc.later (F := _) (Za.refl w3)).set (B := w.heap.size + 2) (by have := HM0.o; have := HM1.o; have := HM2.o; have := HM3.o; omega) 3 (.slice A3 r.globals.length c3)).set (B := w.heap.size + 2) (by have := HM0.o; have := HM1.o; have := HM2.o; have := HM3.o; omega) 4 (.string r.aC)).set (B := w.heap.size + 2) (by have := HM0.o; have := HM1.o; have := HM2.o; have := HM3.o; omega) 5 (.int .i64 r.aD)))
 replace HN := zh (show w3.heap.size ≤ _ from (((((Zc.later (F := fun _ => False) (Za.refl w3)).set (B := w.heap.size + 2) (fun h => h) 3 (.slice A3 r.globals.length c3)).set (B := w.heap.size + 2) (fun h => h) 4 (.string r.aC)).set (B := w.heap.size + 2) (fun h => h) 5 (.int .i64 r.aD))).size);go_upto_region 8 with (fail);clear p0 z0 o0 fz0 fo0;have p0 := Zae HP.o;go_wp2_with fail;have hlo := (Array.getElem?_eq_some_iff.1 HO.o).1;refine (Zek r.output aP F _ (by have := HSZ.o; omega) (Houtput.o.later Z4 HB.o)).mono ?_;rintro e w6 ⟨v', rfl, hr6, hb6⟩;obtain ⟨A6, c6, rfl, _⟩ := id hr6;have HR6 := zh ((hr6.trim Zg).keep Zg.is (G := fun b => w3.heap.size ≤ b ∧ b < w6.heap.size) (fun b h => ⟨by have := h.1; have := HN.o; omega, h.2⟩) (Zc.refl _ _));have HM6 := zh (show w3.heap.size ≤ w6.heap.size from by have := HN.o; have := Below.size hb6; omega);replace HR0 := zh (HR0.o.keep Zg.is (fun _ h => h) (Zc.later hb6));replace HR1 := zh (HR1.o.keep Zf.is (fun _ h => h) (Zc.later hb6));replace HR2 := zh (HR2.o.keep Zq.is (fun _ h => h) (Zc.later hb6));replace HR3 := zh (HR3.o.keep Zn.is (fun _ h => h) (Zc.later hb6));replace HP := zC hb6 HP;replace HZ := zC hb6 HZ;replace HO := zC hb6 HO;replace HB := zh (HB.o.trans (Below.mono hb6 HB.o.size))
 clear hr6 hb6 hlo;have p0 := Zae HP.o;have z0 := Zae HZ.o;have o0 := Zae HO.o;have fz0 := fz HZ.o;have fo0 := fz HO.o;replace HO := zh (Zax (o := 6) HO.o (.slice A6 r.output.length c6));simp only [List.setIfInBounds_toArray, List.set_cons_zero, List.set_cons_succ] at HO;replace HP := zh ((Below.heap_setCell _ ⟨w.heap.size + 2, 6, none⟩ (.slice A6 r.output.length c6) _ hne1).trans HP.o);replace HZ := zh ((Below.heap_setCell _ ⟨w.heap.size + 2, 6, none⟩ (.slice A6 r.output.length c6) _ hne2).trans HZ.o);replace HB := zh (HB.o.setCell (p := ⟨w.heap.size + 2, 6, none⟩) (by simp) (.slice A6 r.output.length c6));replace HR0 := zh (HR0.o.keep Zg.is (fun _ h => h) ((Zc.later (F := _) (Za.refl w6)).set (B := w.heap.size + 2) (by have := HM0.o; have := HM1.o; have := HM2.o; have := HM3.o; have := HM6.o; omega) 6 (.slice A6 r.output.length c6)));replace HR1 := zh (HR1.o.keep Zf.is (fun _ h => h) ((Zc.later (F := _) (Za.refl w6)).set (B := w.heap.size + 2) (by have := HM0.o; have := HM1.o; have := HM2.o; have := HM3.o; have := HM6.o; omega) 6 (.slice A6 r.output.length c6)));replace HR2 := zh (HR2.o.keep Zq.is (fun _ h => h) ((Zc.later (F := _) (Za.refl w6)).set (B := w.heap.size + 2) (by have := HM0.o; have := HM1.o; have := HM2.o; have := HM3.o; have := HM6.o; omega) 6 (.slice A6 r.output.length c6)))
 replace HR3 := zh (HR3.o.keep Zn.is (fun _ h => h) ((Zc.later (F := _) (Za.refl w6)).set (B := w.heap.size + 2) (by have := HM0.o; have := HM1.o; have := HM2.o; have := HM3.o; have := HM6.o; omega) 6 (.slice A6 r.output.length c6)));replace HR6 := zh (HR6.o.keep Zg.is (fun _ h => h) ((Zc.later (F := _) (Za.refl w6)).set (B := w.heap.size + 2) (by have := HM0.o; have := HM1.o; have := HM2.o; have := HM3.o; have := HM6.o; omega) 6 (.slice A6 r.output.length c6)));replace HN := zh (show w6.heap.size ≤ _ from (((Zc.later (F := fun _ => False) (Za.refl w6)).set (B := w.heap.size + 2) (fun h => h) 6 (.slice A6 r.output.length c6))).size);go_upto_region 9 with (fail);clear p0 z0 o0 fz0 fo0;have p0 := Zae HP.o;go_wp2_with fail;have hlo := (Array.getElem?_eq_some_iff.1 HO.o).1;refine (Zek r.trace aQ F _ (by have := HSZ.o; omega) (Htrace.o.later Z4 HB.o)).mono ?_;rintro e w7 ⟨v', rfl, hr7, hb7⟩;obtain ⟨A7, c7, rfl, _⟩ := id hr7;have HR7 := zh ((hr7.trim Zg).keep Zg.is (G := fun b => w6.heap.size ≤ b ∧ b < w7.heap.size) (fun b h => ⟨by have := h.1; have := HN.o; omega, h.2⟩) (Zc.refl _ _));have HM7 := zh (show w6.heap.size ≤ w7.heap.size from by have := HN.o; have := Below.size hb7; omega);replace HR0 := zh (HR0.o.keep Zg.is (fun _ h => h) (Zc.later hb7))
 replace HR1 := zh (HR1.o.keep Zf.is (fun _ h => h) (Zc.later hb7));replace HR2 := zh (HR2.o.keep Zq.is (fun _ h => h) (Zc.later hb7));replace HR3 := zh (HR3.o.keep Zn.is (fun _ h => h) (Zc.later hb7));replace HR6 := zh (HR6.o.keep Zg.is (fun _ h => h) (Zc.later hb7));replace HP := zC hb7 HP;replace HZ := zC hb7 HZ;replace HO := zC hb7 HO;replace HB := zh (HB.o.trans (Below.mono hb7 HB.o.size));clear hr7 hb7 hlo;have p0 := Zae HP.o;have z0 := Zae HZ.o;have o0 := Zae HO.o;have fz0 := fz HZ.o;have fo0 := fz HO.o;replace HO := zh (Zax (o := 7) HO.o (.slice A7 r.trace.length c7));simp only [List.setIfInBounds_toArray, List.set_cons_zero, List.set_cons_succ] at HO;replace HP := zh ((Below.heap_setCell _ ⟨w.heap.size + 2, 7, none⟩ (.slice A7 r.trace.length c7) _ hne1).trans HP.o);replace HZ := zh ((Below.heap_setCell _ ⟨w.heap.size + 2, 7, none⟩ (.slice A7 r.trace.length c7) _ hne2).trans HZ.o);replace HB := zh (HB.o.setCell (p := ⟨w.heap.size + 2, 7, none⟩) (by simp) (.slice A7 r.trace.length c7));replace HR0 := zh (HR0.o.keep Zg.is (fun _ h => h) ((Zc.later (F := _) (Za.refl w7)).set (B := w.heap.size + 2) (by have := HM0.o; have := HM1.o; have := HM2.o; have := HM3.o; have := HM6.o; have := HM7.o; omega) 7 (.slice A7 r.trace.length c7)));replace HR1 := zh (HR1.o.keep Zf.is (fun _ h => h) ((Zc.later (F := _) (Za.refl w7)).set (B := w.heap.size + 2) (by have := HM0.o; have := HM1.o; have := HM2.o; have := HM3.o; have := HM6.o; have := HM7.o; omega) 7 (.slice A7 r.trace.length c7)))
 replace HR2 := zh (HR2.o.keep Zq.is (fun _ h => h) ((Zc.later (F := _) (Za.refl w7)).set (B := w.heap.size + 2) (by have := HM0.o; have := HM1.o; have := HM2.o; have := HM3.o; have := HM6.o; have := HM7.o; omega) 7 (.slice A7 r.trace.length c7)));replace HR3 := zh (HR3.o.keep Zn.is (fun _ h => h) ((Zc.later (F := _) (Za.refl w7)).set (B := w.heap.size + 2) (by have := HM0.o; have := HM1.o; have := HM2.o; have := HM3.o; have := HM6.o; have := HM7.o; omega) 7 (.slice A7 r.trace.length c7)));replace HR6 := zh (HR6.o.keep Zg.is (fun _ h => h) ((Zc.later (F := _) (Za.refl w7)).set (B := w.heap.size + 2) (by have := HM0.o; have := HM1.o; have := HM2.o; have := HM3.o; have := HM6.o; have := HM7.o; omega) 7 (.slice A7 r.trace.length c7)));replace HR7 := zh (HR7.o.keep Zg.is (fun _ h => h) ((Zc.later (F := _) (Za.refl w7)).set (B := w.heap.size + 2) (by have := HM0.o; have := HM1.o; have := HM2.o; have := HM3.o; have := HM6.o; have := HM7.o; omega) 7 (.slice A7 r.trace.length c7)));replace HN := zh (show w7.heap.size ≤ _ from (((Zc.later (F := fun _ => False) (Za.refl w7)).set (B := w.heap.size + 2) (fun h => h) 7 (.slice A7 r.trace.length c7))).size);go_upto_region 10 with (fail);clear p0 z0 o0 fz0 fo0;have p0 := Zae HP.o;go_wp2_with fail;have hlo := (Array.getElem?_eq_some_iff.1 HO.o).1
 refine (Zku r.aE aR F _ (by have := HSZ.o; omega) (Hactives.o.later Zba HB.o)).mono ?_;rintro e w8 ⟨v', rfl, hr8, hb8⟩;obtain ⟨A8, c8, rfl, _⟩ := id hr8;have HR8 := zh ((hr8.trim Zah).keep Zah.is (G := fun b => w7.heap.size ≤ b ∧ b < w8.heap.size) (fun b h => ⟨by have := h.1; have := HN.o; omega, h.2⟩) (Zc.refl _ _));have HM8 := zh (show w7.heap.size ≤ w8.heap.size from by have := HN.o; have := Below.size hb8; omega);replace HR0 := zh (HR0.o.keep Zg.is (fun _ h => h) (Zc.later hb8));replace HR1 := zh (HR1.o.keep Zf.is (fun _ h => h) (Zc.later hb8));replace HR2 := zh (HR2.o.keep Zq.is (fun _ h => h) (Zc.later hb8));replace HR3 := zh (HR3.o.keep Zn.is (fun _ h => h) (Zc.later hb8));replace HR6 := zh (HR6.o.keep Zg.is (fun _ h => h) (Zc.later hb8));replace HR7 := zh (HR7.o.keep Zg.is (fun _ h => h) (Zc.later hb8));replace HP := zC hb8 HP;replace HZ := zC hb8 HZ;replace HO := zC hb8 HO;replace HB := zh (HB.o.trans (Below.mono hb8 HB.o.size));clear hr8 hb8 hlo;have p0 := Zae HP.o;have z0 := Zae HZ.o;have o0 := Zae HO.o;have fz0 := fz HZ.o;have fo0 := fz HO.o;replace HO := zh (Zax (o := 12) (Zax (o := 11) (Zax (o := 10) (Zax (o := 9) (Zax (o := 8) HO.o (.slice A8 r.aE.length c8)) (.bool r.aF)) (.int .i64 r.ticks)) (.int .i64 r.aG)) (.int .i64 r.made))
 simp only [List.setIfInBounds_toArray, List.set_cons_zero, List.set_cons_succ] at HO;replace HP := zh ((Below.heap_setCell _ ⟨w.heap.size + 2, 12, none⟩ (.int .i64 r.made) _ hne1).trans ((Below.heap_setCell _ ⟨w.heap.size + 2, 11, none⟩ (.int .i64 r.aG) _ hne1).trans ((Below.heap_setCell _ ⟨w.heap.size + 2, 10, none⟩ (.int .i64 r.ticks) _ hne1).trans ((Below.heap_setCell _ ⟨w.heap.size + 2, 9, none⟩ (.bool r.aF) _ hne1).trans ((Below.heap_setCell _ ⟨w.heap.size + 2, 8, none⟩ (.slice A8 r.aE.length c8) _ hne1).trans HP.o)))));replace HZ := zh ((Below.heap_setCell _ ⟨w.heap.size + 2, 12, none⟩ (.int .i64 r.made) _ hne2).trans ((Below.heap_setCell _ ⟨w.heap.size + 2, 11, none⟩ (.int .i64 r.aG) _ hne2).trans ((Below.heap_setCell _ ⟨w.heap.size + 2, 10, none⟩ (.int .i64 r.ticks) _ hne2).trans ((Below.heap_setCell _ ⟨w.heap.size + 2, 9, none⟩ (.bool r.aF) _ hne2).trans ((Below.heap_setCell _ ⟨w.heap.size + 2, 8, none⟩ (.slice A8 r.aE.length c8) _ hne2).trans HZ.o)))));replace HB := zh (((((HB.o.setCell (p := ⟨w.heap.size + 2, 8, none⟩) (by simp) (.slice A8 r.aE.length c8)).setCell (p := ⟨w.heap.size + 2, 9, none⟩) (by simp) (.bool r.aF)).setCell (p := ⟨w.heap.size + 2, 10, none⟩) (by simp) (.int .i64 r.ticks)).setCell (p := ⟨w.heap.size + 2, 11, none⟩) (by simp) (.int .i64 r.aG)).setCell (p := ⟨w.heap.size + 2, 12, none⟩) (by simp) (.int .i64 r.made));replace HR0 := zh (HR0.o.keep Zg.is (fun _ h => h) ((((((Zc.later (F := _) (Za.refl w8)).set (B := w.heap.size + 2) (by have := HM0.o; have := HM1.o; have := HM2.o; have := HM3.o; have := HM6.o; have := HM7.o; have := HM8.o; omega) 8 (.slice A8 r.aE.length c8)).set (B := w.heap.size + 2) (by have := HM0.o; have := HM1.o; have := HM2.o; have := HM3.o; have := HM6.o; have := HM7.o; have := HM8.o; omega) 9 (.bool r.aF)).set (B := w.heap.size + 2) (by have := HM0.o; have := HM1.o; have := HM2.o; have := HM3.o; have := HM6.o; have := HM7.o; have := HM8.o; omega) 10 (.int .i64 r.ticks)).set (B := w.heap.size + 2) (by have := HM0.o; have := HM1.o; have := HM2.o; have := HM3.o; have := HM6.o; have := HM7.o; have := HM8.o; omega) 11 (.int .i64 r.aG)).set (B := w.heap.size + 2) (by have := HM0.o; have := HM1.o; have := HM2.o; have := HM3.o; have := HM6.o; have := HM7.o; have := HM8.o; omega) 12 (.int .i64 r.made)))
 replace HR1 := zh (HR1.o.keep Zf.is (fun _ h => h) ((((((Zc.later (F := _) (Za.refl w8)).set (B := w.heap.size + 2) (by have := HM0.o; have := HM1.o; have := HM2.o; have := HM3.o; have := HM6.o; have := HM7.o; have := HM8.o; omega) 8 (.slice A8 r.aE.length c8)).set (B := w.heap.size + 2) (by have := HM0.o; have := HM1.o; have := HM2.o; have := HM3.o; have := HM6.o; have := HM7.o; have := HM8.o; omega) 9 (.bool r.aF)).set (B := w.heap.size + 2) (by have := HM0.o; have := HM1.o; have := HM2.o; have := HM3.o; have := HM6.o; have := HM7.o; have := HM8.o; omega) 10 (.int .i64 r.ticks)).set (B := w.heap.size + 2) (by have := HM0.o; have := HM1.o; have := HM2.o; have := HM3.o; have := HM6.o; have := HM7.o; have := HM8.o; omega) 11 (.int .i64 r.aG)).set (B := w.heap.size + 2) (by have := HM0.o; have := HM1.o; have := HM2.o; have := HM3.o; have := HM6.o; have := HM7.o; have := HM8.o; omega) 12 (.int .i64 r.made)));replace HR2 := zh (HR2.o.keep Zq.is (fun _ h => h) ((((((Zc.later (F := _) (Za.refl w8)).set (B := w.heap.size + 2) (by have := HM0.o; have := HM1.o; have := HM2.o; have := HM3.o; have := HM6.o; have := HM7.o; have := HM8.o; omega) 8 (.slice A8 r.aE.length c8)).set (B := w.heap.size + 2) (by have := HM0.o; have := HM1.o; have := HM2.o; have := HM3.o; have := HM6.o; have := HM7.o; have := HM8.o; omega) 9 (.bool r.aF)).set (B := w.heap.size + 2) (by have := HM0.o; have := HM1.o; have := HM2.o; have := HM3.o; have := HM6.o; have := HM7.o; have := HM8.o; omega) 10 (.int .i64 r.ticks)).set (B := w.heap.size + 2) (by have := HM0.o; have := HM1.o; have := HM2.o; have := HM3.o; have := HM6.o; have := HM7.o; have := HM8.o; omega) 11 (.int .i64 r.aG)).set (B := w.heap.size + 2) (by have := HM0.o; have := HM1.o; have := HM2.o; have := HM3.o; have := HM6.o; have := HM7.o; have := HM8.o; omega) 12 (.int .i64 r.made)))
 replace HR3 := zh (HR3.o.keep Zn.is (fun _ h => h) ((((((Zc.later (F := _) (Za.refl w8)).set (B := w.heap.size + 2) (by have := HM0.o; have := HM1.o; have := HM2.o; have := HM3.o; have := HM6.o; have := HM7.o; have := HM8.o; omega) 8 (.slice A8 r.aE.length c8)).set (B := w.heap.size + 2) (by have := HM0.o; have := HM1.o; have := HM2.o; have := HM3.o; have := HM6.o; have := HM7.o; have := HM8.o; omega) 9 (.bool r.aF)).set (B := w.heap.size + 2) (by have := HM0.o; have := HM1.o; have := HM2.o; have := HM3.o; have := HM6.o; have := HM7.o; have := HM8.o; omega) 10 (.int .i64 r.ticks)).set (B := w.heap.size + 2) (by have := HM0.o; have := HM1.o; have := HM2.o; have := HM3.o; have := HM6.o; have := HM7.o; have := HM8.o; omega) 11 (.int .i64 r.aG)).set (B := w.heap.size + 2) (by have := HM0.o; have := HM1.o; have := HM2.o; have := HM3.o; have := HM6.o; have := HM7.o; have := HM8.o; omega) 12 (.int .i64 r.made)));replace HR6 := zh (HR6.o.keep Zg.is (fun _ h => h) ((((((Zc.later (F := _) (Za.refl w8)).set (B := w.heap.size + 2) (by have := HM0.o; have := HM1.o; have := HM2.o; have := HM3.o; have := HM6.o; have := HM7.o; have := HM8.o; omega) 8 (.slice A8 r.aE.length c8)).set (B := w.heap.size + 2) (by have := HM0.o; have := HM1.o; have := HM2.o; have := HM3.o; have := HM6.o; have := HM7.o; have := HM8.o; omega) 9 (.bool r.aF)).set (B := w.heap.size + 2) (by have := HM0.o; have := HM1.o; have := HM2.o; have := HM3.o; have := HM6.o; have := HM7.o; have := HM8.o; omega) 10 (.int .i64 r.ticks)).set (B := w.heap.size + 2) (by have := HM0.o; have := HM1.o; have := HM2.o; have := HM3.o; have := HM6.o; have := HM7.o; have := HM8.o; omega) 11 (.int .i64 r.aG)).set (B := w.heap.size + 2) (by have := HM0.o; have := HM1.o; have := HM2.o; have := HM3.o; have := HM6.o; have := HM7.o; have := HM8.o; omega) 12 (.int .i64 r.made)))
 replace HR7 := zh (HR7.o.keep Zg.is (fun _ h => h) ((((((Zc.later (F := _) (Za.refl w8)).set (B := w.heap.size + 2) (by have := HM0.o; have := HM1.o; have := HM2.o; have := HM3.o; have := HM6.o; have := HM7.o; have := HM8.o; omega) 8 (.slice A8 r.aE.length c8)).set (B := w.heap.size + 2) (by have := HM0.o; have := HM1.o; have := HM2.o; have := HM3.o; have := HM6.o; have := HM7.o; have := HM8.o; omega) 9 (.bool r.aF)).set (B := w.heap.size + 2) (by have := HM0.o; have := HM1.o; have := HM2.o; have := HM3.o; have := HM6.o; have := HM7.o; have := HM8.o; omega) 10 (.int .i64 r.ticks)).set (B := w.heap.size + 2) (by have := HM0.o; have := HM1.o; have := HM2.o; have := HM3.o; have := HM6.o; have := HM7.o; have := HM8.o; omega) 11 (.int .i64 r.aG)).set (B := w.heap.size + 2) (by have := HM0.o; have := HM1.o; have := HM2.o; have := HM3.o; have := HM6.o; have := HM7.o; have := HM8.o; omega) 12 (.int .i64 r.made)));replace HR8 := zh (HR8.o.keep Zah.is (fun _ h => h) ((((((Zc.later (F := _) (Za.refl w8)).set (B := w.heap.size + 2) (by have := HM0.o; have := HM1.o; have := HM2.o; have := HM3.o; have := HM6.o; have := HM7.o; have := HM8.o; omega) 8 (.slice A8 r.aE.length c8)).set (B := w.heap.size + 2) (by have := HM0.o; have := HM1.o; have := HM2.o; have := HM3.o; have := HM6.o; have := HM7.o; have := HM8.o; omega) 9 (.bool r.aF)).set (B := w.heap.size + 2) (by have := HM0.o; have := HM1.o; have := HM2.o; have := HM3.o; have := HM6.o; have := HM7.o; have := HM8.o; omega) 10 (.int .i64 r.ticks)).set (B := w.heap.size + 2) (by have := HM0.o; have := HM1.o; have := HM2.o; have := HM3.o; have := HM6.o; have := HM7.o; have := HM8.o; omega) 11 (.int .i64 r.aG)).set (B := w.heap.size + 2) (by have := HM0.o; have := HM1.o; have := HM2.o; have := HM3.o; have := HM6.o; have := HM7.o; have := HM8.o; omega) 12 (.int .i64 r.made)))
 replace HN := zh (show w8.heap.size ≤ _ from (((((((Zc.later (F := fun _ => False) (Za.refl w8)).set (B := w.heap.size + 2) (fun h => h) 8 (.slice A8 r.aE.length c8)).set (B := w.heap.size + 2) (fun h => h) 9 (.bool r.aF)).set (B := w.heap.size + 2) (fun h => h) 10 (.int .i64 r.ticks)).set (B := w.heap.size + 2) (fun h => h) 11 (.int .i64 r.aG)).set (B := w.heap.size + 2) (fun h => h) 12 (.int .i64 r.made))).size);go_upto_region 15 with (fail);clear p0 z0 o0 fz0 fo0;obtain ⟨wf, hwf⟩ : ∃ wf, wf = (((((w8.setCell ⟨w.heap.size + 2, 8, none⟩ (.slice A8 r.aE.length c8)).setCell ⟨w.heap.size + 2, 9, none⟩ (.bool r.aF)).setCell ⟨w.heap.size + 2, 10, none⟩ (.int .i64 r.ticks)).setCell ⟨w.heap.size + 2, 11, none⟩ (.int .i64 r.aG)).setCell ⟨w.heap.size + 2, 12, none⟩ (.int .i64 r.made)) := ⟨_, rfl⟩;rw [← hwf] at HO HP HZ HB HR0 HR1 HR2 HR3 HR6 HR7 HR8 ⊢;clear hwf;have z0 := Zae HZ.o;have o0 := Zae HO.o;have fz0 := fz HZ.o;go_wp2_with fail;refine bodyPost_ret (v := .agg #[.slice A0 r.names.length c0, .slice A1 r.aB.length c1, .slice A2 r.aA.length c2, .slice A3 r.globals.length c3, .string r.aC, .int .i64 r.aD, .slice A6 r.output.length c6, .slice A7 r.trace.length c7, .slice A8 r.aE.length c8, .bool r.aF, .int .i64 r.ticks, .int .i64 r.aG, .int .i64 r.made]) (by simp [results, Tryz.results18, go_sem, z0, o0, fz0, hne3]) rfl ⟨[.slice A0 r.names.length c0, .slice A1 r.aB.length c1, .slice A2 r.aA.length c2, .slice A3 r.globals.length c3, .string r.aC, .int .i64 r.aD, .slice A6 r.output.length c6, .slice A7 r.trace.length c7, .slice A8 r.aE.length c8, .bool r.aF, .int .i64 r.ticks, .int .i64 r.aG, .int .i64 r.made], rfl, ?_, (((((((((((((HB.o.setCell (p := ⟨w.heap.size + 1, 0, none⟩) (by simp) _).setCell (p := ⟨w.heap.size + 1, 1, none⟩) (by simp) _).setCell (p := ⟨w.heap.size + 1, 2, none⟩) (by simp) _).setCell (p := ⟨w.heap.size + 1, 3, none⟩) (by simp) _).setCell (p := ⟨w.heap.size + 1, 4, none⟩) (by simp) _).setCell (p := ⟨w.heap.size + 1, 5, none⟩) (by simp) _).setCell (p := ⟨w.heap.size + 1, 6, none⟩) (by simp) _).setCell (p := ⟨w.heap.size + 1, 7, none⟩) (by simp) _).setCell (p := ⟨w.heap.size + 1, 8, none⟩) (by simp) _).setCell (p := ⟨w.heap.size + 1, 9, none⟩) (by simp) _).setCell (p := ⟨w.heap.size + 1, 10, none⟩) (by simp) _).setCell (p := ⟨w.heap.size + 1, 11, none⟩) (by simp) _).setCell (p := ⟨w.heap.size + 1, 12, none⟩) (by simp) _)⟩
 have := HM0.o; have := HM1.o; have := HM2.o; have := HM3.o; have := HM6.o; have := HM7.o; have := HM8.o;have kk := Z5 (F := fun y => y ≠ w.heap.size + 1) (fun h => h rfl) [.slice A0 r.names.length c0, .slice A1 r.aB.length c1, .slice A2 r.aA.length c2, .slice A3 r.globals.length c3, .string r.aC, .int .i64 r.aD, .slice A6 r.output.length c6, .slice A7 r.trace.length c7, .slice A8 r.aE.length c8, .bool r.aF, .int .i64 r.ticks, .int .i64 r.aG, .int .i64 r.made] wf 0 (Zc.refl _ _);simp only [Zp, Nat.zero_add, Nat.reduceAdd] at kk;exact ⟨(fun y => if y < w0.heap.size then 0 else if y < w1.heap.size then 1 else if y < w2.heap.size then 2 else if y < w3.heap.size then 3 else if y < w6.heap.size then 4 else if y < w7.heap.size then 5 else (6 : Nat)), _, _, _, _, _, _, _, rfl, HR0.o.keep Zg.is (fun b h => ⟨by have := h.1; omega, by have := h.1; have := h.2; dsimp only; (repeat' split) <;> omega⟩) (kk.mono fun b h => by have := h.1; have := h.2; omega), HR1.o.keep Zf.is (fun b h => ⟨by have := h.1; omega, by have := h.1; have := h.2; dsimp only; (repeat' split) <;> omega⟩) (kk.mono fun b h => by have := h.1; have := h.2; omega), HR2.o.keep Zq.is (fun b h => ⟨by have := h.1; omega, by have := h.1; have := h.2; dsimp only; (repeat' split) <;> omega⟩) (kk.mono fun b h => by have := h.1; have := h.2; omega), HR3.o.keep Zn.is (fun b h => ⟨by have := h.1; omega, by have := h.1; have := h.2; dsimp only; (repeat' split) <;> omega⟩) (kk.mono fun b h => by have := h.1; have := h.2; omega), Hsubject.o, Hposition.o, HR6.o.keep Zg.is (fun b h => ⟨by have := h.1; omega, by have := h.1; have := h.2; dsimp only; (repeat' split) <;> omega⟩) (kk.mono fun b h => by have := h.1; have := h.2; omega), HR7.o.keep Zg.is (fun b h => ⟨by have := h.1; omega, by have := h.1; have := h.2; dsimp only; (repeat' split) <;> omega⟩) (kk.mono fun b h => by have := h.1; have := h.2; omega), HR8.o.keep Zah.is (fun b h => ⟨by have := h.1; omega, by have := h.1; have := h.2; dsimp only; (repeat' split) <;> omega⟩) (kk.mono fun b h => by have := h.1; have := h.2; omega), Hticks.o, Hbudget.o, Hmade.o⟩
theorem Zdf : Zn3 Zbp 1 where
 is := Z4
 any := fun h => h
 one := fun h u hu => by
  obtain ⟨e, _⟩ := h;subst e;simp at hu
  rcases hu with rfl <;> rfl
theorem Ze1 : Zn3 Ze 6 where
 is := Zb
 any := fun h => h
 one := fun h u hu => by
  obtain ⟨e, _⟩ := h;subst e;simp at hu
  rcases hu with rfl | rfl | rfl | rfl | rfl | rfl <;> rfl
theorem Zhk : Zn3 Zbf 2 where
 is := Zba
 any := fun h => h
 one := fun h u hu => by
  obtain ⟨e, _⟩ := h;subst e;simp at hu
  rcases hu with rfl | rfl <;> rfl
theorem Zy {w : World} {o : Array Value} {T : TypeId} {k : Nat} (h : k = w.heap.size) : (w.alloc (.cells o T)).heap[k]? = some (.cells o T (0, 0)) := by subst h; exact heap_alloc_new w _
theorem Zfp (l : List Zj) (v : Value) (F : Nat → Prop) (w : World) (hm : l.length ≤ 2097152) (hr : Zu Ze 6 F w l v) :
  Calls Tryz.prog 124 #[v] w fun e w' => ∃ v', e = .returned v' ∧ Zbo Ze 6 34 (fun b => w.heap.size ≤ b) w' l v' ∧ Below w.heap.size w w' := by
 obtain ⟨iValueS, hiValueS, hzValueS0, hzValueS1, hzValueS2⟩ := info_parts Zf7;have HR := zh hr;obtain ⟨A, c, rfl, _⟩ := id hr;clear hr;go_enter Tryz.func124, Tryz.ntmps124
 go_wp2_with (at_builtin; refine Zao Ze1 (by decide) rfl _ _ 27 rfl 34 iValueS (.agg #[.int .i64 0, .int .i64 0, .int .i64 0, .string ⟨#[]⟩, .int .i64 0, .int .i64 0]) 56 Tryz.underlying27 hiValueS hzValueS0 hzValueS1 hzValueS2 rfl rfl (Zy (by simp)) rfl (HR.o.later Zb ((Za.refl _).alloc _)) hm (by decide) ?_; intro v' w2 hr2 hl2)
 go_ret;exact ⟨_, rfl, hr2, ((Below.refl _ _).alloc (Nat.le_refl _) _).trans (Below.mono hl2 (by simp))⟩
theorem Zg6 (w : World) (l : List Value) (T : TypeId) : ∀ j u, l[j]? = some u → (w.alloc (.cells l.toArray T)).cell? ((⟨w.heap.size, 0, none⟩ : Addr).add j) = some u := fun j u h => by
 rw [Zqp, Nat.zero_add, cell_of_row _ _ _ _ _ _ (heap_alloc_new w _)]
 simpa using h
theorem Zgm.form {α : Type} {S : Zc0 α} {size : Nat} {T : TypeId} {base : Nat} {l : List α} {v : Value} {w : World} {xs : List Value} {tag : Nat → Nat} (h : Zgm S size T base l v w xs tag) : ∃ A c, v = .slice A l.length c := by
 obtain ⟨A, c, e, _⟩ := h.row.form;exact ⟨A, c, e⟩
theorem Zji (l : List Zaw) (v : Value) (F : Nat → Prop) (w : World) (hsz : Zk Zo l ≤ 2097152) (hr : Zu Zaz 3 F w l v) :
  Calls Tryz.prog 93 #[v] w fun e w' => ∃ v', e = .returned v' ∧ Zbo Za0 3 136 (fun b => w.heap.size ≤ b) w' l v' ∧ Below w.heap.size w w' := by
 obtain ⟨iStringS, hiStringS, hzStringS0, hzStringS1, hzStringS2⟩ := info_parts Zeo;obtain ⟨iRecordTypeS, hiRecordTypeS, hzRecordTypeS0, hzRecordTypeS1, hzRecordTypeS2⟩ := info_parts Zew;obtain ⟨A, c, rfl, hc, hcm, hel⟩ := hr;unfold maxLen at hcm;have HEL := zh hel;have HSZ := zh (show l.length + Zaq Zo l ≤ 2097152 from hsz);have hlen : l.length ≤ 2097152 := by have := HSZ.o; omega
 clear hel hsz;go_enter Tryz.func93, Tryz.ntmps93;go_wp2_with fail;have HS0 : Hd (Zev Za0 3 136 w.heap.size [] (.slice (some ⟨w.heap.size, 0, none⟩) 0 0) (w.alloc (.cells #[] 136))) := zh (Zev.fresh (Zy rfl) (Nat.le_refl _))
 go_loopw [3, 9] (fun ov iv wr => ∃ (j : Nat) (vo : Value) (dl : List Zaw), vo = ov ∧ iv = .int .i64 j ∧ j ≤ l.length ∧ Hd (dl = l.take j) ∧ Zev Za0 3 136 w.heap.size dl vo wr ∧ Below w.heap.size w wr) (fun _ iv _ => l.length - (intOf iv).toNat)
 case atStart => exact ⟨0, _, [], rfl, rfl, Nat.zero_le _, zh (by simp), HS0.o, (Below.refl _ _).alloc (Nat.le_refl _) _⟩
 case round =>
  obtain ⟨j, vo, dl, rfl, rfl, hj, HDL, hso, hbel⟩ := hrel;have HB := zh hbel
  by_cases hlt : j < l.length
  ·have hlt' : (j : Int) < l.length := by omega
   obtain ⟨xs, tg, hat⟩ := hso;have HAT := zh hat;obtain ⟨Ao, co, hvo⟩ := hat.form;subst hvo;have hdl : dl.length ≤ 2097152 := by rw [HDL.o, List.length_take]; omega
   have hwb : w.heap.size ≤ wr.heap.size := hbel.size;clear hat hbel;obtain ⟨b, o, cs, rfl, hF, hbl, hE, hcell⟩ := HEL.o j hlt;obtain ⟨vf, rfl, hnm, hfl0, hln⟩ := hE;have HN := zh hnm;have HLN := zh hln;have HF0 := zh (hfl0.keep Z4 (G := F) (fun _ h => h) (Zc.later HB.o));have hfl : l[j].fields.length ≤ 2097152 := by
    have h1 := Zb4 Zo l l[j] (List.getElem_mem hlt);have h2 : Zo l[j] = l[j].name.size + (l[j].fields.length + Zaq ByteArray.size l[j].fields) := rfl;have := HSZ.o
    omega
   obtain ⟨Af, cf, hvf, _⟩ := id hfl0;have e0 := (HB.o.cell (p := ⟨b, o + j * 3 + 0, none⟩) hbl).trans (hcell 0 _ rfl);have e1 := (HB.o.cell (p := ⟨b, o + j * 3 + 1, none⟩) hbl).trans (hcell 1 _ rfl);have e2 := (HB.o.cell (p := ⟨b, o + j * 3 + 2, none⟩) hbl).trans (hcell 2 _ rfl);simp only [Nat.add_zero] at e0;subst hvf;clear hnm hln hfl0 hcell;go_upto_region 5 with (fail);clear e0 e1 e2;have HXB := zh (heap_alloc_new wr (.cells #[.string l[j].name, .slice Af l[j].fields.length cf, .int .i64 l[j].line] 136));have hbx : wr.heap.size < (wr.alloc (.cells #[.string l[j].name, .slice Af l[j].fields.length cf, .int .i64 l[j].line] 136)).heap.size := Zd HXB.o;have e0 := cell_of_row (wr.alloc (.cells #[.string l[j].name, .slice Af l[j].fields.length cf, .int .i64 l[j].line] 136)) wr.heap.size 0 _ _ _ HXB.o;have e1 := cell_of_row (wr.alloc (.cells #[.string l[j].name, .slice Af l[j].fields.length cf, .int .i64 l[j].line] 136)) wr.heap.size 1 _ _ _ HXB.o;have e2 := cell_of_row (wr.alloc (.cells #[.string l[j].name, .slice Af l[j].fields.length cf, .int .i64 l[j].line] 136)) wr.heap.size 2 _ _ _ HXB.o;simp only [nD, nE, nF] at e0 e1 e2;refine Zbd [11, 12] [] (by kernel_rfl) (fun W hW => ?_);have hWL : Za (wr.alloc (.cells #[.string l[j].name, .slice Af l[j].fields.length cf, .int .i64 l[j].line] 136)) W := by rw [hW]; exact (Za.refl _).drew
   have eW0 := (hWL.cell ⟨wr.heap.size, 0, none⟩ hbx).trans e0;have eW1 := (hWL.cell ⟨wr.heap.size, 1, none⟩ hbx).trans e1;have eW2 := (hWL.cell ⟨wr.heap.size, 2, none⟩ hbx).trans e2;have hbW : wr.heap.size < W.heap.size := Nat.lt_of_lt_of_le hbx hWL.size;have HLW := zh (((Za.refl wr).alloc _).trans hWL);have HF := zh (HF0.o.later Z4 HLW.o);clear hW hWL e0 e1 e2;refine tU 0 13 (v := ?_) rfl rfl (fun x hx => ?_) ?_;rotate_left
   ·go_simp;first|done|with_reducible rfl
   simp only [Act.put, nA, nB, nC];refine tU 1 14 (v := ?_) rfl rfl (fun x hx => ?_) ?_;rotate_left
   ·go_simp;first|done|with_reducible rfl
   simp only [Act.put, nA, nB, nC];refine tU 2 15 (v := ?_) rfl rfl (fun x hx => ?_) ?_;rotate_left
   ·have x0 := (hx.cell ⟨wr.heap.size, 0, none⟩ hbW).trans eW0; have x1 := (hx.cell ⟨wr.heap.size, 1, none⟩ hbW).trans eW1; have x2 := (hx.cell ⟨wr.heap.size, 2, none⟩ hbW).trans eW2; go_simp;first|done|with_reducible rfl
   simp only [Act.put, nA, nB, nC];refine tU 4 17 (v := ?_) rfl rfl (fun x hx => ?_) ?_;rotate_left
   ·go_simp;first|done|with_reducible rfl
   simp only [Act.put, nA, nB, nC];refine tU 5 18 (v := ?_) rfl rfl (fun x hx => ?_) ?_;rotate_left
   ·have x0 := (hx.cell ⟨wr.heap.size, 0, none⟩ hbW).trans eW0; have x1 := (hx.cell ⟨wr.heap.size, 1, none⟩ hbW).trans eW1; have x2 := (hx.cell ⟨wr.heap.size, 2, none⟩ hbW).trans eW2; go_simp;first|done|with_reducible rfl
   simp only [Act.put, nA, nB, nC];refine tU 7 20 (v := ?_) rfl rfl (fun x hx => ?_) ?_;rotate_left
   ·go_simp;first|done|with_reducible rfl
   simp only [Act.put, nA, nB, nC];refine tU 8 21 (v := ?_) rfl rfl (fun x hx => ?_) ?_;rotate_left
   ·have x0 := (hx.cell ⟨wr.heap.size, 0, none⟩ hbW).trans eW0; have x1 := (hx.cell ⟨wr.heap.size, 1, none⟩ hbW).trans eW1; have x2 := (hx.cell ⟨wr.heap.size, 2, none⟩ hbW).trans eW2; go_simp;first|done|with_reducible rfl
   simp only [Act.put, nA, nB, nC];refine Zce 3 (by kernel_rfl) rfl rfl ?_;go_wp2_with fail;refine ⟨(Za.refl _).alloc _, ?_⟩;have HLX := zh ((Za.refl W).alloc (.cells #[] 9));refine Zce 6 (by kernel_rfl) rfl rfl ?_;refine Zao Zdf (by decide) rfl _ _ 24 rfl 9 iStringS (.string ⟨#[]⟩) 16 Tryz.underlying24 hiStringS hzStringS0 hzStringS1 hzStringS2 rfl rfl (Zy rfl) rfl (HF.o.later Z4 HLX.o) hfl (by decide) ?_;intro v4 w4 hr4 hl4;have HR4 := zh hr4;have HL4 := zh (HLX.o.trans hl4);obtain ⟨A4, c4, rfl, _⟩ := hr4;go_wp2_with fail;refine ⟨hl4, ?_⟩;clear hl4;refine tU 9 22 (v := ?_) rfl rfl (fun x hx => ?_) ?_;rotate_left
   ·go_simp;first|done|with_reducible rfl|rw[if_neg (by omega)]|rw[if_pos (by omega)]
   simp only [Act.put, nA, nB, nC];refine Zce 10 (by kernel_rfl) rfl rfl ?_;go_wp2_with fail;refine ⟨(Za.refl _).alloc _, ?_⟩;refine Zbl [_, _] (by kernel_rfl) rfl rfl ?_;simp only [List.getElem_toArray, List.getElem_cons_succ, List.getElem_cons_zero];have HL5 := zh ((HLW.o.trans HL4.o).alloc (.cells #[.string l[j].name, .slice A4 l[j].fields.length c4, .int .i64 l[j].line] 136));refine Zdc _ rfl _ _ 25 rfl w.heap.size 136 iRecordTypeS (.agg #[.string ⟨#[]⟩, .slice none 0 0, .int .i64 0]) 3 48 Tryz.underlying25 hiRecordTypeS hzRecordTypeS0 hzRecordTypeS1 hzRecordTypeS2 rfl _ dl.length xs rfl (HAT.o.keep Zf.is (Zc.later HL5.o)).row ⟨w4.heap.size, 0, none⟩ 1 1 [.string l[j].name, .slice A4 l[j].fields.length c4, .int .i64 l[j].line] rfl rfl (Zg6 _ _ _) (by simp [Value.oneCell']) (by decide) (by unfold maxLen; omega) (by omega) (by have := HL5.o.size; omega) ?_;intro v6 w6 hown6 hg6 hn6;have HE := zh (show Za0 (fun y => wr.heap.size ≤ y) _ l[j] [.string l[j].name, .slice A4 l[j].fields.length c4, .int .i64 l[j].line] from ⟨fun _ => 0, _, rfl, HN.o, (HR4.o.later Z4 ((Za.refl w4).alloc (.cells #[.string l[j].name, .slice A4 l[j].fields.length c4, .int .i64 l[j].line] 136))).keep Z4 (fun y hy => ⟨Nat.le_trans HLW.o.size hy, rfl⟩) (Zc.refl _ _), HLN.o⟩);have HSO := zh (HAT.o.push Zf (Zc.later HL5.o) hwb HE.o hown6 hg6 hn6);have HB6 := zh ((HB.o.trans (Below.mono HL5.o HB.o.size)).grown hg6 (by have := HL5.o.size; omega) (fun g hg' => (HAT.o.row.lt g hg').1))
   have HDL6 := zh (show dl ++ [l[j]] = l.take (j + 1) by rw [HDL.o, List.take_succ_eq_append_getElem hlt]);clear hown6 hg6 hn6;go_wp2_with fail
   go_roundw
   case rel => exact ⟨j + 1, _, _, rfl, by go_num, by omega, HDL6, HSO.o, HB6.o⟩
   case measure => simp [intOf]; omega
  ·have hjl : j = l.length := by omega
   have HD := zh (hso.row Zf);have hdl : dl = l := by rw [HDL.o, hjl, List.take_length]
   rw [hdl] at HD;clear hso hbel;go_wp2_with fail;go_ret;exact ⟨_, rfl, HD.o, HB.o⟩
theorem Zj8 (l : List Zaw) (v : Value) (F : Nat → Prop) (w : World) (hsz : Zk Zo l ≤ 2097152) (hr : Zu Zaz 3 F w l v) :
  Calls Tryz.prog 123 #[v] w fun e w' => ∃ v', e = .returned v' ∧ Zbo Za0 3 136 (fun b => w.heap.size ≤ b) w' l v' ∧ Below w.heap.size w w' := by
 obtain ⟨iStringS, hiStringS, hzStringS0, hzStringS1, hzStringS2⟩ := info_parts Zeo;obtain ⟨iRecordTypeS, hiRecordTypeS, hzRecordTypeS0, hzRecordTypeS1, hzRecordTypeS2⟩ := info_parts Zew;obtain ⟨A, c, rfl, hc, hcm, hel⟩ := hr;unfold maxLen at hcm;have HEL := zh hel;have HSZ := zh (show l.length + Zaq Zo l ≤ 2097152 from hsz);have hlen : l.length ≤ 2097152 := by have := HSZ.o; omega
 clear hel hsz;go_enter Tryz.func123, Tryz.ntmps123;go_wp2_with fail;have HS0 : Hd (Zev Za0 3 136 w.heap.size [] (.slice (some ⟨w.heap.size, 0, none⟩) 0 0) (w.alloc (.cells #[] 136))) := zh (Zev.fresh (Zy rfl) (Nat.le_refl _))
 go_loopw [3, 4] (fun ov iv wr => ∃ (j : Nat) (vo : Value) (dl : List Zaw), vo = ov ∧ iv = .int .i64 j ∧ j ≤ l.length ∧ Hd (dl = l.take j) ∧ Zev Za0 3 136 w.heap.size dl vo wr ∧ Below w.heap.size w wr) (fun _ iv _ => l.length - (intOf iv).toNat)
 case atStart => exact ⟨0, _, [], rfl, rfl, Nat.zero_le _, zh (by simp), HS0.o, (Below.refl _ _).alloc (Nat.le_refl _) _⟩
 case round =>
  obtain ⟨j, vo, dl, rfl, rfl, hj, HDL, hso, hbel⟩ := hrel;have HB := zh hbel
  by_cases hlt : j < l.length
  ·have hlt' : (j : Int) < l.length := by omega
   obtain ⟨xs, tg, hat⟩ := hso;have HAT := zh hat;obtain ⟨Ao, co, hvo⟩ := hat.form;subst hvo;have hdl : dl.length ≤ 2097152 := by rw [HDL.o, List.length_take]; omega
   have hwb : w.heap.size ≤ wr.heap.size := hbel.size;clear hat hbel;obtain ⟨b, o, cs, rfl, hF, hbl, hE, hcell⟩ := HEL.o j hlt;obtain ⟨vf, rfl, hnm, hfl0, hln⟩ := hE;have HN := zh hnm;have HLN := zh hln;have HF0 := zh (hfl0.keep Z4 (G := F) (fun _ h => h) (Zc.later HB.o));have hfl : l[j].fields.length ≤ 2097152 := by
    have h1 := Zb4 Zo l l[j] (List.getElem_mem hlt);have h2 : Zo l[j] = l[j].name.size + (l[j].fields.length + Zaq ByteArray.size l[j].fields) := rfl;have := HSZ.o
    omega
   obtain ⟨Af, cf, hvf, _⟩ := id hfl0;have e0 := (HB.o.cell (p := ⟨b, o + j * 3 + 0, none⟩) hbl).trans (hcell 0 _ rfl);have e1 := (HB.o.cell (p := ⟨b, o + j * 3 + 1, none⟩) hbl).trans (hcell 1 _ rfl);have e2 := (HB.o.cell (p := ⟨b, o + j * 3 + 2, none⟩) hbl).trans (hcell 2 _ rfl);simp only [Nat.add_zero] at e0;subst hvf;clear hnm hln hfl0 hcell;go_upto_region 5 with (fail)
   skip
   have hbx : b < wr.heap.size := Nat.lt_of_lt_of_le hbl HB.o.size;refine Zbd [20, 21] [] (by kernel_rfl) (fun W hW => ?_);have hWL : Za wr W := by rw [hW]; exact (Za.refl _).drew
   have eW0 := (hWL.cell ⟨b, o + j * 3, none⟩ hbx).trans e0;have eW1 := (hWL.cell ⟨b, o + j * 3 + 1, none⟩ hbx).trans e1;have eW2 := (hWL.cell ⟨b, o + j * 3 + 2, none⟩ hbx).trans e2;have hbW : b < W.heap.size := Nat.lt_of_lt_of_le hbx hWL.size;have HLW := zh (hWL);have HF := zh (HF0.o.later Z4 HLW.o);clear hW hWL e0 e1 e2;refine tU 0 12 (v := ?_) rfl rfl (fun x hx => ?_) ?_;rotate_left
   ·go_simp;first|done|with_reducible rfl
   simp only [Act.put, nA, nB, nC];refine tU 1 13 (v := ?_) rfl rfl (fun x hx => ?_) ?_;rotate_left
   ·go_simp;first|done|with_reducible rfl
   simp only [Act.put, nA, nB, nC];refine tU 2 14 (v := ?_) rfl rfl (fun x hx => ?_) ?_;rotate_left
   ·go_simp;first|done|with_reducible rfl
   simp only [Act.put, nA, nB, nC];refine tU 3 15 (v := ?_) rfl rfl (fun x hx => ?_) ?_;rotate_left
   ·go_simp;first|done|with_reducible rfl|rw[if_neg (by omega)]|rw[if_pos (by omega)]
   simp only [Act.put, nA, nB, nC];refine tU 4 16 (v := ?_) rfl rfl (fun x hx => ?_) ?_;rotate_left
   ·go_simp;first|done|with_reducible rfl
   simp only [Act.put, nA, nB, nC];refine tU 5 17 (v := ?_) rfl rfl (fun x hx => ?_) ?_;rotate_left
   ·have x0 := (hx.cell ⟨b, o + j * 3, none⟩ hbW).trans eW0; have x1 := (hx.cell ⟨b, o + j * 3 + 1, none⟩ hbW).trans eW1; have x2 := (hx.cell ⟨b, o + j * 3 + 2, none⟩ hbW).trans eW2; go_simp;first|done|with_reducible rfl
   simp only [Act.put, nA, nB, nC];refine tU 7 19 (v := ?_) rfl rfl (fun x hx => ?_) ?_;rotate_left
   ·go_simp;first|done|with_reducible rfl
   simp only [Act.put, nA, nB, nC];refine tU 8 20 (v := ?_) rfl rfl (fun x hx => ?_) ?_;rotate_left
   ·go_simp;first|done|with_reducible rfl
   simp only [Act.put, nA, nB, nC];refine tU 9 21 (v := ?_) rfl rfl (fun x hx => ?_) ?_;rotate_left
   ·go_simp;first|done|with_reducible rfl|rw[if_neg (by omega)]|rw[if_pos (by omega)]
   simp only [Act.put, nA, nB, nC];refine tU 10 22 (v := ?_) rfl rfl (fun x hx => ?_) ?_;rotate_left
   ·go_simp;first|done|with_reducible rfl
   simp only [Act.put, nA, nB, nC];refine tU 11 23 (v := ?_) rfl rfl (fun x hx => ?_) ?_;rotate_left
   ·have x0 := (hx.cell ⟨b, o + j * 3, none⟩ hbW).trans eW0; have x1 := (hx.cell ⟨b, o + j * 3 + 1, none⟩ hbW).trans eW1; have x2 := (hx.cell ⟨b, o + j * 3 + 2, none⟩ hbW).trans eW2; go_simp;first|done|with_reducible rfl
   simp only [Act.put, nA, nB, nC];refine tU 13 25 (v := ?_) rfl rfl (fun x hx => ?_) ?_;rotate_left
   ·go_simp;first|done|with_reducible rfl
   simp only [Act.put, nA, nB, nC];refine tU 14 26 (v := ?_) rfl rfl (fun x hx => ?_) ?_;rotate_left
   ·go_simp;first|done|with_reducible rfl
   simp only [Act.put, nA, nB, nC];refine tU 15 27 (v := ?_) rfl rfl (fun x hx => ?_) ?_;rotate_left
   ·go_simp;first|done|with_reducible rfl|rw[if_neg (by omega)]|rw[if_pos (by omega)]
   simp only [Act.put, nA, nB, nC];refine tU 16 28 (v := ?_) rfl rfl (fun x hx => ?_) ?_;rotate_left
   ·go_simp;first|done|with_reducible rfl
   simp only [Act.put, nA, nB, nC];refine tU 17 29 (v := ?_) rfl rfl (fun x hx => ?_) ?_;rotate_left
   ·have x0 := (hx.cell ⟨b, o + j * 3, none⟩ hbW).trans eW0; have x1 := (hx.cell ⟨b, o + j * 3 + 1, none⟩ hbW).trans eW1; have x2 := (hx.cell ⟨b, o + j * 3 + 2, none⟩ hbW).trans eW2; go_simp;first|done|with_reducible rfl
   simp only [Act.put, nA, nB, nC];refine Zce 6 (by kernel_rfl) rfl rfl ?_;go_wp2_with fail;refine ⟨(Za.refl _).alloc _, ?_⟩;have HLX := zh ((Za.refl W).alloc (.cells #[] 9));refine Zce 12 (by kernel_rfl) rfl rfl ?_;refine Zao Zdf (by decide) rfl _ _ 24 rfl 9 iStringS (.string ⟨#[]⟩) 16 Tryz.underlying24 hiStringS hzStringS0 hzStringS1 hzStringS2 rfl rfl (Zy rfl) rfl (HF.o.later Z4 HLX.o) hfl (by decide) ?_;intro v4 w4 hr4 hl4;have HR4 := zh hr4;have HL4 := zh (HLX.o.trans hl4);obtain ⟨A4, c4, rfl, _⟩ := hr4;go_wp2_with fail;refine ⟨hl4, ?_⟩;clear hl4;refine tU 18 30 (v := ?_) rfl rfl (fun x hx => ?_) ?_;rotate_left
   ·go_simp;first|done|with_reducible rfl|rw[if_neg (by omega)]|rw[if_pos (by omega)]
   simp only [Act.put, nA, nB, nC];refine Zce 19 (by kernel_rfl) rfl rfl ?_;go_wp2_with fail;refine ⟨(Za.refl _).alloc _, ?_⟩;refine Zbl [_, _] (by kernel_rfl) rfl rfl ?_;simp only [List.getElem_toArray, List.getElem_cons_succ, List.getElem_cons_zero];have HL5 := zh ((HLW.o.trans HL4.o).alloc (.cells #[.string l[j].name, .slice A4 l[j].fields.length c4, .int .i64 l[j].line] 136));refine Zdc _ rfl _ _ 25 rfl w.heap.size 136 iRecordTypeS (.agg #[.string ⟨#[]⟩, .slice none 0 0, .int .i64 0]) 3 48 Tryz.underlying25 hiRecordTypeS hzRecordTypeS0 hzRecordTypeS1 hzRecordTypeS2 rfl _ dl.length xs rfl (HAT.o.keep Zf.is (Zc.later HL5.o)).row ⟨w4.heap.size, 0, none⟩ 1 1 [.string l[j].name, .slice A4 l[j].fields.length c4, .int .i64 l[j].line] rfl rfl (Zg6 _ _ _) (by simp [Value.oneCell']) (by decide) (by unfold maxLen; omega) (by omega) (by have := HL5.o.size; omega) ?_;intro v6 w6 hown6 hg6 hn6;have HE := zh (show Za0 (fun y => wr.heap.size ≤ y) _ l[j] [.string l[j].name, .slice A4 l[j].fields.length c4, .int .i64 l[j].line] from ⟨fun _ => 0, _, rfl, HN.o, (HR4.o.later Z4 ((Za.refl w4).alloc (.cells #[.string l[j].name, .slice A4 l[j].fields.length c4, .int .i64 l[j].line] 136))).keep Z4 (fun y hy => ⟨Nat.le_trans HLW.o.size hy, rfl⟩) (Zc.refl _ _), HLN.o⟩);have HSO := zh (HAT.o.push Zf (Zc.later HL5.o) hwb HE.o hown6 hg6 hn6);have HB6 := zh ((HB.o.trans (Below.mono HL5.o HB.o.size)).grown hg6 (by have := HL5.o.size; omega) (fun g hg' => (HAT.o.row.lt g hg').1))
   have HDL6 := zh (show dl ++ [l[j]] = l.take (j + 1) by rw [HDL.o, List.take_succ_eq_append_getElem hlt]);clear hown6 hg6 hn6;go_wp2_with fail
   go_roundw
   case rel => exact ⟨j + 1, _, _, rfl, by go_num, by omega, HDL6, HSO.o, HB6.o⟩
   case measure => simp [intOf]; omega
  ·have hjl : j = l.length := by omega
   have HD := zh (hso.row Zf);have hdl : dl = l := by rw [HDL.o, hjl, List.take_length]
   rw [hdl] at HD;clear hso hbel;go_wp2_with fail;go_ret;exact ⟨_, rfl, HD.o, HB.o⟩
theorem Zkv (r : Zh) (B : Nat) (cs : List Value) (F G : Nat → Prop) (w : World) (o : Zay) (os : List Value) (h : Zb3 F w B r cs) (ho : Zbx G w o os) (hFG : ∀ y, G y → ¬ F y) (hGB : ¬ G B) (hm : r.aA.length ≤ 1048576) :
  Calls Tryz.prog 142 #[.pointer (some ⟨B, 0, none⟩), .agg os.toArray] w fun e w' => e = .returned (.int .i64 r.aA.length) ∧ (∃ cs', Zb3 (fun y => F y ∨ G y ∨ w.heap.size ≤ y) w' B (Zct r o) cs') ∧ Zbb F w B w' := by
 obtain ⟨iO, hiO, hz0, hz1, hz2⟩ := info_parts Zep;have hoo := ho;obtain ⟨hblk, ⟨tag, aL, aM, aN, aO, aP, aQ, aR, rfl, aV, aW, aX, aY, aZ, bA, bB, bC, bD, bE, bF, bG⟩, hnB⟩ := h.trim;obtain ⟨otag, vi, vk, rfl, hk64, ht64, hs64, hi, hk⟩ := ho;obtain ⟨Ai, ci, rfl, _⟩ := id hi;obtain ⟨Ak, ck, rfl, _⟩ := id hk;obtain ⟨Ao, co, rfl, hco, hcmo, _⟩ := id aX;unfold maxLen at hcmo;have HOO := zh hoo;have HBLK := zh hblk;have HOB := zh aX;have HRS := zh (And.intro aV (And.intro aW (And.intro aY (And.intro bB (And.intro bC bD)))));have HPL := zh (And.intro aZ (And.intro bA (And.intro bE (And.intro bF bG))));have HNB := zh hnB;have HFG := zh hFG;have HGB := zh hGB;clear h hoo hblk aX aV aW aY aZ bA bB bC bD bE bF bG hnB hFG hGB hi hk;simp only at *;go_enter Tryz.func142, Tryz.ntmps142;go_upto_region 1 with (fail);refine Zbd [7, 8, 9, 10] [0] (by kernel_rfl) (fun W hW => ?_);have hWL : Za w W := by rw [hW]; exact ((Za.refl w).alloc _).drew
 have hBN := (hWL.block B (Zd HBLK.o)).trans HBLK.o;have hNN := zh (show W.heap[w.heap.size]? = some (.cells #[.int .i64 o.kind, .int .i64 o.tag, .int .i64 o.aI, .slice Ai o.aJ.length ci, .slice Ak o.aK.length ck] 94 (0, 0)) by rw [hW]; exact heap_alloc_new w (.cells #[.int .i64 o.kind, .int .i64 o.tag, .int .i64 o.aI, .slice Ai o.aJ.length ci, .slice Ak o.aK.length ck] 94));have b2 := cq hBN 2;obtain ⟨n0, n1, n2, n3, n4⟩ := cz5 hNN.o;simp only [nD, nE, nF] at b2;have HBN := zh hBN;have hBW := Zd HBN.o;have hNW := Zd hNN.o;have HWL := zh hWL;clear hW hWL hBN;refine Zl8 0 (some 5) (v := ?_) rfl rfl (by kernel_rfl) (fun _ _ _ h => h) rfl (fun x => ?_) ?_;rotate_left
 ·go_simp;first|done|with_reducible rfl
 simp only [Act.put, nA, nB, nC];refine tU 1 6 (v := ?_) rfl rfl (fun x hx => ?_) ?_;rotate_left
 ·go_simp;first|done|with_reducible rfl
 simp only [Act.put, nA, nB, nC];refine tU 2 7 (v := ?_) rfl rfl (fun x hx => ?_) ?_;rotate_left
 ·go_simp;first|done|with_reducible rfl
 simp only [Act.put, nA, nB, nC];refine tU 3 8 (v := ?_) rfl rfl (fun x hx => ?_) ?_;rotate_left
 ·go_simp;first|done|with_reducible rfl
 simp only [Act.put, nA, nB, nC];refine tU 4 9 (v := ?_) rfl rfl (fun x hx => ?_) ?_;rotate_left
 ·have x2 := (hx.cell ⟨B, 2, none⟩ hBW).trans b2; have y0 := (hx.cell ⟨w.heap.size, 0, none⟩ hNW).trans n0; have y1 := (hx.cell ⟨w.heap.size, 1, none⟩ hNW).trans n1; have y2 := (hx.cell ⟨w.heap.size, 2, none⟩ hNW).trans n2; have y3 := (hx.cell ⟨w.heap.size, 3, none⟩ hNW).trans n3; have y4 := (hx.cell ⟨w.heap.size, 4, none⟩ hNW).trans n4; go_simp;first|done|with_reducible rfl
 simp only [Act.put, nA, nB, nC];refine tU 5 10 (v := ?_) rfl rfl (fun x hx => ?_) ?_;rotate_left
 ·have x2 := (hx.cell ⟨B, 2, none⟩ hBW).trans b2; have y0 := (hx.cell ⟨w.heap.size, 0, none⟩ hNW).trans n0; have y1 := (hx.cell ⟨w.heap.size, 1, none⟩ hNW).trans n1; have y2 := (hx.cell ⟨w.heap.size, 2, none⟩ hNW).trans n2; have y3 := (hx.cell ⟨w.heap.size, 3, none⟩ hNW).trans n3; have y4 := (hx.cell ⟨w.heap.size, 4, none⟩ hNW).trans n4; go_simp;first|done|with_reducible rfl
 simp only [Act.put, nA, nB, nC];refine Zce 6 (by kernel_rfl) rfl rfl ?_;go_wp2_with fail;refine ⟨(Za.refl _).alloc _, ?_⟩;refine Zbl [_, _, _, _] (by kernel_rfl) rfl rfl ?_;simp only [List.getElem_toArray, List.getElem_cons_succ, List.getElem_cons_zero];have HXL := zh (HWL.o.trans ((Za.refl W).alloc (.cells #[.int .i64 o.kind, .int .i64 o.tag, .int .i64 o.aI, .slice Ai o.aJ.length ci, .slice Ak o.aK.length ck] 94)));have HROW := zh (HOB.o.keep Zq.is (fun _ h => h) (Zc.later HXL.o));have HOX := zh (Zq.is.keep HOO.o (fun _ h => h) (Zc.later HXL.o));have HBX := zh (HXL.o.block B (by have := Zd HBLK.o; omega) |>.trans HBLK.o);clear b2 n0 n1 n2 n3 n4 hBW hNW
 go_upto_region 2 with (at_builtin; refine Zfu Zq rfl _ _ 26 rfl 94 iO (.agg #[.int .i64 0, .int .i64 0, .int .i64 0, .slice none 0 0, .slice none 0 0]) 72 Tryz.underlying26 hiO hz0 hz1 hz2 rfl rfl HROW.o ⟨W.heap.size, 0, none⟩ 1 rfl o [.int .i64 o.kind, .int .i64 o.tag, .int .i64 o.aI, .slice Ai o.aJ.length ci, .slice Ak o.aK.length ck] (Zg6 W [.int .i64 o.kind, .int .i64 o.tag, .int .i64 o.aI, .slice Ai o.aJ.length ci, .slice Ak o.aK.length ck] 94) (by intro u hu; simp at hu; rcases hu with rfl | rfl | rfl | rfl | rfl <;> rfl) HOX.o (fun y hg hf => HFG.o y hg hf.1.1) (by omega) (by decide) ?_; intro v2 Y hrow hkp hb0; have hYB := (hkp.same B (fun h => HNB.o h.1) (Zd HBX.o)).trans HBX.o; have yc := cell_of_row _ B 2 _ _ _ hYB; simp only [nD, nE, nF] at yc; have yf := frozen_of_row _ B 2 _ _ hYB; obtain ⟨A2, c2, rfl, hc2, hcm2, _⟩ := id hrow; unfold maxLen at hcm2)
 clear yc yf hYB;obtain ⟨hS, hG1, hG2⟩ := Zmp (fun b hb => hb.2) HBLK.o HRS.o.1 HRS.o.2.1 HRS.o.2.2.1 HRS.o.2.2.2.1 HRS.o.2.2.2.2.1 HRS.o.2.2.2.2.2 HPL.o.1 HPL.o.2.1 HPL.o.2.2.1 HPL.o.2.2.2.1 HPL.o.2.2.2.2 (fun y hg hf => HFG.o y hg hf.1) HNB.o HGB.o HXL.o hrow hkp hb0;clear hrow hkp hb0;simp only [List.length_append, List.length_cons, List.length_nil, Nat.zero_add] at hS hG1 hG2;obtain ⟨Z, hZ⟩ : ∃ Z, Z = Y.setCell ⟨B, 2, none⟩ (.slice A2 (r.aA.length + 1) c2) := ⟨_, rfl⟩;rw [← hZ] at hS hG1 hG2 ⊢;have HS := zh hS;have HG := zh hG1;have z2 := cq hS.blk 2;simp only [nD, nE, nF, List.length_append, List.length_cons, List.length_nil, Nat.zero_add] at z2;clear hZ hS hG1 hG2;go_wp2_with fail;go_ret;exact ⟨by first | rfl | (congr 2; omega), ⟨_, HS.o.keep (fun y hy => hy.imp (fun h => h.1) id) (by rintro (h | h | h) <;> first | exact HNB.o ⟨h, Zd HBLK.o⟩ | exact HGB.o h | (have := Zd HBLK.o; omega)) (Zc.refl _ _) rfl⟩, ⟨HG.o.keep.mono fun y hy => ⟨fun h => hy.1 h.1, hy.2⟩, HG.o.below⟩⟩
theorem Zq2 (r : Zh) (B : Nat) (cs : List Value) (F G : Nat → Prop) (w : World) (o : Zay) (os : List Value) (h : Zb3 F w B r cs) (ho : Zbx G w o os) (hFG : ∀ y, G y → ¬ F y) (hGB : ¬ G B) (hm : r.aA.length ≤ 1048576) (hk8 : o.kind = 8 ∧ o.tag = 0 ∧ o.aI = 0) :
  Calls Tryz.prog 132 #[.pointer (some ⟨B, 0, none⟩), .agg os.toArray] w fun e w' => e = .returned (.int .i64 r.aA.length) ∧ (∃ cs', Zb3 (fun y => F y ∨ G y ∨ w.heap.size ≤ y) w' B (Zct r o) cs') ∧ Zbb F w B w' := by
 obtain ⟨iO, hiO, hz0, hz1, hz2⟩ := info_parts Zep;have hoo := ho;obtain ⟨okd, otg, osr, oit, oky⟩ := o;obtain ⟨rfl, rfl, rfl⟩ := hk8;obtain ⟨hblk, ⟨tag, aL, aM, aN, aO, aP, aQ, aR, rfl, aV, aW, aX, aY, aZ, bA, bB, bC, bD, bE, bF, bG⟩, hnB⟩ := h.trim;obtain ⟨otag, vi, vk, rfl, hk64, ht64, hs64, hi, hk⟩ := ho;obtain ⟨Ai, ci, rfl, _⟩ := id hi;obtain ⟨Ak, ck, rfl, _⟩ := id hk;obtain ⟨Ao, co, rfl, hco, hcmo, _⟩ := id aX;unfold maxLen at hcmo;have HOO := zh hoo;have HBLK := zh hblk;have HOB := zh aX;have HRS := zh (And.intro aV (And.intro aW (And.intro aY (And.intro bB (And.intro bC bD)))));have HPL := zh (And.intro aZ (And.intro bA (And.intro bE (And.intro bF bG))));have HNB := zh hnB;have HFG := zh hFG;have HGB := zh hGB;clear h hoo hblk aX aV aW aY aZ bA bB bC bD bE bF bG hnB hFG hGB hi hk;simp only at *;go_enter Tryz.func132, Tryz.ntmps132;go_upto_region 4 with (fail);refine Zbd [7, 8, 9, 10] [0] (by kernel_rfl) (fun W hW => ?_);have hWL : Za w W := by rw [hW]; exact ((Za.refl w).alloc _).drew
 have hBN := (hWL.block B (Zd HBLK.o)).trans HBLK.o;have hNN := zh (show W.heap[w.heap.size]? = some (.cells #[.int .i64 8, .int .i64 0, .int .i64 0, .slice Ai oit.length ci, .slice Ak oky.length ck] 94 (0, 0)) by rw [hW]; exact heap_alloc_new w (.cells #[.int .i64 8, .int .i64 0, .int .i64 0, .slice Ai oit.length ci, .slice Ak oky.length ck] 94));have b2 := cq hBN 2;obtain ⟨n0, n1, n2, n3, n4⟩ := cz5 hNN.o;simp only [nD, nE, nF] at b2;have HBN := zh hBN;have hBW := Zd HBN.o;have hNW := Zd hNN.o;have HWL := zh hWL;clear hW hWL hBN;refine Zl8 0 (some 25) (v := ?_) rfl rfl (by kernel_rfl) (fun _ _ _ h => h) rfl (fun x => ?_) ?_;rotate_left
 ·go_simp;first|done|with_reducible rfl
 simp only [Act.put, nA, nB, nC];refine tU 1 26 (v := ?_) rfl rfl (fun x hx => ?_) ?_;rotate_left
 ·go_simp;first|done|with_reducible rfl
 simp only [Act.put, nA, nB, nC];refine tU 2 27 (v := ?_) rfl rfl (fun x hx => ?_) ?_;rotate_left
 ·go_simp;first|done|with_reducible rfl
 simp only [Act.put, nA, nB, nC];refine tU 3 28 (v := ?_) rfl rfl (fun x hx => ?_) ?_;rotate_left
 ·go_simp;first|done|with_reducible rfl
 simp only [Act.put, nA, nB, nC];refine tU 4 29 (v := ?_) rfl rfl (fun x hx => ?_) ?_;rotate_left
 ·have x2 := (hx.cell ⟨B, 2, none⟩ hBW).trans b2; have y0 := (hx.cell ⟨w.heap.size, 0, none⟩ hNW).trans n0; have y1 := (hx.cell ⟨w.heap.size, 1, none⟩ hNW).trans n1; have y2 := (hx.cell ⟨w.heap.size, 2, none⟩ hNW).trans n2; have y3 := (hx.cell ⟨w.heap.size, 3, none⟩ hNW).trans n3; have y4 := (hx.cell ⟨w.heap.size, 4, none⟩ hNW).trans n4; go_simp;first|done|with_reducible rfl
 simp only [Act.put, nA, nB, nC];refine tU 5 30 (v := ?_) rfl rfl (fun x hx => ?_) ?_;rotate_left
 ·have x2 := (hx.cell ⟨B, 2, none⟩ hBW).trans b2; have y0 := (hx.cell ⟨w.heap.size, 0, none⟩ hNW).trans n0; have y1 := (hx.cell ⟨w.heap.size, 1, none⟩ hNW).trans n1; have y2 := (hx.cell ⟨w.heap.size, 2, none⟩ hNW).trans n2; have y3 := (hx.cell ⟨w.heap.size, 3, none⟩ hNW).trans n3; have y4 := (hx.cell ⟨w.heap.size, 4, none⟩ hNW).trans n4; go_simp;first|done|with_reducible rfl
 simp only [Act.put, nA, nB, nC];refine Zce 6 (by kernel_rfl) rfl rfl ?_;go_wp2_with fail;refine ⟨(Za.refl _).alloc _, ?_⟩;refine Zbl [_, _, _, _] (by kernel_rfl) rfl rfl ?_;simp only [List.getElem_toArray, List.getElem_cons_succ, List.getElem_cons_zero];have HXL := zh (HWL.o.trans ((Za.refl W).alloc (.cells #[.int .i64 8, .int .i64 0, .int .i64 0, .slice Ai oit.length ci, .slice Ak oky.length ck] 94)));have HROW := zh (HOB.o.keep Zq.is (fun _ h => h) (Zc.later HXL.o));have HOX := zh (Zq.is.keep HOO.o (fun _ h => h) (Zc.later HXL.o));have HBX := zh (HXL.o.block B (by have := Zd HBLK.o; omega) |>.trans HBLK.o);clear b2 n0 n1 n2 n3 n4 hBW hNW
 go_upto_region 5 with (at_builtin; refine Zfu Zq rfl _ _ 26 rfl 94 iO (.agg #[.int .i64 0, .int .i64 0, .int .i64 0, .slice none 0 0, .slice none 0 0]) 72 Tryz.underlying26 hiO hz0 hz1 hz2 rfl rfl HROW.o ⟨W.heap.size, 0, none⟩ 1 rfl ⟨8, 0, 0, oit, oky⟩ [.int .i64 8, .int .i64 0, .int .i64 0, .slice Ai oit.length ci, .slice Ak oky.length ck] (Zg6 W [.int .i64 8, .int .i64 0, .int .i64 0, .slice Ai oit.length ci, .slice Ak oky.length ck] 94) (by intro u hu; simp at hu; rcases hu with rfl | rfl | rfl | rfl | rfl <;> rfl) HOX.o (fun y hg hf => HFG.o y hg hf.1.1) (by omega) (by decide) ?_; intro v2 Y hrow hkp hb0; have hYB := (hkp.same B (fun h => HNB.o h.1) (Zd HBX.o)).trans HBX.o; have yc := cell_of_row _ B 2 _ _ _ hYB; simp only [nD, nE, nF] at yc; have yf := frozen_of_row _ B 2 _ _ hYB; obtain ⟨A2, c2, rfl, hc2, hcm2, _⟩ := id hrow; unfold maxLen at hcm2)
 clear yc yf hYB;obtain ⟨hS, hG1, hG2⟩ := Zmp (fun b hb => hb.2) HBLK.o HRS.o.1 HRS.o.2.1 HRS.o.2.2.1 HRS.o.2.2.2.1 HRS.o.2.2.2.2.1 HRS.o.2.2.2.2.2 HPL.o.1 HPL.o.2.1 HPL.o.2.2.1 HPL.o.2.2.2.1 HPL.o.2.2.2.2 (fun y hg hf => HFG.o y hg hf.1) HNB.o HGB.o HXL.o hrow hkp hb0;clear hrow hkp hb0;simp only [List.length_append, List.length_cons, List.length_nil, Nat.zero_add] at hS hG1 hG2;obtain ⟨Z, hZ⟩ : ∃ Z, Z = Y.setCell ⟨B, 2, none⟩ (.slice A2 (r.aA.length + 1) c2) := ⟨_, rfl⟩;rw [← hZ] at hS hG1 hG2 ⊢;have HS := zh hS;have HG := zh hG1;have z2 := cq hS.blk 2;simp only [nD, nE, nF, List.length_append, List.length_cons, List.length_nil, Nat.zero_add] at z2;clear hZ hS hG1 hG2;go_wp2_with fail;go_ret;exact ⟨by first | rfl | (congr 2; omega), ⟨_, HS.o.keep (fun y hy => hy.imp (fun h => h.1) id) (by rintro (h | h | h) <;> first | exact HNB.o ⟨h, Zd HBLK.o⟩ | exact HGB.o h | (have := Zd HBLK.o; omega)) (Zc.refl _ _) rfl⟩, ⟨HG.o.keep.mono fun y hy => ⟨fun h => hy.1 h.1, hy.2⟩, HG.o.below⟩⟩
theorem in0 : Zac 0 := by unfold Zac; omega
theorem in8 : Zac 8 := by unfold Zac; omega
theorem Zk7 (r : Zh) (B : Nat) (cs : List Value) (F : Nat → Prop) (w : World) (x i : Zj) (h : Zb3 F w B r cs) (hx : Ze F w x [.int .i64 x.kind, .int .i64 x.aH, .int .i64 x.index, .string x.text, .int .i64 x.set_.low, .int .i64 x.set_.high]) (hi : Ze F w i [.int .i64 i.kind, .int .i64 i.aH, .int .i64 i.index, .string i.text, .int .i64 i.set_.low, .int .i64 i.set_.high]) (hm : r.aA.length ≤ 1048576) :
  Calls Tryz.prog 94 #[.pointer (some ⟨B, 0, none⟩), .agg #[.int .i64 x.kind, .int .i64 x.aH, .int .i64 x.index, .string x.text, .int .i64 x.set_.low, .int .i64 x.set_.high], .agg #[.int .i64 i.kind, .int .i64 i.aH, .int .i64 i.index, .string i.text, .int .i64 i.set_.low, .int .i64 i.set_.high]] w fun e w' => e = .returned (.agg #[.int .i64 17, .int .i64 r.aA.length, .int .i64 0, .string ⟨#[]⟩, .int .i64 0, .int .i64 0]) ∧ (∃ cs', Zb3 (fun y => F y ∨ w.heap.size ≤ y) w' B (Zct r ⟨8, 0, 0, [x, i], []⟩) cs') ∧ Zbb F w B w' := by
 have hl : Za w ((((w.alloc (.cells #[.int .i64 x.kind, .int .i64 x.aH, .int .i64 x.index, .string x.text, .int .i64 x.set_.low, .int .i64 x.set_.high] 34)).alloc (.cells #[.int .i64 i.kind, .int .i64 i.aH, .int .i64 i.index, .string i.text, .int .i64 i.set_.low, .int .i64 i.set_.high] 34)).alloc (.cells #[.int .i64 0, .int .i64 0, .int .i64 0, .string ⟨#[]⟩, .int .i64 0, .int .i64 0] 34)).alloc (.cells #[.int .i64 x.kind, .int .i64 x.aH, .int .i64 x.index, .string x.text, .int .i64 x.set_.low, .int .i64 x.set_.high, .int .i64 i.kind, .int .i64 i.aH, .int .i64 i.index, .string i.text, .int .i64 i.set_.low, .int .i64 i.set_.high] 34)) := ((((Za.refl w).alloc _).alloc _).alloc _).alloc _;have hb4 : ((((w.alloc (.cells #[.int .i64 x.kind, .int .i64 x.aH, .int .i64 x.index, .string x.text, .int .i64 x.set_.low, .int .i64 x.set_.high] 34)).alloc (.cells #[.int .i64 i.kind, .int .i64 i.aH, .int .i64 i.index, .string i.text, .int .i64 i.set_.low, .int .i64 i.set_.high] 34)).alloc (.cells #[.int .i64 0, .int .i64 0, .int .i64 0, .string ⟨#[]⟩, .int .i64 0, .int .i64 0] 34)).alloc (.cells #[.int .i64 x.kind, .int .i64 x.aH, .int .i64 x.index, .string x.text, .int .i64 x.set_.low, .int .i64 x.set_.high, .int .i64 i.kind, .int .i64 i.aH, .int .i64 i.index, .string i.text, .int .i64 i.set_.low, .int .i64 i.set_.high] 34)).heap[w.heap.size + 3]? = some (.cells #[.int .i64 x.kind, .int .i64 x.aH, .int .i64 x.index, .string x.text, .int .i64 x.set_.low, .int .i64 x.set_.high, .int .i64 i.kind, .int .i64 i.aH, .int .i64 i.index, .string i.text, .int .i64 i.set_.low, .int .i64 i.set_.high] 34 (0, 0)) := Zy (by simp)
 have hb2 : ((((w.alloc (.cells #[.int .i64 x.kind, .int .i64 x.aH, .int .i64 x.index, .string x.text, .int .i64 x.set_.low, .int .i64 x.set_.high] 34)).alloc (.cells #[.int .i64 i.kind, .int .i64 i.aH, .int .i64 i.index, .string i.text, .int .i64 i.set_.low, .int .i64 i.set_.high] 34)).alloc (.cells #[.int .i64 0, .int .i64 0, .int .i64 0, .string ⟨#[]⟩, .int .i64 0, .int .i64 0] 34)).alloc (.cells #[.int .i64 x.kind, .int .i64 x.aH, .int .i64 x.index, .string x.text, .int .i64 x.set_.low, .int .i64 x.set_.high, .int .i64 i.kind, .int .i64 i.aH, .int .i64 i.index, .string i.text, .int .i64 i.set_.low, .int .i64 i.set_.high] 34)).heap[w.heap.size + 2]? = some (.cells #[.int .i64 0, .int .i64 0, .int .i64 0, .string ⟨#[]⟩, .int .i64 0, .int .i64 0] 34 (0, 0)) := ((Za.refl (((w.alloc (.cells #[.int .i64 x.kind, .int .i64 x.aH, .int .i64 x.index, .string x.text, .int .i64 x.set_.low, .int .i64 x.set_.high] 34)).alloc (.cells #[.int .i64 i.kind, .int .i64 i.aH, .int .i64 i.index, .string i.text, .int .i64 i.set_.low, .int .i64 i.set_.high] 34)).alloc (.cells #[.int .i64 0, .int .i64 0, .int .i64 0, .string ⟨#[]⟩, .int .i64 0, .int .i64 0] 34))).alloc (.cells #[.int .i64 x.kind, .int .i64 x.aH, .int .i64 x.index, .string x.text, .int .i64 x.set_.low, .int .i64 x.set_.high, .int .i64 i.kind, .int .i64 i.aH, .int .i64 i.index, .string i.text, .int .i64 i.set_.low, .int .i64 i.set_.high] 34)).block _ (by simp) |>.trans (Zy (by simp));have hBw := h.lt
 have HNF := zh h.nB;have hS : Zb3 (fun b => F b ∧ b < w.heap.size) ((((w.alloc (.cells #[.int .i64 x.kind, .int .i64 x.aH, .int .i64 x.index, .string x.text, .int .i64 x.set_.low, .int .i64 x.set_.high] 34)).alloc (.cells #[.int .i64 i.kind, .int .i64 i.aH, .int .i64 i.index, .string i.text, .int .i64 i.set_.low, .int .i64 i.set_.high] 34)).alloc (.cells #[.int .i64 0, .int .i64 0, .int .i64 0, .string ⟨#[]⟩, .int .i64 0, .int .i64 0] 34)).alloc (.cells #[.int .i64 x.kind, .int .i64 x.aH, .int .i64 x.index, .string x.text, .int .i64 x.set_.low, .int .i64 x.set_.high, .int .i64 i.kind, .int .i64 i.aH, .int .i64 i.index, .string i.text, .int .i64 i.set_.low, .int .i64 i.set_.high] 34)) B r cs := h.trim.later hl;have hsz : ((((w.alloc (.cells #[.int .i64 x.kind, .int .i64 x.aH, .int .i64 x.index, .string x.text, .int .i64 x.set_.low, .int .i64 x.set_.high] 34)).alloc (.cells #[.int .i64 i.kind, .int .i64 i.aH, .int .i64 i.index, .string i.text, .int .i64 i.set_.low, .int .i64 i.set_.high] 34)).alloc (.cells #[.int .i64 0, .int .i64 0, .int .i64 0, .string ⟨#[]⟩, .int .i64 0, .int .i64 0] 34)).alloc (.cells #[.int .i64 x.kind, .int .i64 x.aH, .int .i64 x.index, .string x.text, .int .i64 x.set_.low, .int .i64 x.set_.high, .int .i64 i.kind, .int .i64 i.aH, .int .i64 i.index, .string i.text, .int .i64 i.set_.low, .int .i64 i.set_.high] 34)).heap.size = w.heap.size + 4 := by simp
 have HA := zh (Zkv r B cs _ (fun y => y = w.heap.size + 3) ((((w.alloc (.cells #[.int .i64 x.kind, .int .i64 x.aH, .int .i64 x.index, .string x.text, .int .i64 x.set_.low, .int .i64 x.set_.high] 34)).alloc (.cells #[.int .i64 i.kind, .int .i64 i.aH, .int .i64 i.index, .string i.text, .int .i64 i.set_.low, .int .i64 i.set_.high] 34)).alloc (.cells #[.int .i64 0, .int .i64 0, .int .i64 0, .string ⟨#[]⟩, .int .i64 0, .int .i64 0] 34)).alloc (.cells #[.int .i64 x.kind, .int .i64 x.aH, .int .i64 x.index, .string x.text, .int .i64 x.set_.low, .int .i64 x.set_.high, .int .i64 i.kind, .int .i64 i.aH, .int .i64 i.index, .string i.text, .int .i64 i.set_.low, .int .i64 i.set_.high] 34)) ⟨8, 0, 0, [x, i], []⟩ [.int .i64 8, .int .i64 0, .int .i64 0, .slice (some ⟨w.heap.size + 3, 0, none⟩) 2 2, .slice none 0 0] hS
  ⟨fun y => if y = w.heap.size + 3 then 0 else 1, _, _, rfl, in8, in0, in0, (Zmo (G := fun y => y = w.heap.size + 3) hb4 rfl hx hi).keep Zb (fun y hy => ⟨hy, by show (if y = w.heap.size + 3 then 0 else 1) = 0; rw [if_pos hy]⟩) (Zc.refl _ _), Zbo.nil _ _ _ _ _⟩
  (fun y hy hf => by have := hf.2; omega) (by omega) hm)
 have HB2 := zh hb2;have HL := zh hl;have HSZ := zh hsz;clear hb4 hb2 hS hsz h hx hi hl;go_enter Tryz.func94, Tryz.ntmps94;go_wp2_with fail;refine HA.o.mono ?_;rintro e w5 ⟨rfl, ⟨cs5, hS5⟩, hG5⟩;have hR : w5.heap[w.heap.size + 2]? = some (.cells #[.int .i64 0, .int .i64 0, .int .i64 0, .string ⟨#[]⟩, .int .i64 0, .int .i64 0] 34 (0, 0)) := (hG5.keep.same _ ⟨fun hf => by have := hf.2; omega, by omega⟩ (by rw [HSZ.o]; omega)).trans HB2.o;have z0 := cz6 hR;have fz0 := fz hR;have HS5 := zh hS5;have HG5 := zh hG5;have HW5 := zh (show w.heap.size + 4 ≤ w5.heap.size by have := hG5.keep.size; rw [HSZ.o] at this; exact this);clear hS5 hG5 hR;go_wp2_with fail;have hk := Z5 (F := fun y => y ≠ w.heap.size + 1 + 1) (B := w.heap.size + 1 + 1) (w := w5) (fun h => h rfl) [.int .i64 17, .int .i64 r.aA.length, .int .i64 0, .string ⟨#[]⟩, .int .i64 0, .int .i64 0] w5 0 (Zc.refl _ _);have hkB := Zc6 (B := w.heap.size + 1 + 1) (k := B) (by omega) [.int .i64 17, .int .i64 r.aA.length, .int .i64 0, .string ⟨#[]⟩, .int .i64 0, .int .i64 0] w5 0;have hkL := Z8 (b := 0) (B := w.heap.size + 1 + 1) (Nat.zero_le _) [.int .i64 17, .int .i64 r.aA.length, .int .i64 0, .string ⟨#[]⟩, .int .i64 0, .int .i64 0] w5 0 (Below.refl 0 w5);simp only [Zp, Nat.zero_add, Nat.reduceAdd] at hk hkB hkL;refine bodyPost_ret (v := .agg #[.int .i64 17, .int .i64 r.aA.length, .int .i64 0, .string ⟨#[]⟩, .int .i64 0, .int .i64 0]) (by simp [results, Tryz.results94, go_sem, z0, fz0]) rfl ?_
 revert hk hkB hkL
 generalize World.setCell _ _ _ = w6
 intro hk hkB hkL;refine ⟨rfl, ⟨cs5, ?_⟩, ?_⟩
 ·exact HS5.o.keep (G := fun y => F y ∨ w.heap.size ≤ y) (fun y hy => by rcases hy with h | h | h <;> first | exact .inl h.1 | (right; omega) | (right; rw [HSZ.o] at h; omega)) (by rintro (h | h) <;> first | exact HNF.o h | omega) (hk.mono fun y hy e => by subst e; rcases hy with h | h | h <;> first | (have := h.2; omega) | omega | (rw [HSZ.o] at h; omega)) hkB
 ·exact ⟨⟨Nat.le_trans HL.o.size (Nat.le_trans HG5.o.keep.size hk.size), fun b hb hlt => (hk.same b (by omega) (by have := HW5.o; omega)).trans ((HG5.o.keep.same b ⟨fun hf => hb.1 hf.1, hb.2⟩ (by rw [HSZ.o]; omega)).trans (HL.o.block b hlt))⟩, ((Below.mono HL.o (Nat.zero_le _)).trans HG5.o.below).trans hkL⟩
theorem Zib (r : Zh) (B : Nat) (cs : List Value) (F : Nat → Prop) (w : World) (x i : Zj) (h : Zb3 F w B r cs) (hx : Ze F w x [.int .i64 x.kind, .int .i64 x.aH, .int .i64 x.index, .string x.text, .int .i64 x.set_.low, .int .i64 x.set_.high]) (hi : Ze F w i [.int .i64 i.kind, .int .i64 i.aH, .int .i64 i.index, .string i.text, .int .i64 i.set_.low, .int .i64 i.set_.high]) (hm : r.aA.length ≤ 1048576) :
  Calls Tryz.prog 125 #[.pointer (some ⟨B, 0, none⟩), .agg #[.int .i64 x.kind, .int .i64 x.aH, .int .i64 x.index, .string x.text, .int .i64 x.set_.low, .int .i64 x.set_.high], .agg #[.int .i64 i.kind, .int .i64 i.aH, .int .i64 i.index, .string i.text, .int .i64 i.set_.low, .int .i64 i.set_.high]] w fun e w' => e = .returned (.agg #[.int .i64 17, .int .i64 r.aA.length, .int .i64 0, .string ⟨#[]⟩, .int .i64 0, .int .i64 0]) ∧ (∃ cs', Zb3 (fun y => F y ∨ w.heap.size ≤ y) w' B (Zct r ⟨8, 0, 0, [x, i], []⟩) cs') ∧ Zbb F w B w' := by
 have hl : Za w ((((w.alloc (.cells #[.int .i64 x.kind, .int .i64 x.aH, .int .i64 x.index, .string x.text, .int .i64 x.set_.low, .int .i64 x.set_.high] 34)).alloc (.cells #[.int .i64 i.kind, .int .i64 i.aH, .int .i64 i.index, .string i.text, .int .i64 i.set_.low, .int .i64 i.set_.high] 34)).alloc (.cells #[.int .i64 0, .int .i64 0, .int .i64 0, .string ⟨#[]⟩, .int .i64 0, .int .i64 0] 34)).alloc (.cells #[.int .i64 x.kind, .int .i64 x.aH, .int .i64 x.index, .string x.text, .int .i64 x.set_.low, .int .i64 x.set_.high, .int .i64 i.kind, .int .i64 i.aH, .int .i64 i.index, .string i.text, .int .i64 i.set_.low, .int .i64 i.set_.high] 34)) := ((((Za.refl w).alloc _).alloc _).alloc _).alloc _;have hb4 : ((((w.alloc (.cells #[.int .i64 x.kind, .int .i64 x.aH, .int .i64 x.index, .string x.text, .int .i64 x.set_.low, .int .i64 x.set_.high] 34)).alloc (.cells #[.int .i64 i.kind, .int .i64 i.aH, .int .i64 i.index, .string i.text, .int .i64 i.set_.low, .int .i64 i.set_.high] 34)).alloc (.cells #[.int .i64 0, .int .i64 0, .int .i64 0, .string ⟨#[]⟩, .int .i64 0, .int .i64 0] 34)).alloc (.cells #[.int .i64 x.kind, .int .i64 x.aH, .int .i64 x.index, .string x.text, .int .i64 x.set_.low, .int .i64 x.set_.high, .int .i64 i.kind, .int .i64 i.aH, .int .i64 i.index, .string i.text, .int .i64 i.set_.low, .int .i64 i.set_.high] 34)).heap[w.heap.size + 3]? = some (.cells #[.int .i64 x.kind, .int .i64 x.aH, .int .i64 x.index, .string x.text, .int .i64 x.set_.low, .int .i64 x.set_.high, .int .i64 i.kind, .int .i64 i.aH, .int .i64 i.index, .string i.text, .int .i64 i.set_.low, .int .i64 i.set_.high] 34 (0, 0)) := Zy (by simp)
 have hb2 : ((((w.alloc (.cells #[.int .i64 x.kind, .int .i64 x.aH, .int .i64 x.index, .string x.text, .int .i64 x.set_.low, .int .i64 x.set_.high] 34)).alloc (.cells #[.int .i64 i.kind, .int .i64 i.aH, .int .i64 i.index, .string i.text, .int .i64 i.set_.low, .int .i64 i.set_.high] 34)).alloc (.cells #[.int .i64 0, .int .i64 0, .int .i64 0, .string ⟨#[]⟩, .int .i64 0, .int .i64 0] 34)).alloc (.cells #[.int .i64 x.kind, .int .i64 x.aH, .int .i64 x.index, .string x.text, .int .i64 x.set_.low, .int .i64 x.set_.high, .int .i64 i.kind, .int .i64 i.aH, .int .i64 i.index, .string i.text, .int .i64 i.set_.low, .int .i64 i.set_.high] 34)).heap[w.heap.size + 2]? = some (.cells #[.int .i64 0, .int .i64 0, .int .i64 0, .string ⟨#[]⟩, .int .i64 0, .int .i64 0] 34 (0, 0)) := ((Za.refl (((w.alloc (.cells #[.int .i64 x.kind, .int .i64 x.aH, .int .i64 x.index, .string x.text, .int .i64 x.set_.low, .int .i64 x.set_.high] 34)).alloc (.cells #[.int .i64 i.kind, .int .i64 i.aH, .int .i64 i.index, .string i.text, .int .i64 i.set_.low, .int .i64 i.set_.high] 34)).alloc (.cells #[.int .i64 0, .int .i64 0, .int .i64 0, .string ⟨#[]⟩, .int .i64 0, .int .i64 0] 34))).alloc (.cells #[.int .i64 x.kind, .int .i64 x.aH, .int .i64 x.index, .string x.text, .int .i64 x.set_.low, .int .i64 x.set_.high, .int .i64 i.kind, .int .i64 i.aH, .int .i64 i.index, .string i.text, .int .i64 i.set_.low, .int .i64 i.set_.high] 34)).block _ (by simp) |>.trans (Zy (by simp));have hBw := h.lt
 have HNF := zh h.nB;have hS : Zb3 (fun b => F b ∧ b < w.heap.size) ((((w.alloc (.cells #[.int .i64 x.kind, .int .i64 x.aH, .int .i64 x.index, .string x.text, .int .i64 x.set_.low, .int .i64 x.set_.high] 34)).alloc (.cells #[.int .i64 i.kind, .int .i64 i.aH, .int .i64 i.index, .string i.text, .int .i64 i.set_.low, .int .i64 i.set_.high] 34)).alloc (.cells #[.int .i64 0, .int .i64 0, .int .i64 0, .string ⟨#[]⟩, .int .i64 0, .int .i64 0] 34)).alloc (.cells #[.int .i64 x.kind, .int .i64 x.aH, .int .i64 x.index, .string x.text, .int .i64 x.set_.low, .int .i64 x.set_.high, .int .i64 i.kind, .int .i64 i.aH, .int .i64 i.index, .string i.text, .int .i64 i.set_.low, .int .i64 i.set_.high] 34)) B r cs := h.trim.later hl;have hsz : ((((w.alloc (.cells #[.int .i64 x.kind, .int .i64 x.aH, .int .i64 x.index, .string x.text, .int .i64 x.set_.low, .int .i64 x.set_.high] 34)).alloc (.cells #[.int .i64 i.kind, .int .i64 i.aH, .int .i64 i.index, .string i.text, .int .i64 i.set_.low, .int .i64 i.set_.high] 34)).alloc (.cells #[.int .i64 0, .int .i64 0, .int .i64 0, .string ⟨#[]⟩, .int .i64 0, .int .i64 0] 34)).alloc (.cells #[.int .i64 x.kind, .int .i64 x.aH, .int .i64 x.index, .string x.text, .int .i64 x.set_.low, .int .i64 x.set_.high, .int .i64 i.kind, .int .i64 i.aH, .int .i64 i.index, .string i.text, .int .i64 i.set_.low, .int .i64 i.set_.high] 34)).heap.size = w.heap.size + 4 := by simp
 have HA := zh (Zq2 r B cs _ (fun y => y = w.heap.size + 3) ((((w.alloc (.cells #[.int .i64 x.kind, .int .i64 x.aH, .int .i64 x.index, .string x.text, .int .i64 x.set_.low, .int .i64 x.set_.high] 34)).alloc (.cells #[.int .i64 i.kind, .int .i64 i.aH, .int .i64 i.index, .string i.text, .int .i64 i.set_.low, .int .i64 i.set_.high] 34)).alloc (.cells #[.int .i64 0, .int .i64 0, .int .i64 0, .string ⟨#[]⟩, .int .i64 0, .int .i64 0] 34)).alloc (.cells #[.int .i64 x.kind, .int .i64 x.aH, .int .i64 x.index, .string x.text, .int .i64 x.set_.low, .int .i64 x.set_.high, .int .i64 i.kind, .int .i64 i.aH, .int .i64 i.index, .string i.text, .int .i64 i.set_.low, .int .i64 i.set_.high] 34)) ⟨8, 0, 0, [x, i], []⟩ [.int .i64 8, .int .i64 0, .int .i64 0, .slice (some ⟨w.heap.size + 3, 0, none⟩) 2 2, .slice none 0 0] hS
  ⟨fun y => if y = w.heap.size + 3 then 0 else 1, _, _, rfl, in8, in0, in0, (Zmo (G := fun y => y = w.heap.size + 3) hb4 rfl hx hi).keep Zb (fun y hy => ⟨hy, by show (if y = w.heap.size + 3 then 0 else 1) = 0; rw [if_pos hy]⟩) (Zc.refl _ _), Zbo.nil _ _ _ _ _⟩
  (fun y hy hf => by have := hf.2; omega) (by omega) hm ⟨rfl, rfl, rfl⟩)
 have HB2 := zh hb2;have HL := zh hl;have HSZ := zh hsz;clear hb4 hb2 hS hsz h hx hi hl;go_enter Tryz.func125, Tryz.ntmps125;go_wp2_with fail;refine HA.o.mono ?_;rintro e w5 ⟨rfl, ⟨cs5, hS5⟩, hG5⟩;have hR : w5.heap[w.heap.size + 2]? = some (.cells #[.int .i64 0, .int .i64 0, .int .i64 0, .string ⟨#[]⟩, .int .i64 0, .int .i64 0] 34 (0, 0)) := (hG5.keep.same _ ⟨fun hf => by have := hf.2; omega, by omega⟩ (by rw [HSZ.o]; omega)).trans HB2.o;have z0 := cz6 hR;have fz0 := fz hR;have HS5 := zh hS5;have HG5 := zh hG5;have HW5 := zh (show w.heap.size + 4 ≤ w5.heap.size by have := hG5.keep.size; rw [HSZ.o] at this; exact this);clear hS5 hG5 hR;go_wp2_with fail;have hk := Z5 (F := fun y => y ≠ w.heap.size + 1 + 1) (B := w.heap.size + 1 + 1) (w := w5) (fun h => h rfl) [.int .i64 17, .int .i64 r.aA.length, .int .i64 0, .string ⟨#[]⟩, .int .i64 0, .int .i64 0] w5 0 (Zc.refl _ _);have hkB := Zc6 (B := w.heap.size + 1 + 1) (k := B) (by omega) [.int .i64 17, .int .i64 r.aA.length, .int .i64 0, .string ⟨#[]⟩, .int .i64 0, .int .i64 0] w5 0;have hkL := Z8 (b := 0) (B := w.heap.size + 1 + 1) (Nat.zero_le _) [.int .i64 17, .int .i64 r.aA.length, .int .i64 0, .string ⟨#[]⟩, .int .i64 0, .int .i64 0] w5 0 (Below.refl 0 w5);simp only [Zp, Nat.zero_add, Nat.reduceAdd] at hk hkB hkL;refine bodyPost_ret (v := .agg #[.int .i64 17, .int .i64 r.aA.length, .int .i64 0, .string ⟨#[]⟩, .int .i64 0, .int .i64 0]) (by simp [results, Tryz.results125, go_sem, z0, fz0]) rfl ?_
 revert hk hkB hkL
 generalize World.setCell _ _ _ = w6
 intro hk hkB hkL;refine ⟨rfl, ⟨cs5, ?_⟩, ?_⟩
 ·exact HS5.o.keep (G := fun y => F y ∨ w.heap.size ≤ y) (fun y hy => by rcases hy with h | h | h <;> first | exact .inl h.1 | (right; omega) | (right; rw [HSZ.o] at h; omega)) (by rintro (h | h) <;> first | exact HNF.o h | omega) (hk.mono fun y hy e => by subst e; rcases hy with h | h | h <;> first | (have := h.2; omega) | omega | (rw [HSZ.o] at h; omega)) hkB
 ·exact ⟨⟨Nat.le_trans HL.o.size (Nat.le_trans HG5.o.keep.size hk.size), fun b hb hlt => (hk.same b (by omega) (by have := HW5.o; omega)).trans ((HG5.o.keep.same b ⟨fun hf => hb.1 hf.1, hb.2⟩ (by rw [HSZ.o]; omega)).trans (HL.o.block b hlt))⟩, ((Below.mono HL.o (Nat.zero_le _)).trans HG5.o.below).trans hkL⟩
theorem Zk8 : (Tryz.prog.info? 5).map (fun i => (i.zero, i.size, i.bytes)) = some (some (.int .u8 0), 1, 1) := by kernel_rfl
/-- 'string(out)' of a row of bytes that the call owns. -/
theorem Zgs {w : World} {base g cap n : Nat} {ns : List Int} (hn : ns.length = n) (hown : w.ownsRow base 5 1 (.slice (some ⟨g, 0, none⟩) n cap) n (ns.map (Value.int .u8))) :
  (convert 22 9 (.slice (some ⟨g, 0, none⟩) n cap)).run Tryz.prog w = .ok (.string (Zhh ns)) w := by
 subst hn;rw [run_convert_bytes_string w 22 9 5 _ _ _ Tryz.underlying22 Tryz.underlying5 Tryz.underlying9];have hl := run_loadCells_list (P := Tryz.prog) w ⟨g, 0, none⟩ (ns.map (Value.int .u8)) (hown.cells (g := g) rfl);rw [List.length_map] at hl;rw [run_bytesToString w ⟨g, 0, none⟩ ns.length cap ns hl, Zma]
theorem Zpo {w x : World} {base : Nat} {e : TypeId} {size : Nat} {v : Value} {n : Nat} {xs : List Value} (h : w.ownsRow base e size v n xs) (hl : Za w x) : x.ownsRow base e size v n xs := by
 refine ⟨h.1, ?_⟩
 rcases h.2 with hn | ⟨g, cap, cur, rfl, hb, hg, rest⟩
 ·exact .inl hn
 ·exact .inr ⟨g, cap, cur, rfl, hb, (Below.block hl g (Array.getElem?_eq_some_iff.1 hg).1).trans hg, rest⟩
/-- The bytes read so far, in a row that the call owns. -/
structure Zfq (w : World) (o : List UInt8) (v : Value) (wr : World) : Prop where
 row : wr.ownsRow w.heap.size 5 1 v o.length ((Zkn o).map (Value.int .u8))
 bel : Below w.heap.size w wr
 nn : v ≠ .slice none 0 0
theorem Zfq.later {w wr x : World} {o : List UInt8} {v : Value} (h : Zfq w o v wr) (hl : Za wr x) : Zfq w o v x :=
 ⟨Zpo h.row hl, Below.trans h.bel (Below.mono hl h.bel.size), h.nn⟩
theorem Zfq.alloc {w wr : World} {o : List UInt8} {v : Value} (h : Zfq w o v wr) (ob : Obj) : Zfq w o v (wr.alloc ob) := h.later ((Za.refl _).alloc ob)
theorem Zfq.form {w wr : World} {o : List UInt8} {v : Value} (h : Zfq w o v wr) : ∃ g cap, v = .slice (some ⟨g, 0, none⟩) o.length cap := by
 rcases h.row.2 with ⟨hv, _⟩ | ⟨g, cap, cur, hv, _⟩
 ·exact absurd hv h.nn
 ·exact ⟨g, cap, hv⟩
theorem Zfq.push {w wr w1 : World} {o : List UInt8} {v v' : Value} (h : Zfq w o v wr) (x : UInt8) (c : Int) (hc : (x.toNat : Int) = c) {ob : Obj} (hown' : w1.ownsRow w.heap.size 5 1 v' (o.length + 1) ((Zkn o).map (Value.int .u8) ++ [Value.int .u8 c])) (hg : (wr.alloc ob).grownBy w1 v.ownBlock) (hn : v' = .slice none 0 0 ↔ v = .slice none 0 0 ∧ 1 = 0) : Zfq w (o ++ [x]) v' w1 := by
 subst hc;have hsz := h.bel.size;refine ⟨?_, (h.bel.alloc hsz ob).grown hg (by simp; omega) (fun g hg' => (h.row.lt g hg').1), fun e => by have := (hn.1 e).2; omega⟩;rw [List.length_append, List.length_singleton, Zl9, List.map_append];exact hown'
theorem Zfq.start (w : World) : Zfq w [] (.slice (some ⟨w.heap.size, 0, none⟩) 0 0) (w.alloc (.cells #[] 5)) :=
 ⟨⟨rfl, .inr ⟨w.heap.size, 0, #[], rfl, Nat.le_refl _, heap_alloc_new w _, Nat.le_refl _, Nat.zero_le _, rfl, rfl⟩⟩, (Below.refl _ _).alloc (Nat.le_refl _) _, fun e => by cases e⟩
theorem Zof (o : List UInt8) : Zhh (Zkn o) = ⟨o.toArray⟩ := by
 unfold Zhh Zkn;rw [List.map_map]
 congr 1
 congr 1
 conv => rhs; rw [← List.map_id o]
 apply List.map_congr_left
 intro b _;simp
/-- 'string(out)'. -/
theorem Zfq.text {w wr : World} {o : List UInt8} {g cap : Nat} (h : Zfq w o (.slice (some ⟨g, 0, none⟩) o.length cap) wr) : (convert 22 9 (.slice (some ⟨g, 0, none⟩) o.length cap)).run Tryz.prog wr = .ok (.string ⟨o.toArray⟩) wr := by
 have := Zgs (ns := Zkn o) (n := o.length) (by simp [Zkn]) h.row;rw [Zof] at this;exact this
/-- 'string([]byte{b})' of a block that was just made. -/
theorem Zj9 (w : World) (x : Int) :
  (convert 22 9 (.slice (some ⟨w.heap.size, 0, none⟩) 1 1)).run Tryz.prog (w.alloc (.cells #[.int .u8 x] 5)) = .ok (.string (Zhh [x])) (w.alloc (.cells #[.int .u8 x] 5)) :=
 Zgs (base := 0) (ns := [x]) rfl ⟨by simp, .inr ⟨w.heap.size, 1, #[.int .u8 x], rfl, Nat.zero_le _, heap_alloc_new w _, Nat.le_refl _, by unfold maxLen; omega, rfl, by simp⟩⟩
theorem Zss (x : Int) (s : ByteArray) : (Zhh [x] ++ s).data.toList = UInt8.ofNat x.toNat :: s.data.toList := by
 simp [Zhh]
theorem Zk9 {N : Nat} {m x : Int} {s : ByteArray} (hm : m ≠ 0) (h : dg N = dg m.natAbs ++ s.data.toList) (hx : x = 48 + ((m.natAbs % 10 : Nat) : Int)) :
  dg N = dg (m.tdiv 10).natAbs ++ (Zhh [x] ++ s).data.toList := by
 rw [Zss, hx];have : (48 + ((m.natAbs % 10 : Nat) : Int)).toNat = 48 + m.natAbs % 10 := by omega
 rw [this];exact Zqs N m _ hm h
theorem Zpg {a b : ByteArray} (h : a.data.toList = b.data.toList) : a = b := by
 cases a; cases b; simp at h; simp [h]
theorem Zic (n : Int) (w : World) (h0 : -9223372036854775808 ≤ n) (h1 : n ≤ 9223372036854775807) :
  Calls Tryz.prog 144 #[.int .i64 n] w fun e w' => e = .returned (.string ⟨(Lib.itoa n).toArray⟩) ∧ Below w.heap.size w w' := by
 by_cases hz : n = 0
 ·subst hz;have hr : (⟨(Lib.itoa 0).toArray⟩ : ByteArray) = ⟨#[48]⟩ := by rw [Zk3]
  rw [hr];go_enter Tryz.func144, Tryz.ntmps144
  go_wp2
  go_ret;exact ⟨rfl, Below.refl _ _⟩
 ·have hzb : (n == 0) = false := by simpa using hz
  have hit := zh (Zjz n hz);have hlen := Zqq n h0 h1;have hcv := Zj9;clear hz
  rcases Int.lt_or_le n 0 with hneg | hpos
  all_goals
   go_enter Tryz.func144, Tryz.ntmps144
   go_wp2
   go_loopw [0, 4] (fun m out wr => ∃ (m' : Int) (s : ByteArray), m = .int .i64 m' ∧ out = .string s ∧ -9223372036854775808 ≤ m' ∧ m' ≤ 9223372036854775807 ∧ Hd (dg n.natAbs = dg m'.natAbs ++ s.data.toList) ∧ Below w.heap.size w wr) (fun m _ _ => (intOf m).natAbs)
   case atStart => exact ⟨n, _, rfl, rfl, h0, h1, zh (by simp), Below.refl _ _⟩
   case round =>
    obtain ⟨m, s, rfl, rfl, hm0, hm1, hdg, hbel⟩ := hrel;have hsz := hbel.size;have hsl : s.size ≤ 20 := by
     have := congrArg List.length hdg.o;simp at this;have e : s.size = s.data.size := rfl
     omega
    have hss : ∀ x : Int, (Zhh [x]).size = 1 := fun _ => rfl
    by_cases hmz : m = 0
    ·subst hmz
     go_wp2
     go_ret;refine ⟨?_, hbel⟩;have e1 : dg n.natAbs = s.data.toList := by simpa [dg] using hdg.o
     have e2 := hit.o;simp only [e1] at e2
     first
      | (rw [if_pos hneg] at e2; exact congrArg (fun b => Ending.returned (Value.string b)) (Zpg (by simp [e2])))
      | (rw [if_neg (by omega)] at e2; exact congrArg (fun b => Ending.returned (Value.string b)) (Zpg (by simp [e2])))
    ·have hmb : (m != 0) = true := by simpa using hmz
     obtain ⟨d, hd⟩ : ∃ d : Int, m.tmod 10 = d := ⟨_, rfl⟩;have ha : d.natAbs = m.natAbs % 10 := by rw [← hd, Int.natAbs_tmod]; rfl
     have hb : (m.tdiv 10).natAbs = m.natAbs / 10 := by rw [Int.natAbs_tdiv]; rfl
     have hdlo : -10 < d := by omega
     have hdhi : d < 10 := by omega
     have hq1 : -9223372036854775808 ≤ m.tdiv 10 := by omega
     have hq2 : m.tdiv 10 ≤ 9223372036854775807 := by omega
     have hq3 : (m.tdiv 10).natAbs < m.natAbs := by omega
     rcases Int.lt_or_le d 0 with hdn | hdp
     ·have hx : (48 + (-d)) = 48 + ((m.natAbs % 10 : Nat) : Int) := by omega
      have HR := zh (Zk9 hmz hdg.o hx);clear hx hmz ha hb
      go_wp2
      go_roundw
      case rel => exact ⟨_, _, rfl, rfl, hq1, hq2, HR, hbel.alloc hsz _⟩
      case measure => exact hq3
     ·have hx : (48 + d) = 48 + ((m.natAbs % 10 : Nat) : Int) := by omega
      have HR := zh (Zk9 hmz hdg.o hx);clear hx hmz ha hb
      go_wp2
      go_roundw
      case rel => exact ⟨_, _, rfl, rfl, hq1, hq2, HR, hbel.alloc hsz _⟩
      case measure => exact hq3
/-- Bit k of a 64-bit word. -/
def bit (x : Int) (k : Nat) : Bool := bits .and .u64 (IntKind.u64.wrap x / 2 ^ k) 1 == 1
theorem Zka (x : Int) : IntKind.u64.wrap x = ((BitVec.ofInt 64 x).toNat : Int) := by
 rw [BitVec.toNat_ofInt];have : IntKind.u64.wrap x = x % 18446744073709551616 := by rw [IntKind.wrap_u64]
 rw [this]; omega
theorem Zth (x : Int) (k : Nat) : bit x k = (BitVec.ofInt 64 x).getLsbD k := by
 unfold bit;rw [Zka]
 generalize BitVec.ofInt 64 x = X
 have hX := X.isLt;have e : ((X.toNat : Int) / 2 ^ k) = ((X.toNat / 2 ^ k : Nat) : Int) := by simp
 have hle : X.toNat / 2 ^ k ≤ X.toNat := Nat.div_le_self _ _;rw [e, show (1 : Int) = ((1 : Nat) : Int) from rfl, u64_and_nat _ _ (by omega) (by omega)];rw [BitVec.getLsbD, Nat.testBit, Nat.shiftRight_eq_div_pow, Nat.and_comm]
 rcases Nat.mod_two_eq_zero_or_one (X.toNat / 2 ^ k) with h | h <;> simp [h]
theorem Zq3 (x y : Int) : bits .and .i64 x y = IntKind.i64.wrap ((BitVec.ofInt 64 x &&& BitVec.ofInt 64 y).toNat : Int) := rfl
theorem Zmt (x : Int) (k : Nat) (hk : k < 64) : (bits .and .i64 x (wrap64 (2 ^ k)) != 0) = bit x k := by
 rw [Zth, Zq3];have e : BitVec.ofInt 64 (wrap64 (2 ^ k)) = BitVec.twoPow 64 k := by
  apply BitVec.eq_of_toNat_eq
  rw [BitVec.toNat_ofInt, BitVec.toNat_twoPow];have hp : (2 : Nat) ^ k < 2 ^ 64 := Nat.pow_lt_pow_right (by decide) hk;have hc : ((2 : Int) ^ k) = ((2 ^ k : Nat) : Int) := by simp
  rw [hc];unfold wrap64;rw [Nat.mod_eq_of_lt hp]
  generalize 2 ^ k = n at *
  omega
 rw [e, BitVec.and_twoPow]
 cases h : (BitVec.ofInt 64 x).getLsbD k
 ·simp
  rfl
 ·simp only [if_true];have hp : (2 : Nat) ^ k < 2 ^ 64 := Nat.pow_lt_pow_right (by decide) hk;have hpos : 0 < (2 : Nat) ^ k := Nat.pow_pos (by decide);rw [BitVec.toNat_twoPow, Nat.mod_eq_of_lt hp, IntKind.wrap_i64]
  generalize 2 ^ k = n at *
  simp
  omega
/-- Whether the byte b is of the set. -/
def hb (lo hi b : Int) : Bool := if 127 < b then false else if b < 64 then bit lo b.toNat else bit hi (b - 64).toNat
theorem Zq4 (lo hi b : Int) (h : 127 < b) : hb lo hi b = false := by unfold hb; rw [if_pos h]
theorem Ztf (lo hi b : Int) (_h0 : 0 ≤ b) (h : b < 64) : hb lo hi b = bit lo b.toNat := by unfold hb; rw [if_neg (by omega), if_pos h]
theorem Ztg (lo hi b : Int) (h0 : 64 ≤ b) (h : b ≤ 127) : hb lo hi b = bit hi (b - 64).toNat := by unfold hb; rw [if_neg (by omega), if_neg (by omega)]
/-! ### The text of a set -/
/-- The bytes below n of the set. -/
def Zcn (lo hi : Int) (n : Nat) : List UInt8 := ((List.range n).filter fun b : Nat => hb lo hi (b : Int)).map UInt8.ofNat
theorem Zid (lo hi : Int) (n : Nat) : Zcn lo hi (n + 1) = Zcn lo hi n ++ if hb lo hi (n : Int) then [UInt8.ofNat n] else [] := by
 unfold Zcn;rw [List.range_succ, List.filter_append, List.map_append]
 congr 1
 cases h : hb lo hi (n : Int) <;> simp [h]
theorem Zgt (lo hi : Int) (n : Nat) : (Zcn lo hi n).length ≤ n := by
 unfold Zcn;rw [List.length_map];exact Nat.le_trans (List.length_filter_le _ _) (by simp)
theorem Zog : ∀ (a b : List UInt8), a.Pairwise (fun x y => x.toNat < y.toNat) → b.Pairwise (fun x y => x.toNat < y.toNat) → (∀ x, x ∈ a ↔ x ∈ b) → a = b
 | [], [], _, _, _ => rfl
 | [], y :: b, _, _, h => by have := (h y).2 (by simp); simp at this
 | x :: a, [], _, _, h => by have := (h x).1 (by simp); simp at this
 | x :: a, y :: b, ha, hb, h => by
  rw [List.pairwise_cons] at ha hb;have hxy : x = y := by
   have h1 := (h x).1 (by simp);have h2 := (h y).2 (by simp);rw [List.mem_cons] at h1 h2
   rcases h1 with h1 | h1
   ·exact h1
   ·rcases h2 with h2 | h2
    ·exact h2.symm
    ·have := ha.1 y h2; have := hb.1 x h1; omega
  subst hxy;rw [Zog a b ha.2 hb.2 (fun z => by
   have hz := h z;rw [List.mem_cons, List.mem_cons] at hz
   constructor
   ·intro hm
    rcases hz.1 (.inr hm) with e | e
    ·subst e; have := ha.1 z hm; omega
    ·exact e
   ·intro hm
    rcases hz.2 (.inr hm) with e | e
    ·subst e; have := hb.1 z hm; omega
    ·exact e)]
theorem Zjj (lo hi b : Int) (w : World) (h0 : 0 ≤ b) (h1 : b < 256) :
  Calls Tryz.prog 169 #[.agg #[.int .i64 lo, .int .i64 hi], .int .u8 b] w fun e w' => e = .returned (.bool (hb lo hi b)) ∧ Below w.heap.size w w' := by
 by_cases h2 : 127 < b
 ·rw [Zq4 lo hi b h2];go_enter Tryz.func169, Tryz.ntmps169
  go_wp2
  go_ret;exact ⟨rfl, (Below.refl _ _).alloc (Nat.le_refl _) _⟩
 ·by_cases h3 : b < 64
  ·have hv := zh (Ztf lo hi b h0 h3);go_enter Tryz.func169, Tryz.ntmps169
   go_wp2
   go_ret;exact ⟨by rw [hv.o]; rw [← Zmt lo b.toNat (by omega)]; rfl, (Below.refl _ _).alloc (Nat.le_refl _) _⟩
  ·have hv := zh (Ztg lo hi b (by omega) (by omega));go_enter Tryz.func169, Tryz.ntmps169
   go_wp2
   go_ret;exact ⟨by rw [hv.o]; rw [← Zmt hi (b - 64).toNat (by omega)]; rfl, (Below.refl _ _).alloc (Nat.le_refl _) _⟩
theorem Zmu {x : World} {b : Nat} {v0 v1 : Value} {t : TypeId} (h : x.heap[b]? = some (.cells #[v0, v1] t (0, 0))) : x.cell? ⟨b, 0, none⟩ = some v0 ∧ x.cell? ⟨b, 1, none⟩ = some v1 :=
 ⟨cell_of_row x b 0 _ _ _ h, cell_of_row x b 1 _ _ _ h⟩
theorem Zix (lo hi : Int) (w : World) :
  Calls Tryz.prog 143 #[.agg #[.int .i64 lo, .int .i64 hi]] w fun e w' => e = .returned (.string ⟨(Zcn lo hi 128).toArray⟩) ∧ Below w.heap.size w w' := by
 obtain ⟨i0, hi0, hz0, hz1, hz2⟩ := info_parts Zk8;have HCL := zh (Zgt lo hi);have HSU := zh (Zid lo hi);obtain ⟨w1, hw1⟩ : ∃ w1, w1 = w.alloc (.cells #[.int .i64 lo, .int .i64 hi] 32) := ⟨_, rfl⟩;have HP := zh (show w1.heap[w.heap.size]? = some (.cells #[.int .i64 lo, .int .i64 hi] 32 (0, 0)) by rw [hw1]; exact heap_alloc_new w _);have hb1 : Below w.heap.size w w1 := by rw [hw1]; exact (Below.refl _ _).alloc (Nat.le_refl _) _
 have hlt1 : w.heap.size < w1.heap.size := by rw [hw1]; simp
 have hst0 := Zfq.start w1;rw [show w1.heap.size = w.heap.size + 1 by rw [hw1]; simp] at hst0;have HST0 := zh (show Zfq w1 [] (.slice (some ⟨w.heap.size + 1, 0, none⟩) 0 0) ((w.alloc (.cells #[.int .i64 lo, .int .i64 hi] 32)).alloc (.cells #[] 5)) by rw [← hw1]; exact hst0);clear hst0 hw1;go_enter Tryz.func143, Tryz.ntmps143;go_wp2_with fail
 go_loopw [3, 4] (fun v i wr => ∃ (j : Nat) (o : List UInt8) (v' : Value), i = .int .i64 j ∧ v' = v ∧ j ≤ 128 ∧ Hd (o = Zcn lo hi j) ∧ Zfq w1 o v' wr) (fun _ i _ => 128 - (intOf i).toNat)
 case atStart => exact ⟨0, [], _, rfl, rfl, by omega, zh rfl, HST0.o⟩
 case round =>
  obtain ⟨j, o, v, rfl, rfl, hj, HO, hst⟩ := hrel;have hsz := hst.bel.size;have HST := zh hst;clear hst
  by_cases hlt : j < 128
  ·have t1 : decide ((j : Int) < 128) = true := decide_eq_true (by omega);have hwr : IntKind.u8.wrap (j : Int) = (j : Int) := by rw [IntKind.wrap_u8]; omega
   obtain ⟨c0, c1⟩ := Zmu ((HST.o.bel.block _ hlt1).trans HP.o);have HHB := zh (Zjj lo hi (j : Int) wr (by omega) (by omega));have hol : o.length ≤ 128 := by rw [HO.o]; exact Nat.le_trans (HCL.o j) hj
   go_wp2_with fail;refine HHB.o.mono ?_;rintro e w2 ⟨rfl, hb2⟩;have HST2 := zh (HST.o.later hb2);have hsz2 := HST2.o.bel.size;clear hb2 c0 c1 HHB
   by_cases hh : hb lo hi (j : Int) = true
   ·have HO2 := zh (show o ++ [UInt8.ofNat j] = Zcn lo hi (j + 1) by rw [HSU.o, if_pos hh, HO.o]);have hcj : ((UInt8.ofNat j).toNat : Int) = (j : Int) := by rw [UInt8.toNat_ofNat', Nat.mod_eq_of_lt (by omega)]
    have HCJ := zh hcj;rw [hh];clear hh hcj
    go_wp2_with (at_builtin; refine wpList_append_own _ rfl _ _ 22 rfl w1.heap.size 5 i0 (.int .u8 0) 1 1 Tryz.underlying22 hi0 hz0 hz1 hz2 rfl (by decide) _ _ _ rfl (HST2.o.row.alloc _) ⟨w2.heap.size, 0, none⟩ 1 1 [.int .u8 (j : Int)] rfl rfl (cell_one_new _ _ _) (by simp [Value.oneCell']) (by unfold maxLen; omega) (by omega) (by simp; omega) ?_; intro v' w3 hown' hgrow hnil)
    have hst3 := HST2.o.push (UInt8.ofNat j) (j : Int) HCJ.o hown' hgrow hnil
    go_roundw
    case rel => exact ⟨j + 1, _, _, by go_num, rfl, by omega, HO2, hst3⟩
    case measure => simp [intOf]; omega
   ·have hh2 : hb lo hi (j : Int) = false := by simpa using hh
    have HO2 := zh (show o = Zcn lo hi (j + 1) by rw [HSU.o, if_neg hh, List.append_nil, HO.o]);rw [hh2];clear hh hh2;go_wp2_with fail
    go_roundw
    case rel => exact ⟨j + 1, o, _, by go_num, rfl, by omega, HO2, HST2.o⟩
    case measure => simp [intOf]; omega
  ·have t1 : decide ((j : Int) < 128) = false := decide_eq_false (by omega);have hf : o = Zcn lo hi 128 := by rw [HO.o, show j = 128 by omega]
   obtain ⟨g1, cap1, hv⟩ := HST.o.form;subst hv;have e2 := HST.o.text;have HF := zh hf;clear hf;go_wp2_with fail;go_ret;refine ⟨?_, hb1.trans (Below.mono HST.o.bel hb1.size)⟩;rw [HF.o]; rfl
theorem Zjk (lo hi b : Int) (w : World) (h0 : 0 ≤ b) (h1 : b < 256) :
  Calls Tryz.prog 167 #[.agg #[.int .i64 lo, .int .i64 hi], .int .u8 b] w fun e w' => e = .returned (.bool (hb lo hi b)) ∧ Below w.heap.size w w' := by
 by_cases h2 : 127 < b
 ·rw [Zq4 lo hi b h2];go_enter Tryz.func167, Tryz.ntmps167
  go_wp2
  go_ret;exact ⟨rfl, (Below.refl _ _).alloc (Nat.le_refl _) _⟩
 ·by_cases h3 : b < 64
  ·have hv := zh (Ztf lo hi b h0 h3);go_enter Tryz.func167, Tryz.ntmps167
   go_wp2
   go_ret;exact ⟨by rw [hv.o]; rfl, (Below.refl _ _).alloc (Nat.le_refl _) _⟩
  ·have hv := zh (Ztg lo hi b (by omega) (by omega));go_enter Tryz.func167, Tryz.ntmps167
   go_wp2
   go_ret;exact ⟨by rw [hv.o]; rfl, (Below.refl _ _).alloc (Nat.le_refl _) _⟩
theorem Ziy (lo hi : Int) (w : World) :
  Calls Tryz.prog 140 #[.agg #[.int .i64 lo, .int .i64 hi]] w fun e w' => e = .returned (.string ⟨(Zcn lo hi 128).toArray⟩) ∧ Below w.heap.size w w' := by
 obtain ⟨i0, hi0, hz0, hz1, hz2⟩ := info_parts Zk8;have HCL := zh (Zgt lo hi);have HSU := zh (Zid lo hi);obtain ⟨w1, hw1⟩ : ∃ w1, w1 = w.alloc (.cells #[.int .i64 lo, .int .i64 hi] 32) := ⟨_, rfl⟩;have HP := zh (show w1.heap[w.heap.size]? = some (.cells #[.int .i64 lo, .int .i64 hi] 32 (0, 0)) by rw [hw1]; exact heap_alloc_new w _);have hb1 : Below w.heap.size w w1 := by rw [hw1]; exact (Below.refl _ _).alloc (Nat.le_refl _) _
 have hlt1 : w.heap.size < w1.heap.size := by rw [hw1]; simp
 have hst0 := Zfq.start w1;rw [show w1.heap.size = w.heap.size + 1 by rw [hw1]; simp] at hst0;have HST0 := zh (show Zfq w1 [] (.slice (some ⟨w.heap.size + 1, 0, none⟩) 0 0) ((w.alloc (.cells #[.int .i64 lo, .int .i64 hi] 32)).alloc (.cells #[] 5)) by rw [← hw1]; exact hst0);clear hst0 hw1;go_enter Tryz.func140, Tryz.ntmps140;go_wp2_with fail
 go_loopw [3, 4] (fun v i wr => ∃ (j : Nat) (o : List UInt8) (v' : Value), i = .int .i64 j ∧ v' = v ∧ j ≤ 128 ∧ Hd (o = Zcn lo hi j) ∧ Zfq w1 o v' wr) (fun _ i _ => 128 - (intOf i).toNat)
 case atStart => exact ⟨0, [], _, rfl, rfl, by omega, zh rfl, HST0.o⟩
 case round =>
  obtain ⟨j, o, v, rfl, rfl, hj, HO, hst⟩ := hrel;have hsz := hst.bel.size;have HST := zh hst;clear hst
  by_cases hlt : j < 128
  ·have t1 : decide ((j : Int) < 128) = true := decide_eq_true (by omega);have hwr : IntKind.u8.wrap (j : Int) = (j : Int) := by rw [IntKind.wrap_u8]; omega
   obtain ⟨c0, c1⟩ := Zmu ((HST.o.bel.block _ hlt1).trans HP.o);have HHB := zh (Zjk lo hi (j : Int) wr (by omega) (by omega));have hol : o.length ≤ 128 := by rw [HO.o]; exact Nat.le_trans (HCL.o j) hj
   go_wp2_with fail;refine HHB.o.mono ?_;rintro e w2 ⟨rfl, hb2⟩;have HST2 := zh (HST.o.later hb2);have hsz2 := HST2.o.bel.size;clear hb2 c0 c1 HHB
   by_cases hh : hb lo hi (j : Int) = true
   ·have HO2 := zh (show o ++ [UInt8.ofNat j] = Zcn lo hi (j + 1) by rw [HSU.o, if_pos hh, HO.o]);have hcj : ((UInt8.ofNat j).toNat : Int) = (j : Int) := by rw [UInt8.toNat_ofNat', Nat.mod_eq_of_lt (by omega)]
    have HCJ := zh hcj;rw [hh];clear hh hcj
    go_wp2_with (at_builtin; refine wpList_append_own _ rfl _ _ 22 rfl w1.heap.size 5 i0 (.int .u8 0) 1 1 Tryz.underlying22 hi0 hz0 hz1 hz2 rfl (by decide) _ _ _ rfl (HST2.o.row.alloc _) ⟨w2.heap.size, 0, none⟩ 1 1 [.int .u8 (j : Int)] rfl rfl (cell_one_new _ _ _) (by simp [Value.oneCell']) (by unfold maxLen; omega) (by omega) (by simp; omega) ?_; intro v' w3 hown' hgrow hnil)
    have hst3 := HST2.o.push (UInt8.ofNat j) (j : Int) HCJ.o hown' hgrow hnil
    go_roundw
    case rel => exact ⟨j + 1, _, _, by go_num, rfl, by omega, HO2, hst3⟩
    case measure => simp [intOf]; omega
   ·have hh2 : hb lo hi (j : Int) = false := by simpa using hh
    have HO2 := zh (show o = Zcn lo hi (j + 1) by rw [HSU.o, if_neg hh, List.append_nil, HO.o]);rw [hh2];clear hh hh2;go_wp2_with fail
    go_roundw
    case rel => exact ⟨j + 1, o, _, by go_num, rfl, by omega, HO2, HST2.o⟩
    case measure => simp [intOf]; omega
  ·have t1 : decide ((j : Int) < 128) = false := decide_eq_false (by omega);have hf : o = Zcn lo hi 128 := by rw [HO.o, show j = 128 by omega]
   obtain ⟨g1, cap1, hv⟩ := HST.o.form;subst hv;have e2 := HST.o.text;have HF := zh hf;clear hf;go_wp2_with fail;go_ret;refine ⟨?_, hb1.trans (Below.mono HST.o.bel hb1.size)⟩;rw [HF.o]; rfl
/-! ### What both compute -/
/-- A aH that was read, or none. -/
def Zcc : Option Int → Value
 | some n => .tuple #[.int .i64 n, .bool true]
 | none => .tuple #[.int .i64 0, .bool false]
def Zbn (s : ByteArray) (i : Nat) : Nat := if h : i < s.size then s[i].toNat else 0
theorem Zcs {s : ByteArray} {i : Nat} (h : i < s.size) {c : Int} (hc : (s[i].toNat : Int) = c) : (Zbn s i : Int) = c := by unfold Zbn; rw [dif_pos h]; exact hc
def aUp (s : ByteArray) : Nat → Nat → Nat
 | 0, a => a
 | f + 1, a => if a < s.size ∧ Zbn s a = 32 then aUp s f (a + 1) else a
def zDn (s : ByteArray) (a : Nat) : Nat → Nat
 | 0 => 0
 | z + 1 => if a < z + 1 ∧ Zbn s z = 32 then zDn s a z else z + 1
def dgs (s : ByteArray) (z : Nat) : Nat → Nat → Nat → Option Nat
 | 0, _, n => some n
 | f + 1, a, n => if Zbn s a < 48 ∨ 57 < Zbn s a then none else dgs s z f (a + 1) (n * 10 + (Zbn s a - 48))
def Zbt (s : ByteArray) (z a : Nat) (minus : Bool) : Option Int :=
 if z - a < 1 ∨ 12 < z - a then none else (dgs s z (z - a) a 0).map fun n => if minus then -(n : Int) else n
def Zgd (s : ByteArray) (a z : Nat) : Option Int :=
 if a < z ∧ Zbn s a = 43 then Zbt s z (a + 1) false else if a < z ∧ Zbn s a = 45 then Zbt s z (a + 1) true else Zbt s z a false
def iot (s : ByteArray) : Option Int := Zgd s (aUp s s.size 0) (zDn s (aUp s s.size 0) s.size)
theorem Zoh (s : ByteArray) : ∀ (f a : Nat), a ≤ s.size → aUp s f a ≤ s.size
 | 0, a, h => h
 | f + 1, a, h => by
  simp only [aUp]
  split
  ·exact Zoh s f (a + 1) (by omega)
  ·exact h
theorem Zoi (s : ByteArray) (a : Nat) : ∀ z, zDn s a z ≤ z
 | 0 => Nat.le_refl _
 | z + 1 => by
  simp only [zDn]
  split
  ·have := Zoi s a z; omega
  ·omega
theorem Zoj (s : ByteArray) (a : Nat) : ∀ z, a ≤ z → a ≤ zDn s a z
 | 0, h => h
 | z + 1, h => by
  simp only [zDn]
  split
  ·exact Zoj s a z (by omega)
  ·exact h
theorem Zq6 {s : ByteArray} {j A : Nat} (hj : j < s.size) (h : Zbn s j = 32) (hA : aUp s (s.size - j) j = A) : aUp s (s.size - (j + 1)) (j + 1) = A := by
 rw [show s.size - j = (s.size - (j + 1)) + 1 by omega] at hA;simp only [aUp] at hA
 rwa [if_pos ⟨hj, h⟩] at hA
theorem Zif {s : ByteArray} {j A : Nat} (h : ¬ (j < s.size ∧ Zbn s j = 32)) (hA : aUp s (s.size - j) j = A) : j = A := by
 rcases hf : s.size - j with _ | f
 ·rw [hf] at hA; exact hA
 ·rw [hf] at hA;simp only [aUp] at hA
  rwa [if_neg h] at hA
theorem Zq7 {s : ByteArray} {a j Z : Nat} (hj : a < j + 1) (h : Zbn s j = 32) (hZ : zDn s a (j + 1) = Z) : zDn s a j = Z := by
 simp only [zDn] at hZ
 rwa [if_pos ⟨hj, h⟩] at hZ
theorem Zmw {s : ByteArray} {a j Z : Nat} (h : ¬ (Zbn s j = 32)) (hZ : zDn s a (j + 1) = Z) : j + 1 = Z := by
 simp only [zDn] at hZ
 rwa [if_neg (fun h' => h h'.2)] at hZ
theorem Zpi {s : ByteArray} {a j Z : Nat} (h : ¬ a < j) (hZ : zDn s a j = Z) : j = Z := by
 cases j with
 | zero => exact hZ
 | succ j =>
  simp only [zDn] at hZ
  rwa [if_neg (fun h' => h h'.1)] at hZ
theorem Zg7 {s : ByteArray} {j m Z : Nat} {D : Option Nat} (hj : j < Z) (h : Zbn s j < 48 ∨ 57 < Zbn s j) (hD : dgs s Z (Z - j) j m = D) : D = none := by
 rw [show Z - j = (Z - (j + 1)) + 1 by omega] at hD;simp only [dgs] at hD;rw [if_pos h] at hD;exact hD.symm
theorem Ziz {s : ByteArray} {j m Z : Nat} {D : Option Nat} (hj : j < Z) (h : ¬ (Zbn s j < 48 ∨ 57 < Zbn s j)) (hD : dgs s Z (Z - j) j m = D) : dgs s Z (Z - (j + 1)) (j + 1) (m * 10 + (Zbn s j - 48)) = D := by
 rw [show Z - j = (Z - (j + 1)) + 1 by omega] at hD;simp only [dgs] at hD
 rwa [if_neg h] at hD
theorem Zg8 {s : ByteArray} {m Z : Nat} {D : Option Nat} (hD : dgs s Z (Z - Z) Z m = D) : D = some m := by
 rw [Nat.sub_self] at hD;exact hD.symm
theorem Zkb {m k : Nat} (h : m < 10 ^ k) (hk : k ≤ 12) : m < 1000000000000 := by
 have : 10 ^ k ≤ 10 ^ 12 := Nat.pow_le_pow_right (by decide) hk
 omega
theorem Zfa {m k d : Nat} (h : m < 10 ^ k) (hd : d ≤ 9) : m * 10 + d < 10 ^ (k + 1) := by rw [Nat.pow_succ]; omega
theorem Zpp {s : ByteArray} {n : Int} (h : iot s = some n) : -1000000000000 < n ∧ n < 1000000000000 := by
 have dg : ∀ (f a m k : Nat) (Z r : Nat), m < 10 ^ k → k + f ≤ 12 → dgs s Z f a m = some r → r < 1000000000000 := by
  intro f
  induction f with
  | zero => intro a m k Z r hm hk h; have h' : some m = some r := h; cases h'; exact Zkb hm (by omega)
  | succ f ih =>
   intro a m k Z r hm hk h;simp only [dgs] at h
   split at h
   ·cases h
   ·exact ih _ _ (k + 1) Z r (Zfa hm (by omega)) (by omega) h
 have en : ∀ (z a : Nat) (b : Bool), Zbt s z a b = some n → -1000000000000 < n ∧ n < 1000000000000 := by
  intro z a b h;unfold Zbt at h
  split at h
  ·cases h
  ·cases hd : dgs s z (z - a) a 0 with
   | none => rw [hd] at h; cases h
   | some r =>
    rw [hd] at h;have := dg _ _ 0 0 z r (by decide) (by omega) hd;have h' : (if b = true then -(r : Int) else (r : Int)) = n := Option.some.inj h;rw [← h']
    split <;> omega
 unfold iot Zgd at h
 split at h
 ·exact en _ _ _ h
 ·split at h <;> exact en _ _ _ h
theorem Zgh (s : ByteArray) (w : World) (hs : s.size ≤ maxLen) :
  Calls Tryz.prog 160 #[.string s] w fun e w' => e = .returned (Zcc (iot s)) ∧ w' = w := by
 unfold maxLen at hs;obtain ⟨A, hA⟩ : ∃ A, aUp s s.size 0 = A := ⟨_, rfl⟩;obtain ⟨Z, hZ⟩ : ∃ Z, zDn s A s.size = Z := ⟨_, rfl⟩;have hA1 : A ≤ s.size := by rw [← hA]; exact Zoh s _ _ (Nat.zero_le _)
 have hAZ : A ≤ Z := by rw [← hZ]; exact Zoj s A _ hA1
 have hZ1 : Z ≤ s.size := by rw [← hZ]; exact Zoi s A _
 obtain ⟨R, hR⟩ : ∃ R, iot s = R := ⟨_, rfl⟩;rw [hR];have HR := zh (show R = Zgd s A Z by rw [← hR]; unfold iot; rw [hA, hZ]);have HA := zh hA;have HZ := zh hZ;clear hA hZ hR;go_enter Tryz.func160, Tryz.ntmps160
 go_upto_block 0 with (fail)
 go_cut [4] (fun a wr => a = .int .i64 (A : Int) ∧ w = wr)
 case first =>
  go_wp2_with fail
  go_loopw [4] (fun a wr => ∃ j : Nat, a = .int .i64 j ∧ j ≤ s.size ∧ Hd (aUp s (s.size - j) j = A) ∧ w = wr) (fun a _ => s.size - (intOf a).toNat)
  case atStart => exact ⟨0, rfl, Nat.zero_le _, HA, rfl⟩
  case round =>
   obtain ⟨j, rfl, hj, HJ, hw⟩ := hrel;subst hw
   by_cases hlt : j < s.size
   ·have hlt' : (j : Int) < s.size := by omega
    obtain ⟨c, hc⟩ : ∃ c : Int, (s[j].toNat : Int) = c := ⟨_, rfl⟩;have hcb : 0 ≤ c ∧ c < 256 := by have := s[j].toNat_lt; omega
    have HAT := zh (Zcs hlt hc)
    by_cases h32 : c = 32
    ·have t1 : (c == 32) = true := by simp [h32]
     have HN := zh (Zq6 hlt (by have := HAT.o; omega) HJ.o);go_wp2_with fail
     go_roundw
     case rel => exact ⟨j + 1, by go_num, by omega, HN, by trivial⟩
     case measure => simp [intOf] <;> omega
    ·have t1 : (c == 32) = false := by simp [h32]
     have hjA : j = A := Zif (by have := HAT.o; omega) HJ.o;subst hjA;go_wp2_with fail
     go_meet
     exact ⟨rfl, rfl⟩
   ·have hjA : j = A := Zif (by omega) HJ.o;subst hjA;go_wp2_with fail
    go_meet
    exact ⟨rfl, rfl⟩
 case rest =>
 obtain ⟨rfl, hw⟩ := hcut;subst hw
 go_upto_block 2 with (fail)
 go_cut [5] (fun z wr => z = .int .i64 (Z : Int) ∧ w = wr)
 case first =>
  go_wp2_with fail
  go_loopw [5] (fun z wr => ∃ j : Nat, z = .int .i64 j ∧ A ≤ j ∧ j ≤ s.size ∧ Hd (zDn s A j = Z) ∧ w = wr) (fun z _ => (intOf z).toNat)
  case atStart => exact ⟨s.size, rfl, hA1, Nat.le_refl _, HZ, rfl⟩
  case round =>
   obtain ⟨j, rfl, hAj, hj, HJ, hw⟩ := hrel;subst hw
   by_cases hlt : A < j
   ·obtain ⟨i, rfl⟩ : ∃ i, j = i + 1 := ⟨j - 1, by omega⟩;have hi : i < s.size := by omega
    have hi' : (i : Int) < s.size := by omega
    have hlt' : (A : Int) < ((i + 1 : Nat) : Int) := by omega
    have hlt2 : (A : Int) < (i : Int) + 1 := by omega
    obtain ⟨c, hc⟩ : ∃ c : Int, (s[i].toNat : Int) = c := ⟨_, rfl⟩;have hcb : 0 ≤ c ∧ c < 256 := by have := s[i].toNat_lt; omega
    have HAT := zh (Zcs hi hc)
    by_cases h32 : c = 32
    ·have t1 : (c == 32) = true := by simp [h32]
     have HN := zh (Zq7 hlt (by have := HAT.o; omega) HJ.o);go_wp2_with fail
     go_roundw
     case rel => exact ⟨i, by go_num, by omega, by omega, HN, by trivial⟩
     case measure => simp [intOf] <;> omega
    ·have t1 : (c == 32) = false := by simp [h32]
     have hjA : i + 1 = Z := Zmw (by have := HAT.o; omega) HJ.o;subst hjA;go_wp2_with fail
     go_meet
     exact ⟨by go_num, rfl⟩
   ·have hjA : j = Z := Zpi hlt HJ.o;subst hjA;go_wp2_with fail
    go_meet
    exact ⟨rfl, rfl⟩
 case rest =>
 obtain ⟨rfl, hw⟩ := hcut;subst hw
 by_cases haz : A < Z
 ·have haz' : (A : Int) < Z := by omega
  have has : A < s.size := by omega
  have has' : (A : Int) < s.size := by omega
  obtain ⟨d, hdd⟩ : ∃ d : Int, (s[A].toNat : Int) = d := ⟨_, rfl⟩;have hdb : 0 ≤ d ∧ d < 256 := by have := s[A].toNat_lt; omega
  have HDT := zh (Zcs has hdd)
  by_cases h43 : d = 43
  ·have t2 : (d == 43) = true := by simp [h43]
   have t3 : (d == 45) = false := by simp [h43]
   have HR2 := zh (show R = Zbt s Z (A + 1) false from by rw [HR.o]; unfold Zgd; rw [if_pos ⟨haz, by have := HDT.o; omega⟩])
   by_cases hsh : Z - (A + 1) < 1
   ·have t8 : decide ((Z : Int) - ((A : Int) + 1) < 1) = true := decide_eq_true (by omega);have hR0 : R = none := by rw [HR2.o]; unfold Zbt; rw [if_pos (.inl hsh)]
    subst hR0;go_wp2_with fail
    go_ret2
    exact ⟨rfl, rfl⟩
   have t8 : decide ((Z : Int) - ((A : Int) + 1) < 1) = false := decide_eq_false (by omega)
   by_cases hlo : 12 < Z - (A + 1)
   ·have t9 : decide ((12 : Int) < (Z : Int) - ((A : Int) + 1)) = true := decide_eq_true (by omega);have hR0 : R = none := by rw [HR2.o]; unfold Zbt; rw [if_pos (.inr hlo)]
    subst hR0;go_wp2_with fail
    go_ret2
    exact ⟨rfl, rfl⟩
   have t9 : decide ((12 : Int) < (Z : Int) - ((A : Int) + 1)) = false := decide_eq_false (by omega);have HR3 := zh (show R = (dgs s Z (Z - (A + 1)) (A + 1) 0).map (fun n => if false then -(n : Int) else n) from by rw [HR2.o]; unfold Zbt; rw [if_neg (by omega)]);obtain ⟨D, hD⟩ : ∃ D, dgs s Z (Z - (A + 1)) (A + 1) 0 = D := ⟨_, rfl⟩;rw [hD] at HR3;have HD := zh hD;clear hD;go_wp2_with fail
   go_loopw [4, 7] (fun a n wr => ∃ j m : Nat, a = .int .i64 j ∧ n = .int .i64 m ∧ A + 1 ≤ j ∧ j ≤ Z ∧ Hd (m < 10 ^ (j - (A + 1))) ∧ Hd (dgs s Z (Z - j) j m = D) ∧ w = wr) (fun a _ _ => Z - (intOf a).toNat)
   case atStart => exact ⟨A + 1, 0, by go_num, rfl, Nat.le_refl _, by omega, zh (by simp), HD, rfl⟩
   case round =>
    obtain ⟨j, m, rfl, rfl, hBj, hjZ, HM, HJ, hw⟩ := hrel;subst hw;have hm12 : m < 1000000000000 := Zkb HM.o (by omega)
    by_cases hlt : j < Z
    ·have hltZ : (j : Int) < Z := by omega
     have hlt' : (j : Int) < s.size := by omega
     have hjs : j < s.size := by omega
     obtain ⟨c, hc⟩ : ∃ c : Int, (s[j].toNat : Int) = c := ⟨_, rfl⟩;have hcb : 0 ≤ c ∧ c < 256 := by have := s[j].toNat_lt; omega
     have HAT := zh (Zcs hjs hc)
     by_cases hd : 48 ≤ c ∧ c ≤ 57
     ·have d1 : decide (c < 48) = false := decide_eq_false (by omega);have d2 : decide ((57 : Int) < c) = false := decide_eq_false (by omega);have HN := zh (Ziz hlt (by have := HAT.o; omega) HJ.o);have HP := zh (Zfa (d := Zbn s j - 48) HM.o (by have := HAT.o; omega));have HE := zh (show ((m * 10 + (Zbn s j - 48) : Nat) : Int) = (m : Int) * 10 + (c - 48) from by have := HAT.o; omega);have hd0 := hd.1;have hd1 := hd.2;clear hd;go_wp2_with fail
      go_roundw
      case rel => exact ⟨j + 1, m * 10 + (Zbn s j - 48), by go_num, by first | (rw [HE.o]; done) | (rw [HE.o]; congr 1; omega), by omega, by omega, by rw [show j + 1 - (A + 1) = j - (A + 1) + 1 by omega]; exact HP, HN, by trivial⟩
      case measure => simp [intOf] <;> omega
     ·have hR0 : R = none := by rw [HR3.o, Zg7 hlt (by have := HAT.o; omega) HJ.o]; rfl
      subst hR0;have hdn : c < 48 ∨ (48 ≤ c ∧ 57 < c) := by omega
      clear hd
      rcases hdn with hdn | ⟨hdn, hdn'⟩
      ·have d1 : decide (c < 48) = true := decide_eq_true (by omega);go_wp2_with fail
       go_ret2
       exact ⟨rfl, rfl⟩
      ·have d1 : decide (c < 48) = false := decide_eq_false (by omega);have d2 : decide ((57 : Int) < c) = true := decide_eq_true (by omega);go_wp2_with fail
       go_ret2
       exact ⟨rfl, rfl⟩
    ·obtain rfl : j = Z := by omega
     have hR0 : R = some ((m : Int)) := by rw [HR3.o, Zg8 HJ.o]; rfl
     subst hR0;go_wp2_with fail
     go_ret2
     exact ⟨rfl, rfl⟩
  by_cases h45 : d = 45
  ·have t2 : (d == 43) = false := by simp [h45]
   have t3 : (d == 45) = true := by simp [h45]
   have HR2 := zh (show R = Zbt s Z (A + 1) true from by rw [HR.o]; unfold Zgd; rw [if_neg (by rintro ⟨_, h⟩; have := HDT.o; omega), if_pos ⟨haz, by have := HDT.o; omega⟩])
   by_cases hsh : Z - (A + 1) < 1
   ·have t8 : decide ((Z : Int) - ((A : Int) + 1) < 1) = true := decide_eq_true (by omega);have hR0 : R = none := by rw [HR2.o]; unfold Zbt; rw [if_pos (.inl hsh)]
    subst hR0;go_wp2_with fail
    go_ret2
    exact ⟨rfl, rfl⟩
   have t8 : decide ((Z : Int) - ((A : Int) + 1) < 1) = false := decide_eq_false (by omega)
   by_cases hlo : 12 < Z - (A + 1)
   ·have t9 : decide ((12 : Int) < (Z : Int) - ((A : Int) + 1)) = true := decide_eq_true (by omega);have hR0 : R = none := by rw [HR2.o]; unfold Zbt; rw [if_pos (.inr hlo)]
    subst hR0;go_wp2_with fail
    go_ret2
    exact ⟨rfl, rfl⟩
   have t9 : decide ((12 : Int) < (Z : Int) - ((A : Int) + 1)) = false := decide_eq_false (by omega);have HR3 := zh (show R = (dgs s Z (Z - (A + 1)) (A + 1) 0).map (fun n => if true then -(n : Int) else n) from by rw [HR2.o]; unfold Zbt; rw [if_neg (by omega)]);obtain ⟨D, hD⟩ : ∃ D, dgs s Z (Z - (A + 1)) (A + 1) 0 = D := ⟨_, rfl⟩;rw [hD] at HR3;have HD := zh hD;clear hD;go_wp2_with fail
   go_loopw [4, 7] (fun a n wr => ∃ j m : Nat, a = .int .i64 j ∧ n = .int .i64 m ∧ A + 1 ≤ j ∧ j ≤ Z ∧ Hd (m < 10 ^ (j - (A + 1))) ∧ Hd (dgs s Z (Z - j) j m = D) ∧ w = wr) (fun a _ _ => Z - (intOf a).toNat)
   case atStart => exact ⟨A + 1, 0, by go_num, rfl, Nat.le_refl _, by omega, zh (by simp), HD, rfl⟩
   case round =>
    obtain ⟨j, m, rfl, rfl, hBj, hjZ, HM, HJ, hw⟩ := hrel;subst hw;have hm12 : m < 1000000000000 := Zkb HM.o (by omega)
    by_cases hlt : j < Z
    ·have hltZ : (j : Int) < Z := by omega
     have hlt' : (j : Int) < s.size := by omega
     have hjs : j < s.size := by omega
     obtain ⟨c, hc⟩ : ∃ c : Int, (s[j].toNat : Int) = c := ⟨_, rfl⟩;have hcb : 0 ≤ c ∧ c < 256 := by have := s[j].toNat_lt; omega
     have HAT := zh (Zcs hjs hc)
     by_cases hd : 48 ≤ c ∧ c ≤ 57
     ·have d1 : decide (c < 48) = false := decide_eq_false (by omega);have d2 : decide ((57 : Int) < c) = false := decide_eq_false (by omega);have HN := zh (Ziz hlt (by have := HAT.o; omega) HJ.o);have HP := zh (Zfa (d := Zbn s j - 48) HM.o (by have := HAT.o; omega));have HE := zh (show ((m * 10 + (Zbn s j - 48) : Nat) : Int) = (m : Int) * 10 + (c - 48) from by have := HAT.o; omega);have hd0 := hd.1;have hd1 := hd.2;clear hd;go_wp2_with fail
      go_roundw
      case rel => exact ⟨j + 1, m * 10 + (Zbn s j - 48), by go_num, by first | (rw [HE.o]; done) | (rw [HE.o]; congr 1; omega), by omega, by omega, by rw [show j + 1 - (A + 1) = j - (A + 1) + 1 by omega]; exact HP, HN, by trivial⟩
      case measure => simp [intOf] <;> omega
     ·have hR0 : R = none := by rw [HR3.o, Zg7 hlt (by have := HAT.o; omega) HJ.o]; rfl
      subst hR0;have hdn : c < 48 ∨ (48 ≤ c ∧ 57 < c) := by omega
      clear hd
      rcases hdn with hdn | ⟨hdn, hdn'⟩
      ·have d1 : decide (c < 48) = true := decide_eq_true (by omega);go_wp2_with fail
       go_ret2
       exact ⟨rfl, rfl⟩
      ·have d1 : decide (c < 48) = false := decide_eq_false (by omega);have d2 : decide ((57 : Int) < c) = true := decide_eq_true (by omega);go_wp2_with fail
       go_ret2
       exact ⟨rfl, rfl⟩
    ·obtain rfl : j = Z := by omega
     have hR0 : R = some (-(m : Int)) := by rw [HR3.o, Zg8 HJ.o]; rfl
     subst hR0;go_wp2_with fail
     go_ret2
     exact ⟨rfl, rfl⟩
  have t2 : (d == 43) = false := by simp [h43]
  have t3 : (d == 45) = false := by simp [h45]
  have HR2 := zh (show R = Zbt s Z (A) false from by rw [HR.o]; unfold Zgd; rw [if_neg (by rintro ⟨_, h⟩; have := HDT.o; omega), if_neg (by rintro ⟨_, h⟩; have := HDT.o; omega)])
  by_cases hsh : Z - (A) < 1
  ·have t8 : decide ((Z : Int) - ((A : Int)) < 1) = true := decide_eq_true (by omega);have hR0 : R = none := by rw [HR2.o]; unfold Zbt; rw [if_pos (.inl hsh)]
   subst hR0;go_wp2_with fail
   go_ret2
   exact ⟨rfl, rfl⟩
  have t8 : decide ((Z : Int) - ((A : Int)) < 1) = false := decide_eq_false (by omega)
  by_cases hlo : 12 < Z - (A)
  ·have t9 : decide ((12 : Int) < (Z : Int) - ((A : Int))) = true := decide_eq_true (by omega);have hR0 : R = none := by rw [HR2.o]; unfold Zbt; rw [if_pos (.inr hlo)]
   subst hR0;go_wp2_with fail
   go_ret2
   exact ⟨rfl, rfl⟩
  have t9 : decide ((12 : Int) < (Z : Int) - ((A : Int))) = false := decide_eq_false (by omega);have HR3 := zh (show R = (dgs s Z (Z - (A)) (A) 0).map (fun n => if false then -(n : Int) else n) from by rw [HR2.o]; unfold Zbt; rw [if_neg (by omega)]);obtain ⟨D, hD⟩ : ∃ D, dgs s Z (Z - (A)) (A) 0 = D := ⟨_, rfl⟩;rw [hD] at HR3;have HD := zh hD;clear hD;go_wp2_with fail
  go_loopw [4, 7] (fun a n wr => ∃ j m : Nat, a = .int .i64 j ∧ n = .int .i64 m ∧ A ≤ j ∧ j ≤ Z ∧ Hd (m < 10 ^ (j - (A))) ∧ Hd (dgs s Z (Z - j) j m = D) ∧ w = wr) (fun a _ _ => Z - (intOf a).toNat)
  case atStart => exact ⟨A, 0, by go_num, rfl, Nat.le_refl _, by omega, zh (by simp), HD, rfl⟩
  case round =>
   obtain ⟨j, m, rfl, rfl, hBj, hjZ, HM, HJ, hw⟩ := hrel;subst hw;have hm12 : m < 1000000000000 := Zkb HM.o (by omega)
   by_cases hlt : j < Z
   ·have hltZ : (j : Int) < Z := by omega
    have hlt' : (j : Int) < s.size := by omega
    have hjs : j < s.size := by omega
    obtain ⟨c, hc⟩ : ∃ c : Int, (s[j].toNat : Int) = c := ⟨_, rfl⟩;have hcb : 0 ≤ c ∧ c < 256 := by have := s[j].toNat_lt; omega
    have HAT := zh (Zcs hjs hc)
    by_cases hd : 48 ≤ c ∧ c ≤ 57
    ·have d1 : decide (c < 48) = false := decide_eq_false (by omega);have d2 : decide ((57 : Int) < c) = false := decide_eq_false (by omega);have HN := zh (Ziz hlt (by have := HAT.o; omega) HJ.o);have HP := zh (Zfa (d := Zbn s j - 48) HM.o (by have := HAT.o; omega));have HE := zh (show ((m * 10 + (Zbn s j - 48) : Nat) : Int) = (m : Int) * 10 + (c - 48) from by have := HAT.o; omega);have hd0 := hd.1;have hd1 := hd.2;clear hd;go_wp2_with fail
     go_roundw
     case rel => exact ⟨j + 1, m * 10 + (Zbn s j - 48), by go_num, by first | (rw [HE.o]; done) | (rw [HE.o]; congr 1; omega), by omega, by omega, by rw [show j + 1 - (A) = j - (A) + 1 by omega]; exact HP, HN, by trivial⟩
     case measure => simp [intOf] <;> omega
    ·have hR0 : R = none := by rw [HR3.o, Zg7 hlt (by have := HAT.o; omega) HJ.o]; rfl
     subst hR0;have hdn : c < 48 ∨ (48 ≤ c ∧ 57 < c) := by omega
     clear hd
     rcases hdn with hdn | ⟨hdn, hdn'⟩
     ·have d1 : decide (c < 48) = true := decide_eq_true (by omega);go_wp2_with fail
      go_ret2
      exact ⟨rfl, rfl⟩
     ·have d1 : decide (c < 48) = false := decide_eq_false (by omega);have d2 : decide ((57 : Int) < c) = true := decide_eq_true (by omega);go_wp2_with fail
      go_ret2
      exact ⟨rfl, rfl⟩
   ·obtain rfl : j = Z := by omega
    have hR0 : R = some ((m : Int)) := by rw [HR3.o, Zg8 HJ.o]; rfl
    subst hR0;go_wp2_with fail
    go_ret2
    exact ⟨rfl, rfl⟩
 ·have haz' : ¬ (A : Int) < Z := by omega
  have hR0 : R = none := by
   rw [HR.o];unfold Zgd;rw [if_neg (fun h => haz h.1), if_neg (fun h => haz h.1)];unfold Zbt;rw [if_pos (.inl (by omega))]
  subst hR0;have t8 : decide ((Z : Int) - A < 1) = true := decide_eq_true (by omega);go_wp2_with fail
  go_ret2
  exact ⟨rfl, rfl⟩
theorem Zgi (s : ByteArray) (w : World) (hs : s.size ≤ maxLen) :
  Calls Tryz.prog 159 #[.string s] w fun e w' => e = .returned (Zcc (iot s)) ∧ w' = w := by
 unfold maxLen at hs;obtain ⟨A, hA⟩ : ∃ A, aUp s s.size 0 = A := ⟨_, rfl⟩;obtain ⟨Z, hZ⟩ : ∃ Z, zDn s A s.size = Z := ⟨_, rfl⟩;have hA1 : A ≤ s.size := by rw [← hA]; exact Zoh s _ _ (Nat.zero_le _)
 have hAZ : A ≤ Z := by rw [← hZ]; exact Zoj s A _ hA1
 have hZ1 : Z ≤ s.size := by rw [← hZ]; exact Zoi s A _
 obtain ⟨R, hR⟩ : ∃ R, iot s = R := ⟨_, rfl⟩;rw [hR];have HR := zh (show R = Zgd s A Z by rw [← hR]; unfold iot; rw [hA, hZ]);have HA := zh hA;have HZ := zh hZ;clear hA hZ hR;go_enter Tryz.func159, Tryz.ntmps159
 go_upto_block 0 with (fail)
 go_cut [4] (fun a wr => a = .int .i64 (A : Int) ∧ w = wr)
 case first =>
  go_wp2_with fail
  go_loopw [4] (fun a wr => ∃ j : Nat, a = .int .i64 j ∧ j ≤ s.size ∧ Hd (aUp s (s.size - j) j = A) ∧ w = wr) (fun a _ => s.size - (intOf a).toNat)
  case atStart => exact ⟨0, rfl, Nat.zero_le _, HA, rfl⟩
  case round =>
   obtain ⟨j, rfl, hj, HJ, hw⟩ := hrel;subst hw
   by_cases hlt : j < s.size
   ·have hlt' : (j : Int) < s.size := by omega
    obtain ⟨c, hc⟩ : ∃ c : Int, (s[j].toNat : Int) = c := ⟨_, rfl⟩;have hcb : 0 ≤ c ∧ c < 256 := by have := s[j].toNat_lt; omega
    have HAT := zh (Zcs hlt hc)
    by_cases h32 : c = 32
    ·have t1 : (c == 32) = true := by simp [h32]
     have HN := zh (Zq6 hlt (by have := HAT.o; omega) HJ.o);go_wp2_with fail
     go_roundw
     case rel => exact ⟨j + 1, by go_num, by omega, HN, by trivial⟩
     case measure => simp [intOf] <;> omega
    ·have t1 : (c == 32) = false := by simp [h32]
     have hjA : j = A := Zif (by have := HAT.o; omega) HJ.o;subst hjA;go_wp2_with fail
     go_meet
     exact ⟨rfl, rfl⟩
   ·have hjA : j = A := Zif (by omega) HJ.o;subst hjA;go_wp2_with fail
    go_meet
    exact ⟨rfl, rfl⟩
 case rest =>
 obtain ⟨rfl, hw⟩ := hcut;subst hw
 go_upto_block 2 with (fail)
 go_cut [5] (fun z wr => z = .int .i64 (Z : Int) ∧ w = wr)
 case first =>
  go_wp2_with fail
  go_loopw [5] (fun z wr => ∃ j : Nat, z = .int .i64 j ∧ A ≤ j ∧ j ≤ s.size ∧ Hd (zDn s A j = Z) ∧ w = wr) (fun z _ => (intOf z).toNat)
  case atStart => exact ⟨s.size, rfl, hA1, Nat.le_refl _, HZ, rfl⟩
  case round =>
   obtain ⟨j, rfl, hAj, hj, HJ, hw⟩ := hrel;subst hw
   by_cases hlt : A < j
   ·obtain ⟨i, rfl⟩ : ∃ i, j = i + 1 := ⟨j - 1, by omega⟩;have hi : i < s.size := by omega
    have hi' : (i : Int) < s.size := by omega
    have hlt' : (A : Int) < ((i + 1 : Nat) : Int) := by omega
    have hlt2 : (A : Int) < (i : Int) + 1 := by omega
    obtain ⟨c, hc⟩ : ∃ c : Int, (s[i].toNat : Int) = c := ⟨_, rfl⟩;have hcb : 0 ≤ c ∧ c < 256 := by have := s[i].toNat_lt; omega
    have HAT := zh (Zcs hi hc)
    by_cases h32 : c = 32
    ·have t1 : (c == 32) = true := by simp [h32]
     have HN := zh (Zq7 hlt (by have := HAT.o; omega) HJ.o);go_wp2_with fail
     go_roundw
     case rel => exact ⟨i, by go_num, by omega, by omega, HN, by trivial⟩
     case measure => simp [intOf] <;> omega
    ·have t1 : (c == 32) = false := by simp [h32]
     have hjA : i + 1 = Z := Zmw (by have := HAT.o; omega) HJ.o;subst hjA;go_wp2_with fail
     go_meet
     exact ⟨by go_num, rfl⟩
   ·have hjA : j = Z := Zpi hlt HJ.o;subst hjA;go_wp2_with fail
    go_meet
    exact ⟨rfl, rfl⟩
 case rest =>
 obtain ⟨rfl, hw⟩ := hcut;subst hw
 by_cases haz : A < Z
 ·have haz' : (A : Int) < Z := by omega
  have has : A < s.size := by omega
  have has' : (A : Int) < s.size := by omega
  obtain ⟨d, hdd⟩ : ∃ d : Int, (s[A].toNat : Int) = d := ⟨_, rfl⟩;have hdb : 0 ≤ d ∧ d < 256 := by have := s[A].toNat_lt; omega
  have HDT := zh (Zcs has hdd)
  by_cases h43 : d = 43
  ·have t2 : (d == 43) = true := by simp [h43]
   have t3 : (d == 45) = false := by simp [h43]
   have HR2 := zh (show R = Zbt s Z (A + 1) false from by rw [HR.o]; unfold Zgd; rw [if_pos ⟨haz, by have := HDT.o; omega⟩])
   by_cases hsh : Z - (A + 1) < 1
   ·have t8 : decide ((Z : Int) - ((A : Int) + 1) < 1) = true := decide_eq_true (by omega);have hR0 : R = none := by rw [HR2.o]; unfold Zbt; rw [if_pos (.inl hsh)]
    subst hR0;go_wp2_with fail
    go_ret2
    exact ⟨rfl, rfl⟩
   have t8 : decide ((Z : Int) - ((A : Int) + 1) < 1) = false := decide_eq_false (by omega)
   by_cases hlo : 12 < Z - (A + 1)
   ·have t9 : decide ((12 : Int) < (Z : Int) - ((A : Int) + 1)) = true := decide_eq_true (by omega);have hR0 : R = none := by rw [HR2.o]; unfold Zbt; rw [if_pos (.inr hlo)]
    subst hR0;go_wp2_with fail
    go_ret2
    exact ⟨rfl, rfl⟩
   have t9 : decide ((12 : Int) < (Z : Int) - ((A : Int) + 1)) = false := decide_eq_false (by omega);have HR3 := zh (show R = (dgs s Z (Z - (A + 1)) (A + 1) 0).map (fun n => if false then -(n : Int) else n) from by rw [HR2.o]; unfold Zbt; rw [if_neg (by omega)]);obtain ⟨D, hD⟩ : ∃ D, dgs s Z (Z - (A + 1)) (A + 1) 0 = D := ⟨_, rfl⟩;rw [hD] at HR3;have HD := zh hD;clear hD;go_wp2_with fail
   go_loopw [4, 7] (fun a n wr => ∃ j m : Nat, a = .int .i64 j ∧ n = .int .i64 m ∧ A + 1 ≤ j ∧ j ≤ Z ∧ Hd (m < 10 ^ (j - (A + 1))) ∧ Hd (dgs s Z (Z - j) j m = D) ∧ w = wr) (fun a _ _ => Z - (intOf a).toNat)
   case atStart => exact ⟨A + 1, 0, by go_num, rfl, Nat.le_refl _, by omega, zh (by simp), HD, rfl⟩
   case round =>
    obtain ⟨j, m, rfl, rfl, hBj, hjZ, HM, HJ, hw⟩ := hrel;subst hw;have hm12 : m < 1000000000000 := Zkb HM.o (by omega)
    by_cases hlt : j < Z
    ·have hltZ : (j : Int) < Z := by omega
     have hlt' : (j : Int) < s.size := by omega
     have hjs : j < s.size := by omega
     obtain ⟨c, hc⟩ : ∃ c : Int, (s[j].toNat : Int) = c := ⟨_, rfl⟩;have hcb : 0 ≤ c ∧ c < 256 := by have := s[j].toNat_lt; omega
     have HAT := zh (Zcs hjs hc)
     by_cases hd : 48 ≤ c ∧ c ≤ 57
     ·have d1 : decide (c < 48) = false := decide_eq_false (by omega);have d2 : decide ((57 : Int) < c) = false := decide_eq_false (by omega);have HN := zh (Ziz hlt (by have := HAT.o; omega) HJ.o);have HP := zh (Zfa (d := Zbn s j - 48) HM.o (by have := HAT.o; omega));have HE := zh (show ((m * 10 + (Zbn s j - 48) : Nat) : Int) = (m : Int) * 10 + (c - 48) from by have := HAT.o; omega);have hd0 := hd.1;have hd1 := hd.2;clear hd;go_wp2_with fail
      go_roundw
      case rel => exact ⟨j + 1, m * 10 + (Zbn s j - 48), by go_num, by first | (rw [HE.o]; done) | (rw [HE.o]; congr 1; omega), by omega, by omega, by rw [show j + 1 - (A + 1) = j - (A + 1) + 1 by omega]; exact HP, HN, by trivial⟩
      case measure => simp [intOf] <;> omega
     ·have hR0 : R = none := by rw [HR3.o, Zg7 hlt (by have := HAT.o; omega) HJ.o]; rfl
      subst hR0;have hdn : c < 48 ∨ (48 ≤ c ∧ 57 < c) := by omega
      clear hd
      rcases hdn with hdn | ⟨hdn, hdn'⟩
      ·have d1 : decide (c < 48) = true := decide_eq_true (by omega);go_wp2_with fail
       go_ret2
       exact ⟨rfl, rfl⟩
      ·have d1 : decide (c < 48) = false := decide_eq_false (by omega);have d2 : decide ((57 : Int) < c) = true := decide_eq_true (by omega);go_wp2_with fail
       go_ret2
       exact ⟨rfl, rfl⟩
    ·obtain rfl : j = Z := by omega
     have hR0 : R = some ((m : Int)) := by rw [HR3.o, Zg8 HJ.o]; rfl
     subst hR0;go_wp2_with fail
     go_ret2
     exact ⟨rfl, rfl⟩
  by_cases h45 : d = 45
  ·have t2 : (d == 43) = false := by simp [h45]
   have t3 : (d == 45) = true := by simp [h45]
   have HR2 := zh (show R = Zbt s Z (A + 1) true from by rw [HR.o]; unfold Zgd; rw [if_neg (by rintro ⟨_, h⟩; have := HDT.o; omega), if_pos ⟨haz, by have := HDT.o; omega⟩])
   by_cases hsh : Z - (A + 1) < 1
   ·have t8 : decide ((Z : Int) - ((A : Int) + 1) < 1) = true := decide_eq_true (by omega);have hR0 : R = none := by rw [HR2.o]; unfold Zbt; rw [if_pos (.inl hsh)]
    subst hR0;go_wp2_with fail
    go_ret2
    exact ⟨rfl, rfl⟩
   have t8 : decide ((Z : Int) - ((A : Int) + 1) < 1) = false := decide_eq_false (by omega)
   by_cases hlo : 12 < Z - (A + 1)
   ·have t9 : decide ((12 : Int) < (Z : Int) - ((A : Int) + 1)) = true := decide_eq_true (by omega);have hR0 : R = none := by rw [HR2.o]; unfold Zbt; rw [if_pos (.inr hlo)]
    subst hR0;go_wp2_with fail
    go_ret2
    exact ⟨rfl, rfl⟩
   have t9 : decide ((12 : Int) < (Z : Int) - ((A : Int) + 1)) = false := decide_eq_false (by omega);have HR3 := zh (show R = (dgs s Z (Z - (A + 1)) (A + 1) 0).map (fun n => if true then -(n : Int) else n) from by rw [HR2.o]; unfold Zbt; rw [if_neg (by omega)]);obtain ⟨D, hD⟩ : ∃ D, dgs s Z (Z - (A + 1)) (A + 1) 0 = D := ⟨_, rfl⟩;rw [hD] at HR3;have HD := zh hD;clear hD;go_wp2_with fail
   go_loopw [4, 7] (fun a n wr => ∃ j m : Nat, a = .int .i64 j ∧ n = .int .i64 m ∧ A + 1 ≤ j ∧ j ≤ Z ∧ Hd (m < 10 ^ (j - (A + 1))) ∧ Hd (dgs s Z (Z - j) j m = D) ∧ w = wr) (fun a _ _ => Z - (intOf a).toNat)
   case atStart => exact ⟨A + 1, 0, by go_num, rfl, Nat.le_refl _, by omega, zh (by simp), HD, rfl⟩
   case round =>
    obtain ⟨j, m, rfl, rfl, hBj, hjZ, HM, HJ, hw⟩ := hrel;subst hw;have hm12 : m < 1000000000000 := Zkb HM.o (by omega)
    by_cases hlt : j < Z
    ·have hltZ : (j : Int) < Z := by omega
     have hlt' : (j : Int) < s.size := by omega
     have hjs : j < s.size := by omega
     obtain ⟨c, hc⟩ : ∃ c : Int, (s[j].toNat : Int) = c := ⟨_, rfl⟩;have hcb : 0 ≤ c ∧ c < 256 := by have := s[j].toNat_lt; omega
     have HAT := zh (Zcs hjs hc)
     by_cases hd : 48 ≤ c ∧ c ≤ 57
     ·have d1 : decide (c < 48) = false := decide_eq_false (by omega);have d2 : decide ((57 : Int) < c) = false := decide_eq_false (by omega);have HN := zh (Ziz hlt (by have := HAT.o; omega) HJ.o);have HP := zh (Zfa (d := Zbn s j - 48) HM.o (by have := HAT.o; omega));have HE := zh (show ((m * 10 + (Zbn s j - 48) : Nat) : Int) = (m : Int) * 10 + (c - 48) from by have := HAT.o; omega);have hd0 := hd.1;have hd1 := hd.2;clear hd;go_wp2_with fail
      go_roundw
      case rel => exact ⟨j + 1, m * 10 + (Zbn s j - 48), by go_num, by first | (rw [HE.o]; done) | (rw [HE.o]; congr 1; omega), by omega, by omega, by rw [show j + 1 - (A + 1) = j - (A + 1) + 1 by omega]; exact HP, HN, by trivial⟩
      case measure => simp [intOf] <;> omega
     ·have hR0 : R = none := by rw [HR3.o, Zg7 hlt (by have := HAT.o; omega) HJ.o]; rfl
      subst hR0;have hdn : c < 48 ∨ (48 ≤ c ∧ 57 < c) := by omega
      clear hd
      rcases hdn with hdn | ⟨hdn, hdn'⟩
      ·have d1 : decide (c < 48) = true := decide_eq_true (by omega);go_wp2_with fail
       go_ret2
       exact ⟨rfl, rfl⟩
      ·have d1 : decide (c < 48) = false := decide_eq_false (by omega);have d2 : decide ((57 : Int) < c) = true := decide_eq_true (by omega);go_wp2_with fail
       go_ret2
       exact ⟨rfl, rfl⟩
    ·obtain rfl : j = Z := by omega
     have hR0 : R = some (-(m : Int)) := by rw [HR3.o, Zg8 HJ.o]; rfl
     subst hR0;go_wp2_with fail
     go_ret2
     exact ⟨rfl, rfl⟩
  have t2 : (d == 43) = false := by simp [h43]
  have t3 : (d == 45) = false := by simp [h45]
  have HR2 := zh (show R = Zbt s Z (A) false from by rw [HR.o]; unfold Zgd; rw [if_neg (by rintro ⟨_, h⟩; have := HDT.o; omega), if_neg (by rintro ⟨_, h⟩; have := HDT.o; omega)])
  by_cases hsh : Z - (A) < 1
  ·have t8 : decide ((Z : Int) - ((A : Int)) < 1) = true := decide_eq_true (by omega);have hR0 : R = none := by rw [HR2.o]; unfold Zbt; rw [if_pos (.inl hsh)]
   subst hR0;go_wp2_with fail
   go_ret2
   exact ⟨rfl, rfl⟩
  have t8 : decide ((Z : Int) - ((A : Int)) < 1) = false := decide_eq_false (by omega)
  by_cases hlo : 12 < Z - (A)
  ·have t9 : decide ((12 : Int) < (Z : Int) - ((A : Int))) = true := decide_eq_true (by omega);have hR0 : R = none := by rw [HR2.o]; unfold Zbt; rw [if_pos (.inr hlo)]
   subst hR0;go_wp2_with fail
   go_ret2
   exact ⟨rfl, rfl⟩
  have t9 : decide ((12 : Int) < (Z : Int) - ((A : Int))) = false := decide_eq_false (by omega);have HR3 := zh (show R = (dgs s Z (Z - (A)) (A) 0).map (fun n => if false then -(n : Int) else n) from by rw [HR2.o]; unfold Zbt; rw [if_neg (by omega)]);obtain ⟨D, hD⟩ : ∃ D, dgs s Z (Z - (A)) (A) 0 = D := ⟨_, rfl⟩;rw [hD] at HR3;have HD := zh hD;clear hD;go_wp2_with fail
  go_loopw [4, 7] (fun a n wr => ∃ j m : Nat, a = .int .i64 j ∧ n = .int .i64 m ∧ A ≤ j ∧ j ≤ Z ∧ Hd (m < 10 ^ (j - (A))) ∧ Hd (dgs s Z (Z - j) j m = D) ∧ w = wr) (fun a _ _ => Z - (intOf a).toNat)
  case atStart => exact ⟨A, 0, by go_num, rfl, Nat.le_refl _, by omega, zh (by simp), HD, rfl⟩
  case round =>
   obtain ⟨j, m, rfl, rfl, hBj, hjZ, HM, HJ, hw⟩ := hrel;subst hw;have hm12 : m < 1000000000000 := Zkb HM.o (by omega)
   by_cases hlt : j < Z
   ·have hltZ : (j : Int) < Z := by omega
    have hlt' : (j : Int) < s.size := by omega
    have hjs : j < s.size := by omega
    obtain ⟨c, hc⟩ : ∃ c : Int, (s[j].toNat : Int) = c := ⟨_, rfl⟩;have hcb : 0 ≤ c ∧ c < 256 := by have := s[j].toNat_lt; omega
    have HAT := zh (Zcs hjs hc)
    by_cases hd : 48 ≤ c ∧ c ≤ 57
    ·have d1 : decide (c < 48) = false := decide_eq_false (by omega);have d2 : decide ((57 : Int) < c) = false := decide_eq_false (by omega);have HN := zh (Ziz hlt (by have := HAT.o; omega) HJ.o);have HP := zh (Zfa (d := Zbn s j - 48) HM.o (by have := HAT.o; omega));have HE := zh (show ((m * 10 + (Zbn s j - 48) : Nat) : Int) = (m : Int) * 10 + (c - 48) from by have := HAT.o; omega);have hd0 := hd.1;have hd1 := hd.2;clear hd;go_wp2_with fail
     go_roundw
     case rel => exact ⟨j + 1, m * 10 + (Zbn s j - 48), by go_num, by first | (rw [HE.o]; done) | (rw [HE.o]; congr 1; omega), by omega, by omega, by rw [show j + 1 - (A) = j - (A) + 1 by omega]; exact HP, HN, by trivial⟩
     case measure => simp [intOf] <;> omega
    ·have hR0 : R = none := by rw [HR3.o, Zg7 hlt (by have := HAT.o; omega) HJ.o]; rfl
     subst hR0;have hdn : c < 48 ∨ (48 ≤ c ∧ 57 < c) := by omega
     clear hd
     rcases hdn with hdn | ⟨hdn, hdn'⟩
     ·have d1 : decide (c < 48) = true := decide_eq_true (by omega);go_wp2_with fail
      go_ret2
      exact ⟨rfl, rfl⟩
     ·have d1 : decide (c < 48) = false := decide_eq_false (by omega);have d2 : decide ((57 : Int) < c) = true := decide_eq_true (by omega);go_wp2_with fail
      go_ret2
      exact ⟨rfl, rfl⟩
   ·obtain rfl : j = Z := by omega
    have hR0 : R = some ((m : Int)) := by rw [HR3.o, Zg8 HJ.o]; rfl
    subst hR0;go_wp2_with fail
    go_ret2
    exact ⟨rfl, rfl⟩
 ·have haz' : ¬ (A : Int) < Z := by omega
  have hR0 : R = none := by
   rw [HR.o];unfold Zgd;rw [if_neg (fun h => haz h.1), if_neg (fun h => haz h.1)];unfold Zbt;rw [if_pos (.inl (by omega))]
  subst hR0;have t8 : decide ((Z : Int) - A < 1) = true := decide_eq_true (by omega);go_wp2_with fail
  go_ret2
  exact ⟨rfl, rfl⟩
/-- The table of powers of ten. -/
def Pw (w : World) : Prop := Lib.TabIs Tryz.prog w "internal/strconv.uint64pow10" .u64 Lib.pow10Tab
theorem Zst : Tryz.prog.globalNamed "internal/strconv.uint64pow10" = some 2 := by kernel_rfl
theorem Pw.below {w w' : World} (h : Pw w) (hb : Below w.heap.size w w') : Pw w' :=
 var?_below hb Zst (World.block_lt_of_cell? w _ (h.cell Zst 0 (by decide +kernel))) h
theorem Zig (n : Int) (w : World) (hn : Zac n) (ht : Pw w) :
  Calls Tryz.prog 141 #[.int .i64 n] w fun e w' => e = .returned (.string ⟨(Lib.itoa n).toArray⟩) ∧ Below w.heap.size w w' := by
 go_enter Tryz.func141, Tryz.ntmps141
 go_wp2_with (go_at_call 168; refine (Tryz.strconv_Itoa n hn.1 hn.2 w ht).mono ?_; rintro e w' ⟨rfl, k, os, rfl⟩)
 go_ret;exact ⟨rfl, Lib.below_grow _ _ (Nat.le_refl _) _ _⟩
/-! ### What they compute -/
def Zq8 (n : Int) : ByteArray := ⟨(Lib.itoa n).toArray⟩
theorem Zkc {n : Int} (h : Zac n) : (Zq8 n).size ≤ 21 := by
 have := Zqr n h.1 h.2
 simpa [Zq8, ByteArray.size] using this
def csT (c : Zi6) : ByteArray := ⟨(Zcn c.low c.high 128).toArray⟩
theorem Zmx (c : Zi6) : (csT c).size ≤ 128 := by
 have := Zgt c.low c.high 128
 simpa [csT, ByteArray.size] using this
def Zeq (v : Zj) : Option ByteArray :=
 if v.kind = 1 then some (Zq8 v.aH) else if v.kind = 2 then some v.text else if v.kind = 3 then (if 120 < (csT v.set_).size then none else some (csT v.set_)) else none
def Zex : Option ByteArray → Value
 | some t => .tuple #[.string t, .bool true]
 | none => .tuple #[.string ⟨#[]⟩, .bool false]
def Zey (v : Zj) : Option Int := if v.kind = 1 then some v.aH else (Zeq v).bind iot
theorem Zkd {v : Zj} (hn : Zac v.aH) (ht : v.text.size ≤ maxLen) {t : ByteArray} (h : Zeq v = some t) : t.size ≤ maxLen := by
 unfold Zeq at h
 split at h
 ·cases h; have := Zkc hn; unfold maxLen; omega
 ·split at h
  ·cases h; exact ht
  ·split at h
   ·split at h
    ·cases h
    ·cases h; unfold maxLen; omega
   ·cases h
theorem Zdt {v : Zj} (hn : Zac v.aH) {n : Int} (h : Zey v = some n) : Zac n := by
 unfold Zey at h
 split at h
 ·cases h; exact hn
 ·cases ht : Zeq v with
  | none => rw [ht] at h; cases h
  | some t => rw [ht] at h; have := Zpp h; unfold Zac; omega
def plc (i n : Int) : Int := if 1 ≤ i ∧ i ≤ n then i - 1 else if i ≤ -1 ∧ -n ≤ i then n + i else -1
theorem Ze5 {i n : Int} (hn : 0 ≤ n) : -1 ≤ plc i n ∧ (plc i n < 0 ∨ plc i n < n) := by unfold plc; split <;> (try split) <;> omega
theorem Zfb (v : Zj) (cs : List Value) (F : Nat → Prop) (w : World) (h : Ze F w v cs) (ht : Pw w) :
  Calls Tryz.prog 92 #[.agg cs.toArray] w fun e w' => e = .returned (Zex (Zeq v)) ∧ Below w.heap.size w w' := by
 obtain ⟨rfl, _, hn, _, htx, _, _⟩ := h;have HB := zh ((Below.refl w.heap.size w).alloc (Nat.le_refl _) (.cells #[.int .i64 v.kind, .int .i64 v.aH, .int .i64 v.index, .string v.text, .int .i64 v.set_.low, .int .i64 v.set_.high] 34));obtain ⟨R, hR⟩ : ∃ R, Zeq v = R := ⟨_, rfl⟩;rw [hR];unfold Zeq at hR
 by_cases k1 : v.kind = 1
 ·rw [if_pos k1] at hR;subst hR;have t1 : (v.kind == 1) = true := by simp [k1]
  clear k1;go_enter Tryz.func92, Tryz.ntmps92;go_wp2_with fail;refine (Zig v.aH _ hn (ht.below HB.o)).mono ?_;rintro e w2 ⟨rfl, hb2⟩;have HB2 := zh (HB.o.trans (Below.mono hb2 HB.o.size));clear hb2;go_wp2_with fail
  go_ret2
  exact ⟨rfl, HB2.o⟩
 rw [if_neg k1] at hR;have t1 : (v.kind == 1) = false := by simp [k1]
 by_cases k2 : v.kind = 2
 ·rw [if_pos k2] at hR;subst hR;have t2 : (v.kind == 2) = true := by simp [k2]
  clear k1 k2;go_enter Tryz.func92, Tryz.ntmps92;go_wp2_with fail
  go_ret2
  exact ⟨rfl, HB.o⟩
 rw [if_neg k2] at hR;have t2 : (v.kind == 2) = false := by simp [k2]
 by_cases k3 : v.kind = 3
 ·rw [if_pos k3] at hR;have t3 : (v.kind == 3) = true := by simp [k3]
  clear k1 k2 k3;have HCT := zh (fun w => Ziy v.set_.low v.set_.high w);obtain ⟨t, hT⟩ : ∃ t, csT v.set_ = t := ⟨_, rfl⟩;have hts := Zmx v.set_;rw [hT] at hR hts;have HT := zh (show (⟨(Zcn v.set_.low v.set_.high 128).toArray⟩ : ByteArray) = t from hT);clear hT
  by_cases hbig : 120 < t.size
  ·rw [if_pos hbig] at hR;subst hR;have t4 : decide ((120 : Int) < t.size) = true := decide_eq_true (by omega);have t5 : decide ((t.size : Int) ≤ 120) = false := decide_eq_false (by omega);go_enter Tryz.func92, Tryz.ntmps92;go_wp2_with fail;refine (HCT.o _).mono ?_;rw [HT.o];rintro e w2 ⟨rfl, hb2⟩;have HB2 := zh (HB.o.trans (Below.mono hb2 HB.o.size));clear hb2;go_wp2_with fail
   go_ret2
   exact ⟨rfl, HB2.o⟩
  ·rw [if_neg hbig] at hR;subst hR;have t4 : decide ((120 : Int) < t.size) = false := decide_eq_false (by omega);have t5 : decide ((t.size : Int) ≤ 120) = true := decide_eq_true (by omega);go_enter Tryz.func92, Tryz.ntmps92;go_wp2_with fail;refine (HCT.o _).mono ?_;rw [HT.o];rintro e w2 ⟨rfl, hb2⟩;have HB2 := zh (HB.o.trans (Below.mono hb2 HB.o.size));clear hb2;go_wp2_with fail
   go_ret2
   exact ⟨rfl, HB2.o⟩
 ·rw [if_neg k3] at hR;subst hR;have t3 : (v.kind == 3) = false := by simp [k3]
  clear k1 k2;go_enter Tryz.func92, Tryz.ntmps92;go_wp2_with fail
  go_ret2
  exact ⟨rfl, HB.o⟩
theorem Zbm (v : Zj) (cs : List Value) (F : Nat → Prop) (w : World) (h : Ze F w v cs) (ht : Pw w) :
  Calls Tryz.prog 128 #[.agg cs.toArray] w fun e w' => e = .returned (Zcc (Zey v)) ∧ Below w.heap.size w w' := by
 have HTT := zh (fun x (hl : Za w x) => Zfb v cs F x (Zb.keep h (fun _ h => h) (Zc.later hl)) (ht.below hl));obtain ⟨rfl, _, hn, _, htx, _, _⟩ := h;have HB := zh ((Below.refl w.heap.size w).alloc (Nat.le_refl _) (.cells #[.int .i64 v.kind, .int .i64 v.aH, .int .i64 v.index, .string v.text, .int .i64 v.set_.low, .int .i64 v.set_.high] 34));have HSZ := zh (fun t => Zkd hn htx (t := t));obtain ⟨R, hR⟩ : ∃ R, Zey v = R := ⟨_, rfl⟩;rw [hR];unfold Zey at hR
 by_cases k1 : v.kind = 1
 ·rw [if_pos k1] at hR;subst hR;have t1 : (v.kind == 1) = true := by simp [k1]
  clear k1;go_enter Tryz.func128, Tryz.ntmps128;go_wp2_with fail
  go_ret2
  exact ⟨rfl, HB.o⟩
 rw [if_neg k1] at hR;have t1 : (v.kind == 1) = false := by simp [k1]
 obtain ⟨X, hX⟩ : ∃ X, Zeq v = X := ⟨_, rfl⟩;rw [hX] at hR HTT HSZ;clear hX k1
 cases X with
 | none =>
  subst hR;go_enter Tryz.func128, Tryz.ntmps128;go_wp2_with fail;refine (HTT.o _ ((Za.refl w).alloc (.cells #[.int .i64 v.kind, .int .i64 v.aH, .int .i64 v.index, .string v.text, .int .i64 v.set_.low, .int .i64 v.set_.high] 34))).mono ?_;rintro e w2 ⟨rfl, hb2⟩;have HB2 := zh (HB.o.trans (Below.mono hb2 HB.o.size));clear hb2;simp only [Zex];go_wp2_with fail
  go_ret2
  exact ⟨rfl, HB2.o⟩
 | some t =>
  have hts := HSZ.o t rfl;have HR := zh (show iot t = R from hR);clear hR;go_enter Tryz.func128, Tryz.ntmps128;go_wp2_with fail;refine (HTT.o _ ((Za.refl w).alloc (.cells #[.int .i64 v.kind, .int .i64 v.aH, .int .i64 v.index, .string v.text, .int .i64 v.set_.low, .int .i64 v.set_.high] 34))).mono ?_;rintro e w2 ⟨rfl, hb2⟩;have HB2 := zh (HB.o.trans (Below.mono hb2 HB.o.size));clear hb2;simp only [Zex];go_wp2_with fail;refine (Zgh t _ hts).mono ?_;rw [HR.o];rintro e w3 ⟨rfl, rfl⟩
  cases R with
  | none =>
   simp only [Zcc];go_wp2_with fail
   go_ret2
   exact ⟨rfl, HB2.o⟩
  | some n =>
   simp only [Zcc];go_wp2_with fail
   go_ret2
   exact ⟨rfl, HB2.o⟩
theorem Zc7 (i n : Int) (w : World) (hi : Zac i) (hn : 0 ≤ n) (hn1 : n ≤ 4611686018427387904) :
  Calls Tryz.prog 129 #[.int .i64 i, .int .i64 n] w fun e w' => e = .returned (.int .i64 (plc i n)) ∧ w' = w := by
 unfold Zac at hi;obtain ⟨R, hR⟩ : ∃ R, plc i n = R := ⟨_, rfl⟩;rw [hR];unfold plc at hR
 by_cases c1 : 1 ≤ i
 ·have t1 : decide (1 ≤ i) = true := decide_eq_true c1
  by_cases c2 : i ≤ n
  ·have t2 : decide (i ≤ n) = true := decide_eq_true c2;rw [if_pos ⟨c1, c2⟩] at hR;subst hR;go_enter Tryz.func129, Tryz.ntmps129;go_wp2_with fail;go_ret;exact ⟨rfl, rfl⟩
  ·have t2 : decide (i ≤ n) = false := decide_eq_false c2;have t3 : decide (i ≤ -1) = false := decide_eq_false (by omega);rw [if_neg (fun h => c2 h.2), if_neg (by omega)] at hR;subst hR;go_enter Tryz.func129, Tryz.ntmps129;go_wp2_with fail;go_ret;exact ⟨rfl, rfl⟩
 ·have t1 : decide (1 ≤ i) = false := decide_eq_false c1;rw [if_neg (fun h => c1 h.1)] at hR
  by_cases c3 : i ≤ -1
  ·have t3 : decide (i ≤ -1) = true := decide_eq_true c3
   by_cases c4 : -n ≤ i
   ·have t4 : decide (-n ≤ i) = true := decide_eq_true c4;rw [if_pos ⟨c3, c4⟩] at hR;subst hR;go_enter Tryz.func129, Tryz.ntmps129;go_wp2_with fail;go_ret;exact ⟨rfl, rfl⟩
   ·have t4 : decide (-n ≤ i) = false := decide_eq_false c4;rw [if_neg (fun h => c4 h.2)] at hR;subst hR;go_enter Tryz.func129, Tryz.ntmps129;go_wp2_with fail;go_ret;exact ⟨rfl, rfl⟩
  ·have t3 : decide (i ≤ -1) = false := decide_eq_false c3;rw [if_neg (fun h => c3 h.1)] at hR;subst hR;go_enter Tryz.func129, Tryz.ntmps129;go_wp2_with fail;go_ret;exact ⟨rfl, rfl⟩
theorem Zdg (v : Zj) (cs : List Value) (F : Nat → Prop) (w : World) (h : Ze F w v cs) :
  Calls Tryz.prog 96 #[.agg cs.toArray] w fun e w' => e = .returned (Zex (Zeq v)) ∧ Below w.heap.size w w' := by
 obtain ⟨rfl, _, hn, _, htx, _, _⟩ := h;have HB := zh ((Below.refl w.heap.size w).alloc (Nat.le_refl _) (.cells #[.int .i64 v.kind, .int .i64 v.aH, .int .i64 v.index, .string v.text, .int .i64 v.set_.low, .int .i64 v.set_.high] 34));obtain ⟨R, hR⟩ : ∃ R, Zeq v = R := ⟨_, rfl⟩;rw [hR];unfold Zeq at hR
 by_cases k1 : v.kind = 1
 ·rw [if_pos k1] at hR;subst hR;have t1 : (v.kind == 1) = true := by simp [k1]
  clear k1;go_enter Tryz.func96, Tryz.ntmps96;go_wp2_with fail;refine (Zic v.aH _ hn.1 hn.2).mono ?_;rintro e w2 ⟨rfl, hb2⟩;have HB2 := zh (HB.o.trans (Below.mono hb2 HB.o.size));clear hb2;go_wp2_with fail
  go_ret2
  exact ⟨rfl, HB2.o⟩
 rw [if_neg k1] at hR;have t1 : (v.kind == 1) = false := by simp [k1]
 by_cases k2 : v.kind = 2
 ·rw [if_pos k2] at hR;subst hR;have t2 : (v.kind == 2) = true := by simp [k2]
  clear k1 k2;go_enter Tryz.func96, Tryz.ntmps96;go_wp2_with fail
  go_ret2
  exact ⟨rfl, HB.o⟩
 rw [if_neg k2] at hR;have t2 : (v.kind == 2) = false := by simp [k2]
 by_cases k3 : v.kind = 3
 ·rw [if_pos k3] at hR;have t3 : (v.kind == 3) = true := by simp [k3]
  clear k1 k2 k3;have HCT := zh (fun w => Zix v.set_.low v.set_.high w);obtain ⟨t, hT⟩ : ∃ t, csT v.set_ = t := ⟨_, rfl⟩;have hts := Zmx v.set_;rw [hT] at hR hts;have HT := zh (show (⟨(Zcn v.set_.low v.set_.high 128).toArray⟩ : ByteArray) = t from hT);clear hT
  by_cases hbig : 120 < t.size
  ·rw [if_pos hbig] at hR;subst hR;have t4 : decide ((120 : Int) < t.size) = true := decide_eq_true (by omega);have t5 : decide ((t.size : Int) ≤ 120) = false := decide_eq_false (by omega);go_enter Tryz.func96, Tryz.ntmps96;go_wp2_with fail;refine (HCT.o _).mono ?_;rw [HT.o];rintro e w2 ⟨rfl, hb2⟩;have HB2 := zh (HB.o.trans (Below.mono hb2 HB.o.size));clear hb2;go_wp2_with fail
   go_ret2
   exact ⟨rfl, HB2.o⟩
  ·rw [if_neg hbig] at hR;subst hR;have t4 : decide ((120 : Int) < t.size) = false := decide_eq_false (by omega);have t5 : decide ((t.size : Int) ≤ 120) = true := decide_eq_true (by omega);go_enter Tryz.func96, Tryz.ntmps96;go_wp2_with fail;refine (HCT.o _).mono ?_;rw [HT.o];rintro e w2 ⟨rfl, hb2⟩;have HB2 := zh (HB.o.trans (Below.mono hb2 HB.o.size));clear hb2;go_wp2_with fail
   go_ret2
   exact ⟨rfl, HB2.o⟩
 ·rw [if_neg k3] at hR;subst hR;have t3 : (v.kind == 3) = false := by simp [k3]
  clear k1 k2;go_enter Tryz.func96, Tryz.ntmps96;go_wp2_with fail
  go_ret2
  exact ⟨rfl, HB.o⟩
theorem Zbr (v : Zj) (cs : List Value) (F : Nat → Prop) (w : World) (h : Ze F w v cs) :
  Calls Tryz.prog 126 #[.agg cs.toArray] w fun e w' => e = .returned (Zcc (Zey v)) ∧ Below w.heap.size w w' := by
 have HTT := zh (fun x (hl : Za w x) => Zdg v cs F x (Zb.keep h (fun _ h => h) (Zc.later hl)));obtain ⟨rfl, _, hn, _, htx, _, _⟩ := h;have HB := zh ((Below.refl w.heap.size w).alloc (Nat.le_refl _) (.cells #[.int .i64 v.kind, .int .i64 v.aH, .int .i64 v.index, .string v.text, .int .i64 v.set_.low, .int .i64 v.set_.high] 34));have HSZ := zh (fun t => Zkd hn htx (t := t));obtain ⟨R, hR⟩ : ∃ R, Zey v = R := ⟨_, rfl⟩;rw [hR];unfold Zey at hR
 by_cases k1 : v.kind = 1
 ·rw [if_pos k1] at hR;subst hR;have t1 : (v.kind == 1) = true := by simp [k1]
  clear k1;go_enter Tryz.func126, Tryz.ntmps126;go_wp2_with fail
  go_ret2
  exact ⟨rfl, HB.o⟩
 rw [if_neg k1] at hR;have t1 : (v.kind == 1) = false := by simp [k1]
 obtain ⟨X, hX⟩ : ∃ X, Zeq v = X := ⟨_, rfl⟩;rw [hX] at hR HTT HSZ;clear hX k1
 cases X with
 | none =>
  subst hR;go_enter Tryz.func126, Tryz.ntmps126;go_wp2_with fail;refine (HTT.o _ ((Za.refl w).alloc (.cells #[.int .i64 v.kind, .int .i64 v.aH, .int .i64 v.index, .string v.text, .int .i64 v.set_.low, .int .i64 v.set_.high] 34))).mono ?_;rintro e w2 ⟨rfl, hb2⟩;have HB2 := zh (HB.o.trans (Below.mono hb2 HB.o.size));clear hb2;simp only [Zex];go_wp2_with fail
  go_ret2
  exact ⟨rfl, HB2.o⟩
 | some t =>
  have hts := HSZ.o t rfl;have HR := zh (show iot t = R from hR);clear hR;go_enter Tryz.func126, Tryz.ntmps126;go_wp2_with fail;refine (HTT.o _ ((Za.refl w).alloc (.cells #[.int .i64 v.kind, .int .i64 v.aH, .int .i64 v.index, .string v.text, .int .i64 v.set_.low, .int .i64 v.set_.high] 34))).mono ?_;rintro e w2 ⟨rfl, hb2⟩;have HB2 := zh (HB.o.trans (Below.mono hb2 HB.o.size));clear hb2;simp only [Zex];go_wp2_with fail;refine (Zgi t _ hts).mono ?_;rw [HR.o];rintro e w3 ⟨rfl, rfl⟩
  cases R with
  | none =>
   simp only [Zcc];go_wp2_with fail
   go_ret2
   exact ⟨rfl, HB2.o⟩
  | some n =>
   simp only [Zcc];go_wp2_with fail
   go_ret2
   exact ⟨rfl, HB2.o⟩
theorem Zfr (i n : Int) (w : World) (hi : Zac i) (hn : 0 ≤ n) (hn1 : n ≤ 4611686018427387904) :
  Calls Tryz.prog 127 #[.int .i64 i, .int .i64 n] w fun e w' => e = .returned (.int .i64 (plc i n)) ∧ w' = w := by
 unfold Zac at hi;obtain ⟨R, hR⟩ : ∃ R, plc i n = R := ⟨_, rfl⟩;rw [hR];unfold plc at hR
 by_cases c1 : 1 ≤ i
 ·have t1 : decide (1 ≤ i) = true := decide_eq_true c1
  by_cases c2 : i ≤ n
  ·have t2 : decide (i ≤ n) = true := decide_eq_true c2;rw [if_pos ⟨c1, c2⟩] at hR;subst hR;go_enter Tryz.func127, Tryz.ntmps127;go_wp2_with fail;go_ret;exact ⟨rfl, rfl⟩
  ·have t2 : decide (i ≤ n) = false := decide_eq_false c2;have t3 : decide (i ≤ -1) = false := decide_eq_false (by omega);rw [if_neg (fun h => c2 h.2), if_neg (by omega)] at hR;subst hR;go_enter Tryz.func127, Tryz.ntmps127;go_wp2_with fail;go_ret;exact ⟨rfl, rfl⟩
 ·have t1 : decide (1 ≤ i) = false := decide_eq_false c1;rw [if_neg (fun h => c1 h.1)] at hR
  by_cases c3 : i ≤ -1
  ·have t3 : decide (i ≤ -1) = true := decide_eq_true c3
   by_cases c4 : -n ≤ i
   ·have t4 : decide (-n ≤ i) = true := decide_eq_true c4;rw [if_pos ⟨c3, c4⟩] at hR;subst hR;go_enter Tryz.func127, Tryz.ntmps127;go_wp2_with fail;go_ret;exact ⟨rfl, rfl⟩
   ·have t4 : decide (-n ≤ i) = false := decide_eq_false c4;rw [if_neg (fun h => c4 h.2)] at hR;subst hR;go_enter Tryz.func127, Tryz.ntmps127;go_wp2_with fail;go_ret;exact ⟨rfl, rfl⟩
  ·have t3 : decide (i ≤ -1) = false := decide_eq_false c3;rw [if_neg (fun h => c3 h.1)] at hR;subst hR;go_enter Tryz.func127, Tryz.ntmps127;go_wp2_with fail;go_ret;exact ⟨rfl, rfl⟩
theorem Zbc (r : Zh) (B : Nat) (cs : List Value) (F : Nat → Prop) (w : World) (n k : Int) (h : Zai F w B r cs) :
  Calls Tryz.prog 49 #[.pointer (some ⟨B, 0, none⟩), .int .i64 n, .int .i64 k] w fun e w' => e = .returned (.bool (Zb9 r n k)) ∧ w' = w := by
 obtain ⟨A, c, c2, hc, hcm, hrow⟩ := h.aA;unfold maxLen at hcm
 by_cases h0 : 0 ≤ n
 ·have t1 : decide (0 ≤ n) = true := decide_eq_true h0;obtain ⟨i, rfl⟩ : ∃ i : Nat, n = i := ⟨n.toNat, by omega⟩
  by_cases hlt : i < r.aA.length
  ·have hlt' : (i : Int) < r.aA.length := by omega
   have t2 : decide ((i : Int) < r.aA.length) = true := decide_eq_true hlt';obtain ⟨b, o, Ai, ci, Ak, ck, rfl, hb, e0, _⟩ := Zai.obj hrow hlt;rw [Ziq hlt];clear hrow h;go_enter Tryz.func49, Tryz.ntmps49;go_wp2_with fail;go_ret;exact ⟨rfl, rfl⟩
  ·have t2 : decide ((i : Int) < r.aA.length) = false := decide_eq_false (by omega);rw [Zeb (by omega)];clear hrow h;go_enter Tryz.func49, Tryz.ntmps49;go_wp2_with fail;go_ret;exact ⟨rfl, rfl⟩
 ·have t1 : decide (0 ≤ n) = false := decide_eq_false h0;rw [Zjx h0];clear hrow h;go_enter Tryz.func49, Tryz.ntmps49;go_wp2_with fail;go_ret;exact ⟨rfl, rfl⟩
theorem Zq9 (aH index low high : Int) (text : ByteArray) (w : World) :
  Calls Tryz.prog 108 #[.agg #[.int .i64 (0), .int .i64 aH, .int .i64 index, .string text, .int .i64 low, .int .i64 high]] w fun e w' => e = .returned (.bool (Zw ⟨0, aH, index, text, ⟨low, high⟩⟩)) ∧ Below w.heap.size w w' := by
 have HTS := zh (fun h => Z0 (t := text) h);obtain ⟨R, hR⟩ : ∃ R, Zw ⟨0, aH, index, text, ⟨low, high⟩⟩ = R := ⟨_, rfl⟩;rw [hR];have HR := zh hR;clear hR;go_enter Tryz.func108, Tryz.ntmps108;go_wp2_with fail
 all_goals go_ret
 all_goals (refine ⟨?_, (Below.refl _ _).alloc (Nat.le_refl _) _⟩; rw [← HR.o])
 all_goals first
  | (simp [Zw, *]; done)
  | (simp only [Zw]; simp [*]; omega)
  | (have h0 := HTS.o (by assumption); simp only [Zw]; simp [*] <;> omega)
theorem Zra (aH index low high : Int) (text : ByteArray) (w : World) :
  Calls Tryz.prog 108 #[.agg #[.int .i64 (1), .int .i64 aH, .int .i64 index, .string text, .int .i64 low, .int .i64 high]] w fun e w' => e = .returned (.bool (Zw ⟨1, aH, index, text, ⟨low, high⟩⟩)) ∧ Below w.heap.size w w' := by
 have HTS := zh (fun h => Z0 (t := text) h);obtain ⟨R, hR⟩ : ∃ R, Zw ⟨1, aH, index, text, ⟨low, high⟩⟩ = R := ⟨_, rfl⟩;rw [hR];have HR := zh hR;clear hR;go_enter Tryz.func108, Tryz.ntmps108;go_wp2_with fail
 all_goals go_ret
 all_goals (refine ⟨?_, (Below.refl _ _).alloc (Nat.le_refl _) _⟩; rw [← HR.o])
 all_goals first
  | (simp [Zw, *]; done)
  | (simp only [Zw]; simp [*]; omega)
  | (have h0 := HTS.o (by assumption); simp only [Zw]; simp [*] <;> omega)
theorem Zrb (aH index low high : Int) (text : ByteArray) (w : World) :
  Calls Tryz.prog 108 #[.agg #[.int .i64 (2), .int .i64 aH, .int .i64 index, .string text, .int .i64 low, .int .i64 high]] w fun e w' => e = .returned (.bool (Zw ⟨2, aH, index, text, ⟨low, high⟩⟩)) ∧ Below w.heap.size w w' := by
 have HTS := zh (fun h => Z0 (t := text) h);obtain ⟨R, hR⟩ : ∃ R, Zw ⟨2, aH, index, text, ⟨low, high⟩⟩ = R := ⟨_, rfl⟩;rw [hR];have HR := zh hR;clear hR;go_enter Tryz.func108, Tryz.ntmps108;go_wp2_with fail
 all_goals go_ret
 all_goals (refine ⟨?_, (Below.refl _ _).alloc (Nat.le_refl _) _⟩; rw [← HR.o])
 all_goals first
  | (simp [Zw, *]; done)
  | (simp only [Zw]; simp [*]; omega)
  | (have h0 := HTS.o (by assumption); simp only [Zw]; simp [*] <;> omega)
theorem Zrc (aH index low high : Int) (text : ByteArray) (w : World) :
  Calls Tryz.prog 108 #[.agg #[.int .i64 (3), .int .i64 aH, .int .i64 index, .string text, .int .i64 low, .int .i64 high]] w fun e w' => e = .returned (.bool (Zw ⟨3, aH, index, text, ⟨low, high⟩⟩)) ∧ Below w.heap.size w w' := by
 have HTS := zh (fun h => Z0 (t := text) h);obtain ⟨R, hR⟩ : ∃ R, Zw ⟨3, aH, index, text, ⟨low, high⟩⟩ = R := ⟨_, rfl⟩;rw [hR];have HR := zh hR;clear hR;go_enter Tryz.func108, Tryz.ntmps108;go_wp2_with fail
 all_goals go_ret
 all_goals (refine ⟨?_, (Below.refl _ _).alloc (Nat.le_refl _) _⟩; rw [← HR.o])
 all_goals first
  | (simp [Zw, *]; done)
  | (simp only [Zw]; simp [*]; omega)
  | (have h0 := HTS.o (by assumption); simp only [Zw]; simp [*] <;> omega)
theorem Zrd (aH index low high : Int) (text : ByteArray) (w : World) :
  Calls Tryz.prog 108 #[.agg #[.int .i64 (4), .int .i64 aH, .int .i64 index, .string text, .int .i64 low, .int .i64 high]] w fun e w' => e = .returned (.bool (Zw ⟨4, aH, index, text, ⟨low, high⟩⟩)) ∧ Below w.heap.size w w' := by
 have HTS := zh (fun h => Z0 (t := text) h);obtain ⟨R, hR⟩ : ∃ R, Zw ⟨4, aH, index, text, ⟨low, high⟩⟩ = R := ⟨_, rfl⟩;rw [hR];have HR := zh hR;clear hR;go_enter Tryz.func108, Tryz.ntmps108;go_wp2_with fail
 all_goals go_ret
 all_goals (refine ⟨?_, (Below.refl _ _).alloc (Nat.le_refl _) _⟩; rw [← HR.o])
 all_goals first
  | (simp [Zw, *]; done)
  | (simp only [Zw]; simp [*]; omega)
  | (have h0 := HTS.o (by assumption); simp only [Zw]; simp [*] <;> omega)
theorem Zre (aH index low high : Int) (text : ByteArray) (w : World) :
  Calls Tryz.prog 108 #[.agg #[.int .i64 (5), .int .i64 aH, .int .i64 index, .string text, .int .i64 low, .int .i64 high]] w fun e w' => e = .returned (.bool (Zw ⟨5, aH, index, text, ⟨low, high⟩⟩)) ∧ Below w.heap.size w w' := by
 have HTS := zh (fun h => Z0 (t := text) h);obtain ⟨R, hR⟩ : ∃ R, Zw ⟨5, aH, index, text, ⟨low, high⟩⟩ = R := ⟨_, rfl⟩;rw [hR];have HR := zh hR;clear hR;go_enter Tryz.func108, Tryz.ntmps108;go_wp2_with fail
 all_goals go_ret
 all_goals (refine ⟨?_, (Below.refl _ _).alloc (Nat.le_refl _) _⟩; rw [← HR.o])
 all_goals first
  | (simp [Zw, *]; done)
  | (simp only [Zw]; simp [*]; omega)
  | (have h0 := HTS.o (by assumption); simp only [Zw]; simp [*] <;> omega)
theorem Zrf (aH index low high : Int) (text : ByteArray) (w : World) :
  Calls Tryz.prog 108 #[.agg #[.int .i64 (6), .int .i64 aH, .int .i64 index, .string text, .int .i64 low, .int .i64 high]] w fun e w' => e = .returned (.bool (Zw ⟨6, aH, index, text, ⟨low, high⟩⟩)) ∧ Below w.heap.size w w' := by
 have HTS := zh (fun h => Z0 (t := text) h);obtain ⟨R, hR⟩ : ∃ R, Zw ⟨6, aH, index, text, ⟨low, high⟩⟩ = R := ⟨_, rfl⟩;rw [hR];have HR := zh hR;clear hR;go_enter Tryz.func108, Tryz.ntmps108;go_wp2_with fail
 all_goals go_ret
 all_goals (refine ⟨?_, (Below.refl _ _).alloc (Nat.le_refl _) _⟩; rw [← HR.o])
 all_goals first
  | (simp [Zw, *]; done)
  | (simp only [Zw]; simp [*]; omega)
  | (have h0 := HTS.o (by assumption); simp only [Zw]; simp [*] <;> omega)
theorem Zrg (aH index low high : Int) (text : ByteArray) (w : World) :
  Calls Tryz.prog 108 #[.agg #[.int .i64 (7), .int .i64 aH, .int .i64 index, .string text, .int .i64 low, .int .i64 high]] w fun e w' => e = .returned (.bool (Zw ⟨7, aH, index, text, ⟨low, high⟩⟩)) ∧ Below w.heap.size w w' := by
 have HTS := zh (fun h => Z0 (t := text) h);obtain ⟨R, hR⟩ : ∃ R, Zw ⟨7, aH, index, text, ⟨low, high⟩⟩ = R := ⟨_, rfl⟩;rw [hR];have HR := zh hR;clear hR;go_enter Tryz.func108, Tryz.ntmps108;go_wp2_with fail
 all_goals go_ret
 all_goals (refine ⟨?_, (Below.refl _ _).alloc (Nat.le_refl _) _⟩; rw [← HR.o])
 all_goals first
  | (simp [Zw, *]; done)
  | (simp only [Zw]; simp [*]; omega)
  | (have h0 := HTS.o (by assumption); simp only [Zw]; simp [*] <;> omega)
theorem Zrh (aH index low high : Int) (text : ByteArray) (w : World) :
  Calls Tryz.prog 108 #[.agg #[.int .i64 (8), .int .i64 aH, .int .i64 index, .string text, .int .i64 low, .int .i64 high]] w fun e w' => e = .returned (.bool (Zw ⟨8, aH, index, text, ⟨low, high⟩⟩)) ∧ Below w.heap.size w w' := by
 have HTS := zh (fun h => Z0 (t := text) h);obtain ⟨R, hR⟩ : ∃ R, Zw ⟨8, aH, index, text, ⟨low, high⟩⟩ = R := ⟨_, rfl⟩;rw [hR];have HR := zh hR;clear hR;go_enter Tryz.func108, Tryz.ntmps108;go_wp2_with fail
 all_goals go_ret
 all_goals (refine ⟨?_, (Below.refl _ _).alloc (Nat.le_refl _) _⟩; rw [← HR.o])
 all_goals first
  | (simp [Zw, *]; done)
  | (simp only [Zw]; simp [*]; omega)
  | (have h0 := HTS.o (by assumption); simp only [Zw]; simp [*] <;> omega)
theorem Zri (aH index low high : Int) (text : ByteArray) (w : World) :
  Calls Tryz.prog 108 #[.agg #[.int .i64 (9), .int .i64 aH, .int .i64 index, .string text, .int .i64 low, .int .i64 high]] w fun e w' => e = .returned (.bool (Zw ⟨9, aH, index, text, ⟨low, high⟩⟩)) ∧ Below w.heap.size w w' := by
 have HTS := zh (fun h => Z0 (t := text) h);obtain ⟨R, hR⟩ : ∃ R, Zw ⟨9, aH, index, text, ⟨low, high⟩⟩ = R := ⟨_, rfl⟩;rw [hR];have HR := zh hR;clear hR;go_enter Tryz.func108, Tryz.ntmps108;go_wp2_with fail
 all_goals go_ret
 all_goals (refine ⟨?_, (Below.refl _ _).alloc (Nat.le_refl _) _⟩; rw [← HR.o])
 all_goals first
  | (simp [Zw, *]; done)
  | (simp only [Zw]; simp [*]; omega)
  | (have h0 := HTS.o (by assumption); simp only [Zw]; simp [*] <;> omega)
theorem Zpq (aH index low high : Int) (text : ByteArray) (w : World) :
  Calls Tryz.prog 108 #[.agg #[.int .i64 (10), .int .i64 aH, .int .i64 index, .string text, .int .i64 low, .int .i64 high]] w fun e w' => e = .returned (.bool (Zw ⟨10, aH, index, text, ⟨low, high⟩⟩)) ∧ Below w.heap.size w w' := by
 have HTS := zh (fun h => Z0 (t := text) h);obtain ⟨R, hR⟩ : ∃ R, Zw ⟨10, aH, index, text, ⟨low, high⟩⟩ = R := ⟨_, rfl⟩;rw [hR];have HR := zh hR;clear hR;go_enter Tryz.func108, Tryz.ntmps108;go_wp2_with fail
 all_goals go_ret
 all_goals (refine ⟨?_, (Below.refl _ _).alloc (Nat.le_refl _) _⟩; rw [← HR.o])
 all_goals first
  | (simp [Zw, *]; done)
  | (simp only [Zw]; simp [*]; omega)
  | (have h0 := HTS.o (by assumption); simp only [Zw]; simp [*] <;> omega)
theorem Zpr (aH index low high : Int) (text : ByteArray) (w : World) :
  Calls Tryz.prog 108 #[.agg #[.int .i64 (11), .int .i64 aH, .int .i64 index, .string text, .int .i64 low, .int .i64 high]] w fun e w' => e = .returned (.bool (Zw ⟨11, aH, index, text, ⟨low, high⟩⟩)) ∧ Below w.heap.size w w' := by
 have HTS := zh (fun h => Z0 (t := text) h);obtain ⟨R, hR⟩ : ∃ R, Zw ⟨11, aH, index, text, ⟨low, high⟩⟩ = R := ⟨_, rfl⟩;rw [hR];have HR := zh hR;clear hR;go_enter Tryz.func108, Tryz.ntmps108;go_wp2_with fail
 all_goals go_ret
 all_goals (refine ⟨?_, (Below.refl _ _).alloc (Nat.le_refl _) _⟩; rw [← HR.o])
 all_goals first
  | (simp [Zw, *]; done)
  | (simp only [Zw]; simp [*]; omega)
  | (have h0 := HTS.o (by assumption); simp only [Zw]; simp [*] <;> omega)
theorem Zps (aH index low high : Int) (text : ByteArray) (w : World) :
  Calls Tryz.prog 108 #[.agg #[.int .i64 (12), .int .i64 aH, .int .i64 index, .string text, .int .i64 low, .int .i64 high]] w fun e w' => e = .returned (.bool (Zw ⟨12, aH, index, text, ⟨low, high⟩⟩)) ∧ Below w.heap.size w w' := by
 have HTS := zh (fun h => Z0 (t := text) h);obtain ⟨R, hR⟩ : ∃ R, Zw ⟨12, aH, index, text, ⟨low, high⟩⟩ = R := ⟨_, rfl⟩;rw [hR];have HR := zh hR;clear hR;go_enter Tryz.func108, Tryz.ntmps108;go_wp2_with fail
 all_goals go_ret
 all_goals (refine ⟨?_, (Below.refl _ _).alloc (Nat.le_refl _) _⟩; rw [← HR.o])
 all_goals first
  | (simp [Zw, *]; done)
  | (simp only [Zw]; simp [*]; omega)
  | (have h0 := HTS.o (by assumption); simp only [Zw]; simp [*] <;> omega)
theorem Zpt (aH index low high : Int) (text : ByteArray) (w : World) :
  Calls Tryz.prog 108 #[.agg #[.int .i64 (13), .int .i64 aH, .int .i64 index, .string text, .int .i64 low, .int .i64 high]] w fun e w' => e = .returned (.bool (Zw ⟨13, aH, index, text, ⟨low, high⟩⟩)) ∧ Below w.heap.size w w' := by
 have HTS := zh (fun h => Z0 (t := text) h);obtain ⟨R, hR⟩ : ∃ R, Zw ⟨13, aH, index, text, ⟨low, high⟩⟩ = R := ⟨_, rfl⟩;rw [hR];have HR := zh hR;clear hR;go_enter Tryz.func108, Tryz.ntmps108;go_wp2_with fail
 all_goals go_ret
 all_goals (refine ⟨?_, (Below.refl _ _).alloc (Nat.le_refl _) _⟩; rw [← HR.o])
 all_goals first
  | (simp [Zw, *]; done)
  | (simp only [Zw]; simp [*]; omega)
  | (have h0 := HTS.o (by assumption); simp only [Zw]; simp [*] <;> omega)
theorem Zpu (aH index low high : Int) (text : ByteArray) (w : World) :
  Calls Tryz.prog 108 #[.agg #[.int .i64 (14), .int .i64 aH, .int .i64 index, .string text, .int .i64 low, .int .i64 high]] w fun e w' => e = .returned (.bool (Zw ⟨14, aH, index, text, ⟨low, high⟩⟩)) ∧ Below w.heap.size w w' := by
 have HTS := zh (fun h => Z0 (t := text) h);obtain ⟨R, hR⟩ : ∃ R, Zw ⟨14, aH, index, text, ⟨low, high⟩⟩ = R := ⟨_, rfl⟩;rw [hR];have HR := zh hR;clear hR;go_enter Tryz.func108, Tryz.ntmps108;go_wp2_with fail
 all_goals go_ret
 all_goals (refine ⟨?_, (Below.refl _ _).alloc (Nat.le_refl _) _⟩; rw [← HR.o])
 all_goals first
  | (simp [Zw, *]; done)
  | (simp only [Zw]; simp [*]; omega)
  | (have h0 := HTS.o (by assumption); simp only [Zw]; simp [*] <;> omega)
theorem Zpv (aH index low high : Int) (text : ByteArray) (w : World) :
  Calls Tryz.prog 108 #[.agg #[.int .i64 (15), .int .i64 aH, .int .i64 index, .string text, .int .i64 low, .int .i64 high]] w fun e w' => e = .returned (.bool (Zw ⟨15, aH, index, text, ⟨low, high⟩⟩)) ∧ Below w.heap.size w w' := by
 have HTS := zh (fun h => Z0 (t := text) h);obtain ⟨R, hR⟩ : ∃ R, Zw ⟨15, aH, index, text, ⟨low, high⟩⟩ = R := ⟨_, rfl⟩;rw [hR];have HR := zh hR;clear hR;go_enter Tryz.func108, Tryz.ntmps108;go_wp2_with fail
 all_goals go_ret
 all_goals (refine ⟨?_, (Below.refl _ _).alloc (Nat.le_refl _) _⟩; rw [← HR.o])
 all_goals first
  | (simp [Zw, *]; done)
  | (simp only [Zw]; simp [*]; omega)
  | (have h0 := HTS.o (by assumption); simp only [Zw]; simp [*] <;> omega)
theorem Zpw (aH index low high : Int) (text : ByteArray) (w : World) :
  Calls Tryz.prog 108 #[.agg #[.int .i64 (16), .int .i64 aH, .int .i64 index, .string text, .int .i64 low, .int .i64 high]] w fun e w' => e = .returned (.bool (Zw ⟨16, aH, index, text, ⟨low, high⟩⟩)) ∧ Below w.heap.size w w' := by
 have HTS := zh (fun h => Z0 (t := text) h);obtain ⟨R, hR⟩ : ∃ R, Zw ⟨16, aH, index, text, ⟨low, high⟩⟩ = R := ⟨_, rfl⟩;rw [hR];have HR := zh hR;clear hR;go_enter Tryz.func108, Tryz.ntmps108;go_wp2_with fail
 all_goals go_ret
 all_goals (refine ⟨?_, (Below.refl _ _).alloc (Nat.le_refl _) _⟩; rw [← HR.o])
 all_goals first
  | (simp [Zw, *]; done)
  | (simp only [Zw]; simp [*]; omega)
  | (have h0 := HTS.o (by assumption); simp only [Zw]; simp [*] <;> omega)
theorem Zpx (aH index low high : Int) (text : ByteArray) (w : World) :
  Calls Tryz.prog 108 #[.agg #[.int .i64 (17), .int .i64 aH, .int .i64 index, .string text, .int .i64 low, .int .i64 high]] w fun e w' => e = .returned (.bool (Zw ⟨17, aH, index, text, ⟨low, high⟩⟩)) ∧ Below w.heap.size w w' := by
 have HTS := zh (fun h => Z0 (t := text) h);obtain ⟨R, hR⟩ : ∃ R, Zw ⟨17, aH, index, text, ⟨low, high⟩⟩ = R := ⟨_, rfl⟩;rw [hR];have HR := zh hR;clear hR;go_enter Tryz.func108, Tryz.ntmps108;go_wp2_with fail
 all_goals go_ret
 all_goals (refine ⟨?_, (Below.refl _ _).alloc (Nat.le_refl _) _⟩; rw [← HR.o])
 all_goals first
  | (simp [Zw, *]; done)
  | (simp only [Zw]; simp [*]; omega)
  | (have h0 := HTS.o (by assumption); simp only [Zw]; simp [*] <;> omega)
theorem Zpy (aH index low high : Int) (text : ByteArray) (w : World) :
  Calls Tryz.prog 108 #[.agg #[.int .i64 (18), .int .i64 aH, .int .i64 index, .string text, .int .i64 low, .int .i64 high]] w fun e w' => e = .returned (.bool (Zw ⟨18, aH, index, text, ⟨low, high⟩⟩)) ∧ Below w.heap.size w w' := by
 have HTS := zh (fun h => Z0 (t := text) h);obtain ⟨R, hR⟩ : ∃ R, Zw ⟨18, aH, index, text, ⟨low, high⟩⟩ = R := ⟨_, rfl⟩;rw [hR];have HR := zh hR;clear hR;go_enter Tryz.func108, Tryz.ntmps108;go_wp2_with fail
 all_goals go_ret
 all_goals (refine ⟨?_, (Below.refl _ _).alloc (Nat.le_refl _) _⟩; rw [← HR.o])
 all_goals first
  | (simp [Zw, *]; done)
  | (simp only [Zw]; simp [*]; omega)
  | (have h0 := HTS.o (by assumption); simp only [Zw]; simp [*] <;> omega)
theorem Zpz (aH index low high : Int) (text : ByteArray) (w : World) :
  Calls Tryz.prog 108 #[.agg #[.int .i64 (19), .int .i64 aH, .int .i64 index, .string text, .int .i64 low, .int .i64 high]] w fun e w' => e = .returned (.bool (Zw ⟨19, aH, index, text, ⟨low, high⟩⟩)) ∧ Below w.heap.size w w' := by
 have HTS := zh (fun h => Z0 (t := text) h);obtain ⟨R, hR⟩ : ∃ R, Zw ⟨19, aH, index, text, ⟨low, high⟩⟩ = R := ⟨_, rfl⟩;rw [hR];have HR := zh hR;clear hR;go_enter Tryz.func108, Tryz.ntmps108;go_wp2_with fail
 all_goals go_ret
 all_goals (refine ⟨?_, (Below.refl _ _).alloc (Nat.le_refl _) _⟩; rw [← HR.o])
 all_goals first
  | (simp [Zw, *]; done)
  | (simp only [Zw]; simp [*]; omega)
  | (have h0 := HTS.o (by assumption); simp only [Zw]; simp [*] <;> omega)
theorem Zp0 (aH index low high : Int) (text : ByteArray) (w : World) :
  Calls Tryz.prog 108 #[.agg #[.int .i64 (20), .int .i64 aH, .int .i64 index, .string text, .int .i64 low, .int .i64 high]] w fun e w' => e = .returned (.bool (Zw ⟨20, aH, index, text, ⟨low, high⟩⟩)) ∧ Below w.heap.size w w' := by
 have HTS := zh (fun h => Z0 (t := text) h);obtain ⟨R, hR⟩ : ∃ R, Zw ⟨20, aH, index, text, ⟨low, high⟩⟩ = R := ⟨_, rfl⟩;rw [hR];have HR := zh hR;clear hR;go_enter Tryz.func108, Tryz.ntmps108;go_wp2_with fail
 all_goals go_ret
 all_goals (refine ⟨?_, (Below.refl _ _).alloc (Nat.le_refl _) _⟩; rw [← HR.o])
 all_goals first
  | (simp [Zw, *]; done)
  | (simp only [Zw]; simp [*]; omega)
  | (have h0 := HTS.o (by assumption); simp only [Zw]; simp [*] <;> omega)
theorem Zok (kind aH index low high : Int) (text : ByteArray) (w : World) (hk : kind < 0) :
  Calls Tryz.prog 108 #[.agg #[.int .i64 (kind), .int .i64 aH, .int .i64 index, .string text, .int .i64 low, .int .i64 high]] w fun e w' => e = .returned (.bool (Zw ⟨kind, aH, index, text, ⟨low, high⟩⟩)) ∧ Below w.heap.size w w' := by
 have HTS := zh (fun h => Z0 (t := text) h);obtain ⟨R, hR⟩ : ∃ R, Zw ⟨kind, aH, index, text, ⟨low, high⟩⟩ = R := ⟨_, rfl⟩;rw [hR];have HR := zh hR;clear hR;have t0 : (kind == 0) = false := by rw [nH]; omega
 have t1 : (kind == 1) = false := by rw [nH]; omega
 have t2 : (kind == 2) = false := by rw [nH]; omega
 have t3 : (kind == 3) = false := by rw [nH]; omega
 have t4 : (kind == 4) = false := by rw [nH]; omega
 have t5 : (kind == 5) = false := by rw [nH]; omega
 have t6 : (kind == 6) = false := by rw [nH]; omega
 have t7 : (kind == 7) = false := by rw [nH]; omega
 have t8 : (kind == 8) = false := by rw [nH]; omega
 have t9 : (kind == 9) = false := by rw [nH]; omega
 have t10 : (kind == 10) = false := by rw [nH]; omega
 have t11 : (kind == 11) = false := by rw [nH]; omega
 have t12 : (kind == 12) = false := by rw [nH]; omega
 have t13 : (kind == 13) = false := by rw [nH]; omega
 have t14 : (kind == 14) = false := by rw [nH]; omega
 have t15 : (kind == 15) = false := by rw [nH]; omega
 have t16 : (kind == 16) = false := by rw [nH]; omega
 have t17 : (kind == 17) = false := by rw [nH]; omega
 have t18 : (kind == 18) = false := by rw [nH]; omega
 have t19 : (kind == 19) = false := by rw [nH]; omega
 have t20 : (kind == 20) = false := by rw [nH]; omega
 have HK := zh (show kind < 0 ∨ 20 < kind by omega);have s1 : decide (kind < 0) = true := by simp; omega
 have s2 : decide ((20 : Int) < kind) = false := by simp; omega
 clear hk;go_enter Tryz.func108, Tryz.ntmps108;go_wp2_with fail
 all_goals go_ret
 all_goals (refine ⟨?_, (Below.refl _ _).alloc (Nat.le_refl _) _⟩; rw [← HR.o])
 all_goals first
  | (simp [Zw, *]; done)
  | (have h0 := HK.o; simp only [Zw]; rw [if_neg (by omega), if_neg (by omega), if_neg (by omega), if_neg (by omega), if_neg (by omega), if_neg (by omega), if_neg (by omega), if_neg (by omega)]; first | done | rfl | simp)
theorem Zol (kind aH index low high : Int) (text : ByteArray) (w : World) (hk : 20 < kind) :
  Calls Tryz.prog 108 #[.agg #[.int .i64 (kind), .int .i64 aH, .int .i64 index, .string text, .int .i64 low, .int .i64 high]] w fun e w' => e = .returned (.bool (Zw ⟨kind, aH, index, text, ⟨low, high⟩⟩)) ∧ Below w.heap.size w w' := by
 have HTS := zh (fun h => Z0 (t := text) h);obtain ⟨R, hR⟩ : ∃ R, Zw ⟨kind, aH, index, text, ⟨low, high⟩⟩ = R := ⟨_, rfl⟩;rw [hR];have HR := zh hR;clear hR;have t0 : (kind == 0) = false := by rw [nH]; omega
 have t1 : (kind == 1) = false := by rw [nH]; omega
 have t2 : (kind == 2) = false := by rw [nH]; omega
 have t3 : (kind == 3) = false := by rw [nH]; omega
 have t4 : (kind == 4) = false := by rw [nH]; omega
 have t5 : (kind == 5) = false := by rw [nH]; omega
 have t6 : (kind == 6) = false := by rw [nH]; omega
 have t7 : (kind == 7) = false := by rw [nH]; omega
 have t8 : (kind == 8) = false := by rw [nH]; omega
 have t9 : (kind == 9) = false := by rw [nH]; omega
 have t10 : (kind == 10) = false := by rw [nH]; omega
 have t11 : (kind == 11) = false := by rw [nH]; omega
 have t12 : (kind == 12) = false := by rw [nH]; omega
 have t13 : (kind == 13) = false := by rw [nH]; omega
 have t14 : (kind == 14) = false := by rw [nH]; omega
 have t15 : (kind == 15) = false := by rw [nH]; omega
 have t16 : (kind == 16) = false := by rw [nH]; omega
 have t17 : (kind == 17) = false := by rw [nH]; omega
 have t18 : (kind == 18) = false := by rw [nH]; omega
 have t19 : (kind == 19) = false := by rw [nH]; omega
 have t20 : (kind == 20) = false := by rw [nH]; omega
 have HK := zh (show kind < 0 ∨ 20 < kind by omega);have s1 : decide (kind < 0) = false := by simp; omega
 have s2 : decide ((20 : Int) < kind) = true := by simp; omega
 clear hk;go_enter Tryz.func108, Tryz.ntmps108;go_wp2_with fail
 all_goals go_ret
 all_goals (refine ⟨?_, (Below.refl _ _).alloc (Nat.le_refl _) _⟩; rw [← HR.o])
 all_goals first
  | (simp [Zw, *]; done)
  | (have h0 := HK.o; simp only [Zw]; rw [if_neg (by omega), if_neg (by omega), if_neg (by omega), if_neg (by omega), if_neg (by omega), if_neg (by omega), if_neg (by omega), if_neg (by omega)]; first | done | rfl | simp)
theorem Z1 (v : Zj) (cs : List Value) (F : Nat → Prop) (w : World) (h : Ze F w v cs) :
  Calls Tryz.prog 108 #[.agg cs.toArray] w fun e w' => e = .returned (.bool (Zw v)) ∧ Below w.heap.size w w' := by
 obtain ⟨rfl, _⟩ := h;obtain ⟨kind, aH, index, text, low, high⟩ := v;have hk : kind = 0 ∨ kind = 1 ∨ kind = 2 ∨ kind = 3 ∨ kind = 4 ∨ kind = 5 ∨ kind = 6 ∨ kind = 7 ∨ kind = 8 ∨ kind = 9 ∨ kind = 10 ∨ kind = 11 ∨ kind = 12 ∨ kind = 13 ∨ kind = 14 ∨ kind = 15 ∨ kind = 16 ∨ kind = 17 ∨ kind = 18 ∨ kind = 19 ∨ kind = 20 ∨ kind < 0 ∨ 20 < kind := by omega
 rcases hk with rfl | rfl | rfl | rfl | rfl | rfl | rfl | rfl | rfl | rfl | rfl | rfl | rfl | rfl | rfl | rfl | rfl | rfl | rfl | rfl | rfl | hk
 ·exact Zq9 aH index low high text w
 ·exact Zra aH index low high text w
 ·exact Zrb aH index low high text w
 ·exact Zrc aH index low high text w
 ·exact Zrd aH index low high text w
 ·exact Zre aH index low high text w
 ·exact Zrf aH index low high text w
 ·exact Zrg aH index low high text w
 ·exact Zrh aH index low high text w
 ·exact Zri aH index low high text w
 ·exact Zpq aH index low high text w
 ·exact Zpr aH index low high text w
 ·exact Zps aH index low high text w
 ·exact Zpt aH index low high text w
 ·exact Zpu aH index low high text w
 ·exact Zpv aH index low high text w
 ·exact Zpw aH index low high text w
 ·exact Zpx aH index low high text w
 ·exact Zpy aH index low high text w
 ·exact Zpz aH index low high text w
 ·exact Zp0 aH index low high text w
 ·rcases hk with hk | hk
  ·exact Zok kind aH index low high text w hk
  ·exact Zol kind aH index low high text w hk
end Go.Proofs.YtpmhelkiicigfaaGreatDoor
namespace Go.Proofs.YtpmhelkiicigfaaGreatDoor
open Go.RowKit
variable {P : Program} {ops : Array Oper} {Q : Exit → Act → World → Prop}
end Go.Proofs.YtpmhelkiicigfaaGreatDoor
namespace Go.Proofs.YtpmhelkiicigfaaGreatDoor
open Go.RowKit
theorem Zsu (r : Zh) (B : Nat) (cs : List Value) (F : Nat → Prop) (w : World) (aH index low high : Int) (text : ByteArray) (h : Zai F w B r cs) (hv : Ze F w ⟨0, aH, index, text, ⟨low, high⟩⟩ [.int .i64 0, .int .i64 aH, .int .i64 index, .string text, .int .i64 low, .int .i64 high]) :
  Calls Tryz.prog 52 #[.pointer (some ⟨B, 0, none⟩), .agg #[.int .i64 0, .int .i64 aH, .int .i64 index, .string text, .int .i64 low, .int .i64 high]] w fun e w' => e = .returned (.bool (Zz r ⟨0, aH, index, text, ⟨low, high⟩⟩)) ∧ Below w.heap.size w w' := by
 have HWF := zh (fun x => Z1 ⟨0, aH, index, text, ⟨low, high⟩⟩ _ F x (show Ze F x _ _ from hv));have hin : Zac aH ∧ Zac index := ⟨hv.2.2.1, hv.2.2.2.1⟩;have HST := zh (h.later ((Za.refl w).alloc (.cells #[.int .i64 0, .int .i64 aH, .int .i64 index, .string text, .int .i64 low, .int .i64 high] 34)));have HM := zh (heap_alloc_new w (.cells #[.int .i64 0, .int .i64 aH, .int .i64 index, .string text, .int .i64 low, .int .i64 high] 34));have HB := zh ((Below.refl w.heap.size w).alloc (Nat.le_refl _) (.cells #[.int .i64 0, .int .i64 aH, .int .i64 index, .string text, .int .i64 low, .int .i64 high] 34));obtain ⟨p, hp⟩ : ∃ p, Zw ⟨0, aH, index, text, ⟨low, high⟩⟩ = p := ⟨_, rfl⟩;obtain ⟨R, hR⟩ : ∃ R, Zz r ⟨0, aH, index, text, ⟨low, high⟩⟩ = R := ⟨_, rfl⟩;rw [hR];rw [hp] at HWF;unfold Zz at hR;rw [hp] at hR;clear h hv;have HP := zh hp;clear hp
 cases p with
 | false =>
  have HR := zh (show R = false from hR.symm);clear hR;go_enter Tryz.func52, Tryz.ntmps52;go_wp2_with fail;refine (HWF.o _).mono ?_;rintro e w2 ⟨rfl, hb2⟩;have HB2 := zh (HB.o.trans (Below.mono hb2 HB.o.size));clear hb2;go_wp2_with fail;go_ret;exact ⟨Z9 HR.o.symm, HB2.o⟩
 | true =>
  rw [Bool.true_and] at hR;have HR := zh (show R = true from by rw [← hR]; simp [Zcb, Zcf]);clear hR;go_enter Tryz.func52, Tryz.ntmps52;go_wp2_with fail;refine (HWF.o _).mono ?_;rintro e w2 ⟨rfl, hb2⟩;replace HST := zh (HST.o.later hb2);replace HM := zC hb2 HM;replace HB := zh (HB.o.trans (Below.mono hb2 HB.o.size));clear hb2;have m0 := cz3 HM.o;go_wp2_with fail;go_ret;exact ⟨Z9 HR.o.symm, HB.o⟩
theorem Zsv (r : Zh) (B : Nat) (cs : List Value) (F : Nat → Prop) (w : World) (aH index low high : Int) (text : ByteArray) (h : Zai F w B r cs) (hv : Ze F w ⟨1, aH, index, text, ⟨low, high⟩⟩ [.int .i64 1, .int .i64 aH, .int .i64 index, .string text, .int .i64 low, .int .i64 high]) :
  Calls Tryz.prog 52 #[.pointer (some ⟨B, 0, none⟩), .agg #[.int .i64 1, .int .i64 aH, .int .i64 index, .string text, .int .i64 low, .int .i64 high]] w fun e w' => e = .returned (.bool (Zz r ⟨1, aH, index, text, ⟨low, high⟩⟩)) ∧ Below w.heap.size w w' := by
 have HWF := zh (fun x => Z1 ⟨1, aH, index, text, ⟨low, high⟩⟩ _ F x (show Ze F x _ _ from hv));have hin : Zac aH ∧ Zac index := ⟨hv.2.2.1, hv.2.2.2.1⟩;have HST := zh (h.later ((Za.refl w).alloc (.cells #[.int .i64 1, .int .i64 aH, .int .i64 index, .string text, .int .i64 low, .int .i64 high] 34)));have HM := zh (heap_alloc_new w (.cells #[.int .i64 1, .int .i64 aH, .int .i64 index, .string text, .int .i64 low, .int .i64 high] 34));have HB := zh ((Below.refl w.heap.size w).alloc (Nat.le_refl _) (.cells #[.int .i64 1, .int .i64 aH, .int .i64 index, .string text, .int .i64 low, .int .i64 high] 34));obtain ⟨p, hp⟩ : ∃ p, Zw ⟨1, aH, index, text, ⟨low, high⟩⟩ = p := ⟨_, rfl⟩;obtain ⟨R, hR⟩ : ∃ R, Zz r ⟨1, aH, index, text, ⟨low, high⟩⟩ = R := ⟨_, rfl⟩;rw [hR];rw [hp] at HWF;unfold Zz at hR;rw [hp] at hR;clear h hv;have HP := zh hp;clear hp
 cases p with
 | false =>
  have HR := zh (show R = false from hR.symm);clear hR;go_enter Tryz.func52, Tryz.ntmps52;go_wp2_with fail;refine (HWF.o _).mono ?_;rintro e w2 ⟨rfl, hb2⟩;have HB2 := zh (HB.o.trans (Below.mono hb2 HB.o.size));clear hb2;go_wp2_with fail;go_ret;exact ⟨Z9 HR.o.symm, HB2.o⟩
 | true =>
  rw [Bool.true_and] at hR;have HR := zh (show R = true from by rw [← hR]; simp [Zcb, Zcf]);clear hR;go_enter Tryz.func52, Tryz.ntmps52;go_wp2_with fail;refine (HWF.o _).mono ?_;rintro e w2 ⟨rfl, hb2⟩;replace HST := zh (HST.o.later hb2);replace HM := zC hb2 HM;replace HB := zh (HB.o.trans (Below.mono hb2 HB.o.size));clear hb2;have m0 := cz3 HM.o;go_wp2_with fail;go_ret;exact ⟨Z9 HR.o.symm, HB.o⟩
theorem Zsw (r : Zh) (B : Nat) (cs : List Value) (F : Nat → Prop) (w : World) (aH index low high : Int) (text : ByteArray) (h : Zai F w B r cs) (hv : Ze F w ⟨2, aH, index, text, ⟨low, high⟩⟩ [.int .i64 2, .int .i64 aH, .int .i64 index, .string text, .int .i64 low, .int .i64 high]) :
  Calls Tryz.prog 52 #[.pointer (some ⟨B, 0, none⟩), .agg #[.int .i64 2, .int .i64 aH, .int .i64 index, .string text, .int .i64 low, .int .i64 high]] w fun e w' => e = .returned (.bool (Zz r ⟨2, aH, index, text, ⟨low, high⟩⟩)) ∧ Below w.heap.size w w' := by
 have HWF := zh (fun x => Z1 ⟨2, aH, index, text, ⟨low, high⟩⟩ _ F x (show Ze F x _ _ from hv));have hin : Zac aH ∧ Zac index := ⟨hv.2.2.1, hv.2.2.2.1⟩;have HST := zh (h.later ((Za.refl w).alloc (.cells #[.int .i64 2, .int .i64 aH, .int .i64 index, .string text, .int .i64 low, .int .i64 high] 34)));have HM := zh (heap_alloc_new w (.cells #[.int .i64 2, .int .i64 aH, .int .i64 index, .string text, .int .i64 low, .int .i64 high] 34));have HB := zh ((Below.refl w.heap.size w).alloc (Nat.le_refl _) (.cells #[.int .i64 2, .int .i64 aH, .int .i64 index, .string text, .int .i64 low, .int .i64 high] 34));obtain ⟨p, hp⟩ : ∃ p, Zw ⟨2, aH, index, text, ⟨low, high⟩⟩ = p := ⟨_, rfl⟩;obtain ⟨R, hR⟩ : ∃ R, Zz r ⟨2, aH, index, text, ⟨low, high⟩⟩ = R := ⟨_, rfl⟩;rw [hR];rw [hp] at HWF;unfold Zz at hR;rw [hp] at hR;clear h hv;have HP := zh hp;clear hp
 cases p with
 | false =>
  have HR := zh (show R = false from hR.symm);clear hR;go_enter Tryz.func52, Tryz.ntmps52;go_wp2_with fail;refine (HWF.o _).mono ?_;rintro e w2 ⟨rfl, hb2⟩;have HB2 := zh (HB.o.trans (Below.mono hb2 HB.o.size));clear hb2;go_wp2_with fail;go_ret;exact ⟨Z9 HR.o.symm, HB2.o⟩
 | true =>
  rw [Bool.true_and] at hR;have HR := zh (show R = true from by rw [← hR]; simp [Zcb, Zcf]);clear hR;go_enter Tryz.func52, Tryz.ntmps52;go_wp2_with fail;refine (HWF.o _).mono ?_;rintro e w2 ⟨rfl, hb2⟩;replace HST := zh (HST.o.later hb2);replace HM := zC hb2 HM;replace HB := zh (HB.o.trans (Below.mono hb2 HB.o.size));clear hb2;have m0 := cz3 HM.o;go_wp2_with fail;go_ret;exact ⟨Z9 HR.o.symm, HB.o⟩
theorem Zsx (r : Zh) (B : Nat) (cs : List Value) (F : Nat → Prop) (w : World) (aH index low high : Int) (text : ByteArray) (h : Zai F w B r cs) (hv : Ze F w ⟨3, aH, index, text, ⟨low, high⟩⟩ [.int .i64 3, .int .i64 aH, .int .i64 index, .string text, .int .i64 low, .int .i64 high]) :
  Calls Tryz.prog 52 #[.pointer (some ⟨B, 0, none⟩), .agg #[.int .i64 3, .int .i64 aH, .int .i64 index, .string text, .int .i64 low, .int .i64 high]] w fun e w' => e = .returned (.bool (Zz r ⟨3, aH, index, text, ⟨low, high⟩⟩)) ∧ Below w.heap.size w w' := by
 have HWF := zh (fun x => Z1 ⟨3, aH, index, text, ⟨low, high⟩⟩ _ F x (show Ze F x _ _ from hv));have hin : Zac aH ∧ Zac index := ⟨hv.2.2.1, hv.2.2.2.1⟩;have HST := zh (h.later ((Za.refl w).alloc (.cells #[.int .i64 3, .int .i64 aH, .int .i64 index, .string text, .int .i64 low, .int .i64 high] 34)));have HM := zh (heap_alloc_new w (.cells #[.int .i64 3, .int .i64 aH, .int .i64 index, .string text, .int .i64 low, .int .i64 high] 34));have HB := zh ((Below.refl w.heap.size w).alloc (Nat.le_refl _) (.cells #[.int .i64 3, .int .i64 aH, .int .i64 index, .string text, .int .i64 low, .int .i64 high] 34));obtain ⟨p, hp⟩ : ∃ p, Zw ⟨3, aH, index, text, ⟨low, high⟩⟩ = p := ⟨_, rfl⟩;obtain ⟨R, hR⟩ : ∃ R, Zz r ⟨3, aH, index, text, ⟨low, high⟩⟩ = R := ⟨_, rfl⟩;rw [hR];rw [hp] at HWF;unfold Zz at hR;rw [hp] at hR;clear h hv;have HP := zh hp;clear hp
 cases p with
 | false =>
  have HR := zh (show R = false from hR.symm);clear hR;go_enter Tryz.func52, Tryz.ntmps52;go_wp2_with fail;refine (HWF.o _).mono ?_;rintro e w2 ⟨rfl, hb2⟩;have HB2 := zh (HB.o.trans (Below.mono hb2 HB.o.size));clear hb2;go_wp2_with fail;go_ret;exact ⟨Z9 HR.o.symm, HB2.o⟩
 | true =>
  rw [Bool.true_and] at hR;have HR := zh (show R = true from by rw [← hR]; simp [Zcb, Zcf]);clear hR;go_enter Tryz.func52, Tryz.ntmps52;go_wp2_with fail;refine (HWF.o _).mono ?_;rintro e w2 ⟨rfl, hb2⟩;replace HST := zh (HST.o.later hb2);replace HM := zC hb2 HM;replace HB := zh (HB.o.trans (Below.mono hb2 HB.o.size));clear hb2;have m0 := cz3 HM.o;go_wp2_with fail;go_ret;exact ⟨Z9 HR.o.symm, HB.o⟩
theorem Zsy (r : Zh) (B : Nat) (cs : List Value) (F : Nat → Prop) (w : World) (aH index low high : Int) (text : ByteArray) (h : Zai F w B r cs) (hv : Ze F w ⟨4, aH, index, text, ⟨low, high⟩⟩ [.int .i64 4, .int .i64 aH, .int .i64 index, .string text, .int .i64 low, .int .i64 high]) :
  Calls Tryz.prog 52 #[.pointer (some ⟨B, 0, none⟩), .agg #[.int .i64 4, .int .i64 aH, .int .i64 index, .string text, .int .i64 low, .int .i64 high]] w fun e w' => e = .returned (.bool (Zz r ⟨4, aH, index, text, ⟨low, high⟩⟩)) ∧ Below w.heap.size w w' := by
 have HWF := zh (fun x => Z1 ⟨4, aH, index, text, ⟨low, high⟩⟩ _ F x (show Ze F x _ _ from hv));have hin : Zac aH ∧ Zac index := ⟨hv.2.2.1, hv.2.2.2.1⟩;have HST := zh (h.later ((Za.refl w).alloc (.cells #[.int .i64 4, .int .i64 aH, .int .i64 index, .string text, .int .i64 low, .int .i64 high] 34)));have HM := zh (heap_alloc_new w (.cells #[.int .i64 4, .int .i64 aH, .int .i64 index, .string text, .int .i64 low, .int .i64 high] 34));have HB := zh ((Below.refl w.heap.size w).alloc (Nat.le_refl _) (.cells #[.int .i64 4, .int .i64 aH, .int .i64 index, .string text, .int .i64 low, .int .i64 high] 34));obtain ⟨p, hp⟩ : ∃ p, Zw ⟨4, aH, index, text, ⟨low, high⟩⟩ = p := ⟨_, rfl⟩;obtain ⟨R, hR⟩ : ∃ R, Zz r ⟨4, aH, index, text, ⟨low, high⟩⟩ = R := ⟨_, rfl⟩;rw [hR];rw [hp] at HWF;unfold Zz at hR;rw [hp] at hR;clear h hv;have HP := zh hp;clear hp
 cases p with
 | false =>
  have HR := zh (show R = false from hR.symm);clear hR;go_enter Tryz.func52, Tryz.ntmps52;go_wp2_with fail;refine (HWF.o _).mono ?_;rintro e w2 ⟨rfl, hb2⟩;have HB2 := zh (HB.o.trans (Below.mono hb2 HB.o.size));clear hb2;go_wp2_with fail;go_ret;exact ⟨Z9 HR.o.symm, HB2.o⟩
 | true =>
  rw [Bool.true_and] at hR;have HR := zh (show R = Zb9 r aH 2 from by rw [← hR]; simp [Zcb, Zcf]);clear hR;go_enter Tryz.func52, Tryz.ntmps52;go_wp2_with fail;refine (HWF.o _).mono ?_;rintro e w2 ⟨rfl, hb2⟩;replace HST := zh (HST.o.later hb2);replace HM := zC hb2 HM;replace HB := zh (HB.o.trans (Below.mono hb2 HB.o.size));clear hb2;have m0 := cz3 HM.o;go_wp2_with fail;refine (Zbc r B cs F w2 aH 2 HST.o).mono ?_;rintro e w3 ⟨rfl, rfl⟩;go_wp2_with fail;go_ret;exact ⟨Z9 HR.o.symm, HB.o⟩
theorem Zsz (r : Zh) (B : Nat) (cs : List Value) (F : Nat → Prop) (w : World) (aH index low high : Int) (text : ByteArray) (h : Zai F w B r cs) (hv : Ze F w ⟨5, aH, index, text, ⟨low, high⟩⟩ [.int .i64 5, .int .i64 aH, .int .i64 index, .string text, .int .i64 low, .int .i64 high]) :
  Calls Tryz.prog 52 #[.pointer (some ⟨B, 0, none⟩), .agg #[.int .i64 5, .int .i64 aH, .int .i64 index, .string text, .int .i64 low, .int .i64 high]] w fun e w' => e = .returned (.bool (Zz r ⟨5, aH, index, text, ⟨low, high⟩⟩)) ∧ Below w.heap.size w w' := by
 have HWF := zh (fun x => Z1 ⟨5, aH, index, text, ⟨low, high⟩⟩ _ F x (show Ze F x _ _ from hv));have hin : Zac aH ∧ Zac index := ⟨hv.2.2.1, hv.2.2.2.1⟩;have HST := zh (h.later ((Za.refl w).alloc (.cells #[.int .i64 5, .int .i64 aH, .int .i64 index, .string text, .int .i64 low, .int .i64 high] 34)));have HM := zh (heap_alloc_new w (.cells #[.int .i64 5, .int .i64 aH, .int .i64 index, .string text, .int .i64 low, .int .i64 high] 34));have HB := zh ((Below.refl w.heap.size w).alloc (Nat.le_refl _) (.cells #[.int .i64 5, .int .i64 aH, .int .i64 index, .string text, .int .i64 low, .int .i64 high] 34));obtain ⟨p, hp⟩ : ∃ p, Zw ⟨5, aH, index, text, ⟨low, high⟩⟩ = p := ⟨_, rfl⟩;obtain ⟨R, hR⟩ : ∃ R, Zz r ⟨5, aH, index, text, ⟨low, high⟩⟩ = R := ⟨_, rfl⟩;rw [hR];rw [hp] at HWF;unfold Zz at hR;rw [hp] at hR;clear h hv;have HP := zh hp;clear hp
 cases p with
 | false =>
  have HR := zh (show R = false from hR.symm);clear hR;go_enter Tryz.func52, Tryz.ntmps52;go_wp2_with fail;refine (HWF.o _).mono ?_;rintro e w2 ⟨rfl, hb2⟩;have HB2 := zh (HB.o.trans (Below.mono hb2 HB.o.size));clear hb2;go_wp2_with fail;go_ret;exact ⟨Z9 HR.o.symm, HB2.o⟩
 | true =>
  rw [Bool.true_and] at hR;have HR := zh (show R = Zb9 r aH 3 from by rw [← hR]; simp [Zcb, Zcf]);clear hR;go_enter Tryz.func52, Tryz.ntmps52;go_wp2_with fail;refine (HWF.o _).mono ?_;rintro e w2 ⟨rfl, hb2⟩;replace HST := zh (HST.o.later hb2);replace HM := zC hb2 HM;replace HB := zh (HB.o.trans (Below.mono hb2 HB.o.size));clear hb2;have m0 := cz3 HM.o;go_wp2_with fail;refine (Zbc r B cs F w2 aH 3 HST.o).mono ?_;rintro e w3 ⟨rfl, rfl⟩;go_wp2_with fail;go_ret;exact ⟨Z9 HR.o.symm, HB.o⟩
theorem Zs0 (r : Zh) (B : Nat) (cs : List Value) (F : Nat → Prop) (w : World) (aH index low high : Int) (text : ByteArray) (h : Zai F w B r cs) (hv : Ze F w ⟨6, aH, index, text, ⟨low, high⟩⟩ [.int .i64 6, .int .i64 aH, .int .i64 index, .string text, .int .i64 low, .int .i64 high]) :
  Calls Tryz.prog 52 #[.pointer (some ⟨B, 0, none⟩), .agg #[.int .i64 6, .int .i64 aH, .int .i64 index, .string text, .int .i64 low, .int .i64 high]] w fun e w' => e = .returned (.bool (Zz r ⟨6, aH, index, text, ⟨low, high⟩⟩)) ∧ Below w.heap.size w w' := by
 have HWF := zh (fun x => Z1 ⟨6, aH, index, text, ⟨low, high⟩⟩ _ F x (show Ze F x _ _ from hv));have hin : Zac aH ∧ Zac index := ⟨hv.2.2.1, hv.2.2.2.1⟩;have HST := zh (h.later ((Za.refl w).alloc (.cells #[.int .i64 6, .int .i64 aH, .int .i64 index, .string text, .int .i64 low, .int .i64 high] 34)));have HM := zh (heap_alloc_new w (.cells #[.int .i64 6, .int .i64 aH, .int .i64 index, .string text, .int .i64 low, .int .i64 high] 34));have HB := zh ((Below.refl w.heap.size w).alloc (Nat.le_refl _) (.cells #[.int .i64 6, .int .i64 aH, .int .i64 index, .string text, .int .i64 low, .int .i64 high] 34));obtain ⟨p, hp⟩ : ∃ p, Zw ⟨6, aH, index, text, ⟨low, high⟩⟩ = p := ⟨_, rfl⟩;obtain ⟨R, hR⟩ : ∃ R, Zz r ⟨6, aH, index, text, ⟨low, high⟩⟩ = R := ⟨_, rfl⟩;rw [hR];rw [hp] at HWF;unfold Zz at hR;rw [hp] at hR;clear h hv;have HP := zh hp;clear hp
 cases p with
 | false =>
  have HR := zh (show R = false from hR.symm);clear hR;go_enter Tryz.func52, Tryz.ntmps52;go_wp2_with fail;refine (HWF.o _).mono ?_;rintro e w2 ⟨rfl, hb2⟩;have HB2 := zh (HB.o.trans (Below.mono hb2 HB.o.size));clear hb2;go_wp2_with fail;go_ret;exact ⟨Z9 HR.o.symm, HB2.o⟩
 | true =>
  rw [Bool.true_and] at hR;have HR := zh (show R = Zb9 r aH 4 from by rw [← hR]; simp [Zcb, Zcf]);clear hR;go_enter Tryz.func52, Tryz.ntmps52;go_wp2_with fail;refine (HWF.o _).mono ?_;rintro e w2 ⟨rfl, hb2⟩;replace HST := zh (HST.o.later hb2);replace HM := zC hb2 HM;replace HB := zh (HB.o.trans (Below.mono hb2 HB.o.size));clear hb2;have m0 := cz3 HM.o;go_wp2_with fail;refine (Zbc r B cs F w2 aH 4 HST.o).mono ?_;rintro e w3 ⟨rfl, rfl⟩;go_wp2_with fail;go_ret;exact ⟨Z9 HR.o.symm, HB.o⟩
theorem Zs1 (r : Zh) (B : Nat) (cs : List Value) (F : Nat → Prop) (w : World) (aH index low high : Int) (text : ByteArray) (h : Zai F w B r cs) (hv : Ze F w ⟨7, aH, index, text, ⟨low, high⟩⟩ [.int .i64 7, .int .i64 aH, .int .i64 index, .string text, .int .i64 low, .int .i64 high]) :
  Calls Tryz.prog 52 #[.pointer (some ⟨B, 0, none⟩), .agg #[.int .i64 7, .int .i64 aH, .int .i64 index, .string text, .int .i64 low, .int .i64 high]] w fun e w' => e = .returned (.bool (Zz r ⟨7, aH, index, text, ⟨low, high⟩⟩)) ∧ Below w.heap.size w w' := by
 have HWF := zh (fun x => Z1 ⟨7, aH, index, text, ⟨low, high⟩⟩ _ F x (show Ze F x _ _ from hv));have hin : Zac aH ∧ Zac index := ⟨hv.2.2.1, hv.2.2.2.1⟩;have HST := zh (h.later ((Za.refl w).alloc (.cells #[.int .i64 7, .int .i64 aH, .int .i64 index, .string text, .int .i64 low, .int .i64 high] 34)));have HM := zh (heap_alloc_new w (.cells #[.int .i64 7, .int .i64 aH, .int .i64 index, .string text, .int .i64 low, .int .i64 high] 34));have HB := zh ((Below.refl w.heap.size w).alloc (Nat.le_refl _) (.cells #[.int .i64 7, .int .i64 aH, .int .i64 index, .string text, .int .i64 low, .int .i64 high] 34));obtain ⟨p, hp⟩ : ∃ p, Zw ⟨7, aH, index, text, ⟨low, high⟩⟩ = p := ⟨_, rfl⟩;obtain ⟨R, hR⟩ : ∃ R, Zz r ⟨7, aH, index, text, ⟨low, high⟩⟩ = R := ⟨_, rfl⟩;rw [hR];rw [hp] at HWF;unfold Zz at hR;rw [hp] at hR;clear h hv;have HP := zh hp;clear hp
 cases p with
 | false =>
  have HR := zh (show R = false from hR.symm);clear hR;go_enter Tryz.func52, Tryz.ntmps52;go_wp2_with fail;refine (HWF.o _).mono ?_;rintro e w2 ⟨rfl, hb2⟩;have HB2 := zh (HB.o.trans (Below.mono hb2 HB.o.size));clear hb2;go_wp2_with fail;go_ret;exact ⟨Z9 HR.o.symm, HB2.o⟩
 | true =>
  rw [Bool.true_and] at hR;have HR := zh (show R = Zb9 r aH 5 from by rw [← hR]; simp [Zcb, Zcf]);clear hR;go_enter Tryz.func52, Tryz.ntmps52;go_wp2_with fail;refine (HWF.o _).mono ?_;rintro e w2 ⟨rfl, hb2⟩;replace HST := zh (HST.o.later hb2);replace HM := zC hb2 HM;replace HB := zh (HB.o.trans (Below.mono hb2 HB.o.size));clear hb2;have m0 := cz3 HM.o;go_wp2_with fail;refine (Zbc r B cs F w2 aH 5 HST.o).mono ?_;rintro e w3 ⟨rfl, rfl⟩;go_wp2_with fail;go_ret;exact ⟨Z9 HR.o.symm, HB.o⟩
theorem Zs2 (r : Zh) (B : Nat) (cs : List Value) (F : Nat → Prop) (w : World) (aH index low high : Int) (text : ByteArray) (h : Zai F w B r cs) (hv : Ze F w ⟨8, aH, index, text, ⟨low, high⟩⟩ [.int .i64 8, .int .i64 aH, .int .i64 index, .string text, .int .i64 low, .int .i64 high]) :
  Calls Tryz.prog 52 #[.pointer (some ⟨B, 0, none⟩), .agg #[.int .i64 8, .int .i64 aH, .int .i64 index, .string text, .int .i64 low, .int .i64 high]] w fun e w' => e = .returned (.bool (Zz r ⟨8, aH, index, text, ⟨low, high⟩⟩)) ∧ Below w.heap.size w w' := by
 have HWF := zh (fun x => Z1 ⟨8, aH, index, text, ⟨low, high⟩⟩ _ F x (show Ze F x _ _ from hv));have hin : Zac aH ∧ Zac index := ⟨hv.2.2.1, hv.2.2.2.1⟩;have HST := zh (h.later ((Za.refl w).alloc (.cells #[.int .i64 8, .int .i64 aH, .int .i64 index, .string text, .int .i64 low, .int .i64 high] 34)));have HM := zh (heap_alloc_new w (.cells #[.int .i64 8, .int .i64 aH, .int .i64 index, .string text, .int .i64 low, .int .i64 high] 34));have HB := zh ((Below.refl w.heap.size w).alloc (Nat.le_refl _) (.cells #[.int .i64 8, .int .i64 aH, .int .i64 index, .string text, .int .i64 low, .int .i64 high] 34));obtain ⟨p, hp⟩ : ∃ p, Zw ⟨8, aH, index, text, ⟨low, high⟩⟩ = p := ⟨_, rfl⟩;obtain ⟨R, hR⟩ : ∃ R, Zz r ⟨8, aH, index, text, ⟨low, high⟩⟩ = R := ⟨_, rfl⟩;rw [hR];rw [hp] at HWF;unfold Zz at hR;rw [hp] at hR;clear h hv;have HP := zh hp;clear hp
 cases p with
 | false =>
  have HR := zh (show R = false from hR.symm);clear hR;go_enter Tryz.func52, Tryz.ntmps52;go_wp2_with fail;refine (HWF.o _).mono ?_;rintro e w2 ⟨rfl, hb2⟩;have HB2 := zh (HB.o.trans (Below.mono hb2 HB.o.size));clear hb2;go_wp2_with fail;go_ret;exact ⟨Z9 HR.o.symm, HB2.o⟩
 | true =>
  rw [Bool.true_and] at hR;have HR := zh (show R = decide (aH < (r.names.length : Int)) from by rw [← hR]; simp [Zcb, Zcf]);clear hR;go_enter Tryz.func52, Tryz.ntmps52;go_wp2_with fail;refine (HWF.o _).mono ?_;rintro e w2 ⟨rfl, hb2⟩;replace HST := zh (HST.o.later hb2);replace HM := zC hb2 HM;replace HB := zh (HB.o.trans (Below.mono hb2 HB.o.size));clear hb2;have m0 := cz3 HM.o;go_upto_region 29 with (fail);clear m0;obtain ⟨M, hM⟩ : ∃ M, w.heap.size = M := ⟨_, rfl⟩;rw [hM] at HM ⊢;refine Z6 (fun W hW => ?_);have hWL : Za w2 W := by rw [hW]; exact (Za.refl _).drew
  have HMW := zC hWL HM;have HSW := zh (HST.o.later hWL);have HBW := zh (HB.o.trans (Below.mono hWL HB.o.size));have hMW : M < W.heap.size := Zd HMW.o;have mW0 := cz3 HMW.o;obtain ⟨A, c, cW, hc, hcm, hrow⟩ := HSW.o.names;have hSB := HSW.o.lt;unfold maxLen at hcm;clear hW hWL hrow
  repeat go_big_quiet_step (fail)
  refine wpQuiet_nil ?_;go_wp2_with fail;go_ret;exact ⟨Z9 HR.o.symm, HBW.o⟩
theorem Zs3 (r : Zh) (B : Nat) (cs : List Value) (F : Nat → Prop) (w : World) (aH index low high : Int) (text : ByteArray) (h : Zai F w B r cs) (hv : Ze F w ⟨9, aH, index, text, ⟨low, high⟩⟩ [.int .i64 9, .int .i64 aH, .int .i64 index, .string text, .int .i64 low, .int .i64 high]) :
  Calls Tryz.prog 52 #[.pointer (some ⟨B, 0, none⟩), .agg #[.int .i64 9, .int .i64 aH, .int .i64 index, .string text, .int .i64 low, .int .i64 high]] w fun e w' => e = .returned (.bool (Zz r ⟨9, aH, index, text, ⟨low, high⟩⟩)) ∧ Below w.heap.size w w' := by
 have HWF := zh (fun x => Z1 ⟨9, aH, index, text, ⟨low, high⟩⟩ _ F x (show Ze F x _ _ from hv));have hin : Zac aH ∧ Zac index := ⟨hv.2.2.1, hv.2.2.2.1⟩;have HST := zh (h.later ((Za.refl w).alloc (.cells #[.int .i64 9, .int .i64 aH, .int .i64 index, .string text, .int .i64 low, .int .i64 high] 34)));have HM := zh (heap_alloc_new w (.cells #[.int .i64 9, .int .i64 aH, .int .i64 index, .string text, .int .i64 low, .int .i64 high] 34));have HB := zh ((Below.refl w.heap.size w).alloc (Nat.le_refl _) (.cells #[.int .i64 9, .int .i64 aH, .int .i64 index, .string text, .int .i64 low, .int .i64 high] 34));obtain ⟨p, hp⟩ : ∃ p, Zw ⟨9, aH, index, text, ⟨low, high⟩⟩ = p := ⟨_, rfl⟩;obtain ⟨R, hR⟩ : ∃ R, Zz r ⟨9, aH, index, text, ⟨low, high⟩⟩ = R := ⟨_, rfl⟩;rw [hR];rw [hp] at HWF;unfold Zz at hR;rw [hp] at hR;clear h hv;have HP := zh hp;clear hp
 cases p with
 | false =>
  have HR := zh (show R = false from hR.symm);clear hR;go_enter Tryz.func52, Tryz.ntmps52;go_wp2_with fail;refine (HWF.o _).mono ?_;rintro e w2 ⟨rfl, hb2⟩;have HB2 := zh (HB.o.trans (Below.mono hb2 HB.o.size));clear hb2;go_wp2_with fail;go_ret;exact ⟨Z9 HR.o.symm, HB2.o⟩
 | true =>
  rw [Bool.true_and] at hR;have HR := zh (show R = decide (aH ≤ 54) from by rw [← hR]; simp [Zcb, Zcf]);clear hR;go_enter Tryz.func52, Tryz.ntmps52;go_wp2_with fail;refine (HWF.o _).mono ?_;rintro e w2 ⟨rfl, hb2⟩;replace HST := zh (HST.o.later hb2);replace HM := zC hb2 HM;replace HB := zh (HB.o.trans (Below.mono hb2 HB.o.size));clear hb2;have m0 := cz3 HM.o;go_wp2_with fail;go_ret;exact ⟨Z9 HR.o.symm, HB.o⟩
theorem Zrj (r : Zh) (B : Nat) (cs : List Value) (F : Nat → Prop) (w : World) (aH index low high : Int) (text : ByteArray) (h : Zai F w B r cs) (hv : Ze F w ⟨10, aH, index, text, ⟨low, high⟩⟩ [.int .i64 10, .int .i64 aH, .int .i64 index, .string text, .int .i64 low, .int .i64 high]) :
  Calls Tryz.prog 52 #[.pointer (some ⟨B, 0, none⟩), .agg #[.int .i64 10, .int .i64 aH, .int .i64 index, .string text, .int .i64 low, .int .i64 high]] w fun e w' => e = .returned (.bool (Zz r ⟨10, aH, index, text, ⟨low, high⟩⟩)) ∧ Below w.heap.size w w' := by
 have HWF := zh (fun x => Z1 ⟨10, aH, index, text, ⟨low, high⟩⟩ _ F x (show Ze F x _ _ from hv));have hin : Zac aH ∧ Zac index := ⟨hv.2.2.1, hv.2.2.2.1⟩;have HST := zh (h.later ((Za.refl w).alloc (.cells #[.int .i64 10, .int .i64 aH, .int .i64 index, .string text, .int .i64 low, .int .i64 high] 34)));have HM := zh (heap_alloc_new w (.cells #[.int .i64 10, .int .i64 aH, .int .i64 index, .string text, .int .i64 low, .int .i64 high] 34));have HB := zh ((Below.refl w.heap.size w).alloc (Nat.le_refl _) (.cells #[.int .i64 10, .int .i64 aH, .int .i64 index, .string text, .int .i64 low, .int .i64 high] 34));obtain ⟨p, hp⟩ : ∃ p, Zw ⟨10, aH, index, text, ⟨low, high⟩⟩ = p := ⟨_, rfl⟩;obtain ⟨R, hR⟩ : ∃ R, Zz r ⟨10, aH, index, text, ⟨low, high⟩⟩ = R := ⟨_, rfl⟩;rw [hR];rw [hp] at HWF;unfold Zz at hR;rw [hp] at hR;clear h hv;have HP := zh hp;clear hp
 cases p with
 | false =>
  have HR := zh (show R = false from hR.symm);clear hR;go_enter Tryz.func52, Tryz.ntmps52;go_wp2_with fail;refine (HWF.o _).mono ?_;rintro e w2 ⟨rfl, hb2⟩;have HB2 := zh (HB.o.trans (Below.mono hb2 HB.o.size));clear hb2;go_wp2_with fail;go_ret;exact ⟨Z9 HR.o.symm, HB2.o⟩
 | true =>
  rw [Bool.true_and] at hR;have HR := zh (show R = decide (aH < (r.aB.length : Int)) from by rw [← hR]; simp [Zcb, Zcf]);clear hR;go_enter Tryz.func52, Tryz.ntmps52;go_wp2_with fail;refine (HWF.o _).mono ?_;rintro e w2 ⟨rfl, hb2⟩;replace HST := zh (HST.o.later hb2);replace HM := zC hb2 HM;replace HB := zh (HB.o.trans (Below.mono hb2 HB.o.size));clear hb2;have m0 := cz3 HM.o;go_upto_region 33 with (fail);clear m0;obtain ⟨M, hM⟩ : ∃ M, w.heap.size = M := ⟨_, rfl⟩;rw [hM] at HM ⊢;refine Z6 (fun W hW => ?_);have hWL : Za w2 W := by rw [hW]; exact (Za.refl _).drew
  have HMW := zC hWL HM;have HSW := zh (HST.o.later hWL);have HBW := zh (HB.o.trans (Below.mono hWL HB.o.size));have hMW : M < W.heap.size := Zd HMW.o;have mW0 := cz3 HMW.o;obtain ⟨A, c, cW, hc, hcm, hrow⟩ := HSW.o.aB;have hSB := HSW.o.lt;unfold maxLen at hcm;clear hW hWL hrow
  repeat go_big_quiet_step (fail)
  refine wpQuiet_nil ?_;go_wp2_with fail;go_ret;exact ⟨Z9 HR.o.symm, HBW.o⟩
theorem Zrk (r : Zh) (B : Nat) (cs : List Value) (F : Nat → Prop) (w : World) (aH index low high : Int) (text : ByteArray) (h : Zai F w B r cs) (hv : Ze F w ⟨11, aH, index, text, ⟨low, high⟩⟩ [.int .i64 11, .int .i64 aH, .int .i64 index, .string text, .int .i64 low, .int .i64 high]) :
  Calls Tryz.prog 52 #[.pointer (some ⟨B, 0, none⟩), .agg #[.int .i64 11, .int .i64 aH, .int .i64 index, .string text, .int .i64 low, .int .i64 high]] w fun e w' => e = .returned (.bool (Zz r ⟨11, aH, index, text, ⟨low, high⟩⟩)) ∧ Below w.heap.size w w' := by
 have HWF := zh (fun x => Z1 ⟨11, aH, index, text, ⟨low, high⟩⟩ _ F x (show Ze F x _ _ from hv));have hin : Zac aH ∧ Zac index := ⟨hv.2.2.1, hv.2.2.2.1⟩;have HST := zh (h.later ((Za.refl w).alloc (.cells #[.int .i64 11, .int .i64 aH, .int .i64 index, .string text, .int .i64 low, .int .i64 high] 34)));have HM := zh (heap_alloc_new w (.cells #[.int .i64 11, .int .i64 aH, .int .i64 index, .string text, .int .i64 low, .int .i64 high] 34));have HB := zh ((Below.refl w.heap.size w).alloc (Nat.le_refl _) (.cells #[.int .i64 11, .int .i64 aH, .int .i64 index, .string text, .int .i64 low, .int .i64 high] 34));obtain ⟨p, hp⟩ : ∃ p, Zw ⟨11, aH, index, text, ⟨low, high⟩⟩ = p := ⟨_, rfl⟩;obtain ⟨R, hR⟩ : ∃ R, Zz r ⟨11, aH, index, text, ⟨low, high⟩⟩ = R := ⟨_, rfl⟩;rw [hR];rw [hp] at HWF;unfold Zz at hR;rw [hp] at hR;clear h hv;have HP := zh hp;clear hp
 cases p with
 | false =>
  have HR := zh (show R = false from hR.symm);clear hR;go_enter Tryz.func52, Tryz.ntmps52;go_wp2_with fail;refine (HWF.o _).mono ?_;rintro e w2 ⟨rfl, hb2⟩;have HB2 := zh (HB.o.trans (Below.mono hb2 HB.o.size));clear hb2;go_wp2_with fail;go_ret;exact ⟨Z9 HR.o.symm, HB2.o⟩
 | true =>
  rw [Bool.true_and] at hR;have HR := zh (show R = Zb9 r aH 6 from by rw [← hR]; simp [Zcb, Zcf]);clear hR;go_enter Tryz.func52, Tryz.ntmps52;go_wp2_with fail;refine (HWF.o _).mono ?_;rintro e w2 ⟨rfl, hb2⟩;replace HST := zh (HST.o.later hb2);replace HM := zC hb2 HM;replace HB := zh (HB.o.trans (Below.mono hb2 HB.o.size));clear hb2;have m0 := cz3 HM.o;go_wp2_with fail;refine (Zbc r B cs F w2 aH 6 HST.o).mono ?_;rintro e w3 ⟨rfl, rfl⟩;go_wp2_with fail;go_ret;exact ⟨Z9 HR.o.symm, HB.o⟩
theorem Zrl (r : Zh) (B : Nat) (cs : List Value) (F : Nat → Prop) (w : World) (aH index low high : Int) (text : ByteArray) (h : Zai F w B r cs) (hv : Ze F w ⟨12, aH, index, text, ⟨low, high⟩⟩ [.int .i64 12, .int .i64 aH, .int .i64 index, .string text, .int .i64 low, .int .i64 high]) :
  Calls Tryz.prog 52 #[.pointer (some ⟨B, 0, none⟩), .agg #[.int .i64 12, .int .i64 aH, .int .i64 index, .string text, .int .i64 low, .int .i64 high]] w fun e w' => e = .returned (.bool (Zz r ⟨12, aH, index, text, ⟨low, high⟩⟩)) ∧ Below w.heap.size w w' := by
 have HWF := zh (fun x => Z1 ⟨12, aH, index, text, ⟨low, high⟩⟩ _ F x (show Ze F x _ _ from hv));have hin : Zac aH ∧ Zac index := ⟨hv.2.2.1, hv.2.2.2.1⟩;have HST := zh (h.later ((Za.refl w).alloc (.cells #[.int .i64 12, .int .i64 aH, .int .i64 index, .string text, .int .i64 low, .int .i64 high] 34)));have HM := zh (heap_alloc_new w (.cells #[.int .i64 12, .int .i64 aH, .int .i64 index, .string text, .int .i64 low, .int .i64 high] 34));have HB := zh ((Below.refl w.heap.size w).alloc (Nat.le_refl _) (.cells #[.int .i64 12, .int .i64 aH, .int .i64 index, .string text, .int .i64 low, .int .i64 high] 34));obtain ⟨p, hp⟩ : ∃ p, Zw ⟨12, aH, index, text, ⟨low, high⟩⟩ = p := ⟨_, rfl⟩;obtain ⟨R, hR⟩ : ∃ R, Zz r ⟨12, aH, index, text, ⟨low, high⟩⟩ = R := ⟨_, rfl⟩;rw [hR];rw [hp] at HWF;unfold Zz at hR;rw [hp] at hR;clear h hv;have HP := zh hp;clear hp
 cases p with
 | false =>
  have HR := zh (show R = false from hR.symm);clear hR;go_enter Tryz.func52, Tryz.ntmps52;go_wp2_with fail;refine (HWF.o _).mono ?_;rintro e w2 ⟨rfl, hb2⟩;have HB2 := zh (HB.o.trans (Below.mono hb2 HB.o.size));clear hb2;go_wp2_with fail;go_ret;exact ⟨Z9 HR.o.symm, HB2.o⟩
 | true =>
  rw [Bool.true_and] at hR;have HR := zh (show R = Zb9 r aH 7 from by rw [← hR]; simp [Zcb, Zcf]);clear hR;go_enter Tryz.func52, Tryz.ntmps52;go_wp2_with fail;refine (HWF.o _).mono ?_;rintro e w2 ⟨rfl, hb2⟩;replace HST := zh (HST.o.later hb2);replace HM := zC hb2 HM;replace HB := zh (HB.o.trans (Below.mono hb2 HB.o.size));clear hb2;have m0 := cz3 HM.o;go_wp2_with fail;refine (Zbc r B cs F w2 aH 7 HST.o).mono ?_;rintro e w3 ⟨rfl, rfl⟩;go_wp2_with fail;go_ret;exact ⟨Z9 HR.o.symm, HB.o⟩
theorem Zrm (r : Zh) (B : Nat) (cs : List Value) (F : Nat → Prop) (w : World) (aH index low high : Int) (text : ByteArray) (h : Zai F w B r cs) (hv : Ze F w ⟨13, aH, index, text, ⟨low, high⟩⟩ [.int .i64 13, .int .i64 aH, .int .i64 index, .string text, .int .i64 low, .int .i64 high]) :
  Calls Tryz.prog 52 #[.pointer (some ⟨B, 0, none⟩), .agg #[.int .i64 13, .int .i64 aH, .int .i64 index, .string text, .int .i64 low, .int .i64 high]] w fun e w' => e = .returned (.bool (Zz r ⟨13, aH, index, text, ⟨low, high⟩⟩)) ∧ Below w.heap.size w w' := by
 have HWF := zh (fun x => Z1 ⟨13, aH, index, text, ⟨low, high⟩⟩ _ F x (show Ze F x _ _ from hv));have hin : Zac aH ∧ Zac index := ⟨hv.2.2.1, hv.2.2.2.1⟩;have HST := zh (h.later ((Za.refl w).alloc (.cells #[.int .i64 13, .int .i64 aH, .int .i64 index, .string text, .int .i64 low, .int .i64 high] 34)));have HM := zh (heap_alloc_new w (.cells #[.int .i64 13, .int .i64 aH, .int .i64 index, .string text, .int .i64 low, .int .i64 high] 34));have HB := zh ((Below.refl w.heap.size w).alloc (Nat.le_refl _) (.cells #[.int .i64 13, .int .i64 aH, .int .i64 index, .string text, .int .i64 low, .int .i64 high] 34));obtain ⟨p, hp⟩ : ∃ p, Zw ⟨13, aH, index, text, ⟨low, high⟩⟩ = p := ⟨_, rfl⟩;obtain ⟨R, hR⟩ : ∃ R, Zz r ⟨13, aH, index, text, ⟨low, high⟩⟩ = R := ⟨_, rfl⟩;rw [hR];rw [hp] at HWF;unfold Zz at hR;rw [hp] at hR;clear h hv;have HP := zh hp;clear hp
 cases p with
 | false =>
  have HR := zh (show R = false from hR.symm);clear hR;go_enter Tryz.func52, Tryz.ntmps52;go_wp2_with fail;refine (HWF.o _).mono ?_;rintro e w2 ⟨rfl, hb2⟩;have HB2 := zh (HB.o.trans (Below.mono hb2 HB.o.size));clear hb2;go_wp2_with fail;go_ret;exact ⟨Z9 HR.o.symm, HB2.o⟩
 | true =>
  rw [Bool.true_and] at hR;have HR := zh (show R = (Zb9 r aH 1 && decide (index < (Zfj r aH : Int))) from by rw [← hR]; simp [Zcb, Zcf]);have HN := zh (Zfk HP.o (Or.inl (by simp [Zcf])));have HI := zh (Zjy HP.o);clear hR;go_enter Tryz.func52, Tryz.ntmps52;go_wp2_with fail;refine (HWF.o _).mono ?_;rintro e w2 ⟨rfl, hb2⟩;replace HST := zh (HST.o.later hb2);replace HM := zC hb2 HM;replace HB := zh (HB.o.trans (Below.mono hb2 HB.o.size));clear hb2;have m0 := cz3 HM.o;go_upto_region 25 with (fail);clear m0;obtain ⟨M, hM⟩ : ∃ M, w.heap.size = M := ⟨_, rfl⟩;rw [hM] at HM ⊢;obtain ⟨q, hq⟩ : ∃ q, Zb9 r aH 1 = q := ⟨_, rfl⟩;rw [hq] at HR;have HQ := zh hq;clear hq
  cases q with
  | false =>
   refine Z6 (fun W hW => ?_);have hWL : Za w2 W := by rw [hW]; exact (Za.refl _).drew
   have HMW := zC hWL HM;have HSW := zh (HST.o.later hWL);have HBW := zh (HB.o.trans (Below.mono hWL HB.o.size));have hMW : M < W.heap.size := Zd HMW.o;have mW0 := cz3 HMW.o;have hSB := HSW.o.lt;clear hW hWL
   repeat go_big_quiet_step (fail)
   go_big_quiet_want
   go_big_quiet_op
   apply Exists.intro
   refine ⟨?_, ?_⟩
   ·refine (Zbc r B cs F W aH 1 HSW.o).mono ?_; rw [HQ.o]; rintro e w6 ⟨rfl, rfl⟩; exact ⟨rfl, rfl⟩
   go_big_quiet_on
   repeat go_big_quiet_step (fail)
   refine wpQuiet_nil ?_;go_wp2_with fail;go_ret;exact ⟨Z9 HR.o.symm, HBW.o⟩
  | true =>
   have hlen : aH < (r.aA.length : Int) := by
    rcases Int.lt_or_le aH r.aA.length with h | h
    ·exact h
    ·have := Zeb (r := r) (n := aH) (k := 1) (by omega); rw [HQ.o] at this; cases this
   obtain ⟨i, hi⟩ : ∃ i : Nat, aH = i := ⟨aH.toNat, by have := HN.o; omega⟩;subst hi;have hlt : i < r.aA.length := by omega
   have hlt' : (i : Int) < r.aA.length := hlen;have HR2 := zh (show R = decide (index < (r.aA[i].aJ.length : Int)) from by rw [HR.o, Zck hlt]; rfl);refine Z6 (fun W hW => ?_);have hWL : Za w2 W := by rw [hW]; exact (Za.refl _).drew
   have HMW := zC hWL HM;have HSW := zh (HST.o.later hWL);have HBW := zh (HB.o.trans (Below.mono hWL HB.o.size));have hMW : M < W.heap.size := Zd HMW.o;have mW0 := cz3 HMW.o;obtain ⟨A, c, cW, hc, hcm, hrow⟩ := HSW.o.aA;have hSB := HSW.o.lt;unfold maxLen at hcm;obtain ⟨b, o, Ai, ci, Ak, ck, rfl, hb, e0, e1, e2, e3, e4, hIt, hKy, _⟩ := Zai.obj hrow hlt;clear hW hWL hrow hIt hKy
   repeat go_big_quiet_step (fail)
   go_big_quiet_want
   go_big_quiet_op
   apply Exists.intro
   refine ⟨?_, ?_⟩
   ·refine (Zbc r B cs F W (i : Int) 1 HSW.o).mono ?_; rw [HQ.o]; rintro e w6 ⟨rfl, rfl⟩; exact ⟨rfl, rfl⟩
   go_big_quiet_on
   repeat go_big_quiet_step (fail)
   refine wpQuiet_nil ?_;go_wp2_with fail;go_ret;exact ⟨Z9 HR2.o.symm, HBW.o⟩
theorem Zrn (r : Zh) (B : Nat) (cs : List Value) (F : Nat → Prop) (w : World) (aH index low high : Int) (text : ByteArray) (h : Zai F w B r cs) (hv : Ze F w ⟨14, aH, index, text, ⟨low, high⟩⟩ [.int .i64 14, .int .i64 aH, .int .i64 index, .string text, .int .i64 low, .int .i64 high]) :
  Calls Tryz.prog 52 #[.pointer (some ⟨B, 0, none⟩), .agg #[.int .i64 14, .int .i64 aH, .int .i64 index, .string text, .int .i64 low, .int .i64 high]] w fun e w' => e = .returned (.bool (Zz r ⟨14, aH, index, text, ⟨low, high⟩⟩)) ∧ Below w.heap.size w w' := by
 have HWF := zh (fun x => Z1 ⟨14, aH, index, text, ⟨low, high⟩⟩ _ F x (show Ze F x _ _ from hv));have hin : Zac aH ∧ Zac index := ⟨hv.2.2.1, hv.2.2.2.1⟩;have HST := zh (h.later ((Za.refl w).alloc (.cells #[.int .i64 14, .int .i64 aH, .int .i64 index, .string text, .int .i64 low, .int .i64 high] 34)));have HM := zh (heap_alloc_new w (.cells #[.int .i64 14, .int .i64 aH, .int .i64 index, .string text, .int .i64 low, .int .i64 high] 34));have HB := zh ((Below.refl w.heap.size w).alloc (Nat.le_refl _) (.cells #[.int .i64 14, .int .i64 aH, .int .i64 index, .string text, .int .i64 low, .int .i64 high] 34));obtain ⟨p, hp⟩ : ∃ p, Zw ⟨14, aH, index, text, ⟨low, high⟩⟩ = p := ⟨_, rfl⟩;obtain ⟨R, hR⟩ : ∃ R, Zz r ⟨14, aH, index, text, ⟨low, high⟩⟩ = R := ⟨_, rfl⟩;rw [hR];rw [hp] at HWF;unfold Zz at hR;rw [hp] at hR;clear h hv;have HP := zh hp;clear hp
 cases p with
 | false =>
  have HR := zh (show R = false from hR.symm);clear hR;go_enter Tryz.func52, Tryz.ntmps52;go_wp2_with fail;refine (HWF.o _).mono ?_;rintro e w2 ⟨rfl, hb2⟩;have HB2 := zh (HB.o.trans (Below.mono hb2 HB.o.size));clear hb2;go_wp2_with fail;go_ret;exact ⟨Z9 HR.o.symm, HB2.o⟩
 | true =>
  rw [Bool.true_and] at hR;have HR := zh (show R = decide (index < (r.globals.length : Int)) from by rw [← hR]; simp [Zcb, Zcf]);clear hR;go_enter Tryz.func52, Tryz.ntmps52;go_wp2_with fail;refine (HWF.o _).mono ?_;rintro e w2 ⟨rfl, hb2⟩;replace HST := zh (HST.o.later hb2);replace HM := zC hb2 HM;replace HB := zh (HB.o.trans (Below.mono hb2 HB.o.size));clear hb2;have m0 := cz3 HM.o;go_upto_region 35 with (fail);clear m0;obtain ⟨M, hM⟩ : ∃ M, w.heap.size = M := ⟨_, rfl⟩;rw [hM] at HM ⊢;refine Z6 (fun W hW => ?_);have hWL : Za w2 W := by rw [hW]; exact (Za.refl _).drew
  have HMW := zC hWL HM;have HSW := zh (HST.o.later hWL);have HBW := zh (HB.o.trans (Below.mono hWL HB.o.size));have hMW : M < W.heap.size := Zd HMW.o;have mW0 := cz3 HMW.o;obtain ⟨A, c, cW, hc, hcm, hrow⟩ := HSW.o.globals;have hSB := HSW.o.lt;unfold maxLen at hcm;clear hW hWL hrow
  repeat go_big_quiet_step (fail)
  refine wpQuiet_nil ?_;go_wp2_with fail;go_ret;exact ⟨Z9 HR.o.symm, HBW.o⟩
theorem Zro (r : Zh) (B : Nat) (cs : List Value) (F : Nat → Prop) (w : World) (aH index low high : Int) (text : ByteArray) (h : Zai F w B r cs) (hv : Ze F w ⟨15, aH, index, text, ⟨low, high⟩⟩ [.int .i64 15, .int .i64 aH, .int .i64 index, .string text, .int .i64 low, .int .i64 high]) :
  Calls Tryz.prog 52 #[.pointer (some ⟨B, 0, none⟩), .agg #[.int .i64 15, .int .i64 aH, .int .i64 index, .string text, .int .i64 low, .int .i64 high]] w fun e w' => e = .returned (.bool (Zz r ⟨15, aH, index, text, ⟨low, high⟩⟩)) ∧ Below w.heap.size w w' := by
 have HWF := zh (fun x => Z1 ⟨15, aH, index, text, ⟨low, high⟩⟩ _ F x (show Ze F x _ _ from hv));have hin : Zac aH ∧ Zac index := ⟨hv.2.2.1, hv.2.2.2.1⟩;have HST := zh (h.later ((Za.refl w).alloc (.cells #[.int .i64 15, .int .i64 aH, .int .i64 index, .string text, .int .i64 low, .int .i64 high] 34)));have HM := zh (heap_alloc_new w (.cells #[.int .i64 15, .int .i64 aH, .int .i64 index, .string text, .int .i64 low, .int .i64 high] 34));have HB := zh ((Below.refl w.heap.size w).alloc (Nat.le_refl _) (.cells #[.int .i64 15, .int .i64 aH, .int .i64 index, .string text, .int .i64 low, .int .i64 high] 34));obtain ⟨p, hp⟩ : ∃ p, Zw ⟨15, aH, index, text, ⟨low, high⟩⟩ = p := ⟨_, rfl⟩;obtain ⟨R, hR⟩ : ∃ R, Zz r ⟨15, aH, index, text, ⟨low, high⟩⟩ = R := ⟨_, rfl⟩;rw [hR];rw [hp] at HWF;unfold Zz at hR;rw [hp] at hR;clear h hv;have HP := zh hp;clear hp
 cases p with
 | false =>
  have HR := zh (show R = false from hR.symm);clear hR;go_enter Tryz.func52, Tryz.ntmps52;go_wp2_with fail;refine (HWF.o _).mono ?_;rintro e w2 ⟨rfl, hb2⟩;have HB2 := zh (HB.o.trans (Below.mono hb2 HB.o.size));clear hb2;go_wp2_with fail;go_ret;exact ⟨Z9 HR.o.symm, HB2.o⟩
 | true =>
  rw [Bool.true_and] at hR;have HR := zh (show R = Zb9 r aH 2 from by rw [← hR]; simp [Zcb, Zcf]);clear hR;go_enter Tryz.func52, Tryz.ntmps52;go_wp2_with fail;refine (HWF.o _).mono ?_;rintro e w2 ⟨rfl, hb2⟩;replace HST := zh (HST.o.later hb2);replace HM := zC hb2 HM;replace HB := zh (HB.o.trans (Below.mono hb2 HB.o.size));clear hb2;have m0 := cz3 HM.o;go_wp2_with fail;refine (Zbc r B cs F w2 aH 2 HST.o).mono ?_;rintro e w3 ⟨rfl, rfl⟩;go_wp2_with fail;go_ret;exact ⟨Z9 HR.o.symm, HB.o⟩
theorem Zrp (r : Zh) (B : Nat) (cs : List Value) (F : Nat → Prop) (w : World) (aH index low high : Int) (text : ByteArray) (h : Zai F w B r cs) (hv : Ze F w ⟨16, aH, index, text, ⟨low, high⟩⟩ [.int .i64 16, .int .i64 aH, .int .i64 index, .string text, .int .i64 low, .int .i64 high]) :
  Calls Tryz.prog 52 #[.pointer (some ⟨B, 0, none⟩), .agg #[.int .i64 16, .int .i64 aH, .int .i64 index, .string text, .int .i64 low, .int .i64 high]] w fun e w' => e = .returned (.bool (Zz r ⟨16, aH, index, text, ⟨low, high⟩⟩)) ∧ Below w.heap.size w w' := by
 have HWF := zh (fun x => Z1 ⟨16, aH, index, text, ⟨low, high⟩⟩ _ F x (show Ze F x _ _ from hv));have hin : Zac aH ∧ Zac index := ⟨hv.2.2.1, hv.2.2.2.1⟩;have HST := zh (h.later ((Za.refl w).alloc (.cells #[.int .i64 16, .int .i64 aH, .int .i64 index, .string text, .int .i64 low, .int .i64 high] 34)));have HM := zh (heap_alloc_new w (.cells #[.int .i64 16, .int .i64 aH, .int .i64 index, .string text, .int .i64 low, .int .i64 high] 34));have HB := zh ((Below.refl w.heap.size w).alloc (Nat.le_refl _) (.cells #[.int .i64 16, .int .i64 aH, .int .i64 index, .string text, .int .i64 low, .int .i64 high] 34));obtain ⟨p, hp⟩ : ∃ p, Zw ⟨16, aH, index, text, ⟨low, high⟩⟩ = p := ⟨_, rfl⟩;obtain ⟨R, hR⟩ : ∃ R, Zz r ⟨16, aH, index, text, ⟨low, high⟩⟩ = R := ⟨_, rfl⟩;rw [hR];rw [hp] at HWF;unfold Zz at hR;rw [hp] at hR;clear h hv;have HP := zh hp;clear hp
 cases p with
 | false =>
  have HR := zh (show R = false from hR.symm);clear hR;go_enter Tryz.func52, Tryz.ntmps52;go_wp2_with fail;refine (HWF.o _).mono ?_;rintro e w2 ⟨rfl, hb2⟩;have HB2 := zh (HB.o.trans (Below.mono hb2 HB.o.size));clear hb2;go_wp2_with fail;go_ret;exact ⟨Z9 HR.o.symm, HB2.o⟩
 | true =>
  rw [Bool.true_and] at hR;have HR := zh (show R = (Zb9 r aH 5 && decide (index < (Zfj r aH : Int))) from by rw [← hR]; simp [Zcb, Zcf]);have HN := zh (Zfk HP.o (Or.inl (by simp [Zcf])));have HI := zh (Zjy HP.o);clear hR;go_enter Tryz.func52, Tryz.ntmps52;go_wp2_with fail;refine (HWF.o _).mono ?_;rintro e w2 ⟨rfl, hb2⟩;replace HST := zh (HST.o.later hb2);replace HM := zC hb2 HM;replace HB := zh (HB.o.trans (Below.mono hb2 HB.o.size));clear hb2;have m0 := cz3 HM.o;go_upto_region 27 with (fail);clear m0;obtain ⟨M, hM⟩ : ∃ M, w.heap.size = M := ⟨_, rfl⟩;rw [hM] at HM ⊢;obtain ⟨q, hq⟩ : ∃ q, Zb9 r aH 5 = q := ⟨_, rfl⟩;rw [hq] at HR;have HQ := zh hq;clear hq
  cases q with
  | false =>
   refine Z6 (fun W hW => ?_);have hWL : Za w2 W := by rw [hW]; exact (Za.refl _).drew
   have HMW := zC hWL HM;have HSW := zh (HST.o.later hWL);have HBW := zh (HB.o.trans (Below.mono hWL HB.o.size));have hMW : M < W.heap.size := Zd HMW.o;have mW0 := cz3 HMW.o;have hSB := HSW.o.lt;clear hW hWL
   repeat go_big_quiet_step (fail)
   go_big_quiet_want
   go_big_quiet_op
   apply Exists.intro
   refine ⟨?_, ?_⟩
   ·refine (Zbc r B cs F W aH 5 HSW.o).mono ?_; rw [HQ.o]; rintro e w6 ⟨rfl, rfl⟩; exact ⟨rfl, rfl⟩
   go_big_quiet_on
   repeat go_big_quiet_step (fail)
   refine wpQuiet_nil ?_;go_wp2_with fail;go_ret;exact ⟨Z9 HR.o.symm, HBW.o⟩
  | true =>
   have hlen : aH < (r.aA.length : Int) := by
    rcases Int.lt_or_le aH r.aA.length with h | h
    ·exact h
    ·have := Zeb (r := r) (n := aH) (k := 5) (by omega); rw [HQ.o] at this; cases this
   obtain ⟨i, hi⟩ : ∃ i : Nat, aH = i := ⟨aH.toNat, by have := HN.o; omega⟩;subst hi;have hlt : i < r.aA.length := by omega
   have hlt' : (i : Int) < r.aA.length := hlen;have HR2 := zh (show R = decide (index < (r.aA[i].aJ.length : Int)) from by rw [HR.o, Zck hlt]; rfl);refine Z6 (fun W hW => ?_);have hWL : Za w2 W := by rw [hW]; exact (Za.refl _).drew
   have HMW := zC hWL HM;have HSW := zh (HST.o.later hWL);have HBW := zh (HB.o.trans (Below.mono hWL HB.o.size));have hMW : M < W.heap.size := Zd HMW.o;have mW0 := cz3 HMW.o;obtain ⟨A, c, cW, hc, hcm, hrow⟩ := HSW.o.aA;have hSB := HSW.o.lt;unfold maxLen at hcm;obtain ⟨b, o, Ai, ci, Ak, ck, rfl, hb, e0, e1, e2, e3, e4, hIt, hKy, _⟩ := Zai.obj hrow hlt;clear hW hWL hrow hIt hKy
   repeat go_big_quiet_step (fail)
   go_big_quiet_want
   go_big_quiet_op
   apply Exists.intro
   refine ⟨?_, ?_⟩
   ·refine (Zbc r B cs F W (i : Int) 5 HSW.o).mono ?_; rw [HQ.o]; rintro e w6 ⟨rfl, rfl⟩; exact ⟨rfl, rfl⟩
   go_big_quiet_on
   repeat go_big_quiet_step (fail)
   refine wpQuiet_nil ?_;go_wp2_with fail;go_ret;exact ⟨Z9 HR2.o.symm, HBW.o⟩
theorem Zrq (r : Zh) (B : Nat) (cs : List Value) (F : Nat → Prop) (w : World) (aH index low high : Int) (text : ByteArray) (h : Zai F w B r cs) (hv : Ze F w ⟨17, aH, index, text, ⟨low, high⟩⟩ [.int .i64 17, .int .i64 aH, .int .i64 index, .string text, .int .i64 low, .int .i64 high]) :
  Calls Tryz.prog 52 #[.pointer (some ⟨B, 0, none⟩), .agg #[.int .i64 17, .int .i64 aH, .int .i64 index, .string text, .int .i64 low, .int .i64 high]] w fun e w' => e = .returned (.bool (Zz r ⟨17, aH, index, text, ⟨low, high⟩⟩)) ∧ Below w.heap.size w w' := by
 have HWF := zh (fun x => Z1 ⟨17, aH, index, text, ⟨low, high⟩⟩ _ F x (show Ze F x _ _ from hv));have hin : Zac aH ∧ Zac index := ⟨hv.2.2.1, hv.2.2.2.1⟩;have HST := zh (h.later ((Za.refl w).alloc (.cells #[.int .i64 17, .int .i64 aH, .int .i64 index, .string text, .int .i64 low, .int .i64 high] 34)));have HM := zh (heap_alloc_new w (.cells #[.int .i64 17, .int .i64 aH, .int .i64 index, .string text, .int .i64 low, .int .i64 high] 34));have HB := zh ((Below.refl w.heap.size w).alloc (Nat.le_refl _) (.cells #[.int .i64 17, .int .i64 aH, .int .i64 index, .string text, .int .i64 low, .int .i64 high] 34));obtain ⟨p, hp⟩ : ∃ p, Zw ⟨17, aH, index, text, ⟨low, high⟩⟩ = p := ⟨_, rfl⟩;obtain ⟨R, hR⟩ : ∃ R, Zz r ⟨17, aH, index, text, ⟨low, high⟩⟩ = R := ⟨_, rfl⟩;rw [hR];rw [hp] at HWF;unfold Zz at hR;rw [hp] at hR;clear h hv;have HP := zh hp;clear hp
 cases p with
 | false =>
  have HR := zh (show R = false from hR.symm);clear hR;go_enter Tryz.func52, Tryz.ntmps52;go_wp2_with fail;refine (HWF.o _).mono ?_;rintro e w2 ⟨rfl, hb2⟩;have HB2 := zh (HB.o.trans (Below.mono hb2 HB.o.size));clear hb2;go_wp2_with fail;go_ret;exact ⟨Z9 HR.o.symm, HB2.o⟩
 | true =>
  rw [Bool.true_and] at hR;have HR := zh (show R = Zb9 r aH 8 from by rw [← hR]; simp [Zcb, Zcf]);clear hR;go_enter Tryz.func52, Tryz.ntmps52;go_wp2_with fail;refine (HWF.o _).mono ?_;rintro e w2 ⟨rfl, hb2⟩;replace HST := zh (HST.o.later hb2);replace HM := zC hb2 HM;replace HB := zh (HB.o.trans (Below.mono hb2 HB.o.size));clear hb2;have m0 := cz3 HM.o;go_wp2_with fail;refine (Zbc r B cs F w2 aH 8 HST.o).mono ?_;rintro e w3 ⟨rfl, rfl⟩;go_wp2_with fail;go_ret;exact ⟨Z9 HR.o.symm, HB.o⟩
theorem Zrr (r : Zh) (B : Nat) (cs : List Value) (F : Nat → Prop) (w : World) (aH index low high : Int) (text : ByteArray) (h : Zai F w B r cs) (hv : Ze F w ⟨18, aH, index, text, ⟨low, high⟩⟩ [.int .i64 18, .int .i64 aH, .int .i64 index, .string text, .int .i64 low, .int .i64 high]) :
  Calls Tryz.prog 52 #[.pointer (some ⟨B, 0, none⟩), .agg #[.int .i64 18, .int .i64 aH, .int .i64 index, .string text, .int .i64 low, .int .i64 high]] w fun e w' => e = .returned (.bool (Zz r ⟨18, aH, index, text, ⟨low, high⟩⟩)) ∧ Below w.heap.size w w' := by
 have HWF := zh (fun x => Z1 ⟨18, aH, index, text, ⟨low, high⟩⟩ _ F x (show Ze F x _ _ from hv));have hin : Zac aH ∧ Zac index := ⟨hv.2.2.1, hv.2.2.2.1⟩;have HST := zh (h.later ((Za.refl w).alloc (.cells #[.int .i64 18, .int .i64 aH, .int .i64 index, .string text, .int .i64 low, .int .i64 high] 34)));have HM := zh (heap_alloc_new w (.cells #[.int .i64 18, .int .i64 aH, .int .i64 index, .string text, .int .i64 low, .int .i64 high] 34));have HB := zh ((Below.refl w.heap.size w).alloc (Nat.le_refl _) (.cells #[.int .i64 18, .int .i64 aH, .int .i64 index, .string text, .int .i64 low, .int .i64 high] 34));obtain ⟨p, hp⟩ : ∃ p, Zw ⟨18, aH, index, text, ⟨low, high⟩⟩ = p := ⟨_, rfl⟩;obtain ⟨R, hR⟩ : ∃ R, Zz r ⟨18, aH, index, text, ⟨low, high⟩⟩ = R := ⟨_, rfl⟩;rw [hR];rw [hp] at HWF;unfold Zz at hR;rw [hp] at hR;clear h hv;have HP := zh hp;clear hp
 cases p with
 | false =>
  have HR := zh (show R = false from hR.symm);clear hR;go_enter Tryz.func52, Tryz.ntmps52;go_wp2_with fail;refine (HWF.o _).mono ?_;rintro e w2 ⟨rfl, hb2⟩;have HB2 := zh (HB.o.trans (Below.mono hb2 HB.o.size));clear hb2;go_wp2_with fail;go_ret;exact ⟨Z9 HR.o.symm, HB2.o⟩
 | true =>
  rw [Bool.true_and] at hR;have HR := zh (show R = true from by rw [← hR]; simp [Zcb, Zcf]);clear hR;go_enter Tryz.func52, Tryz.ntmps52;go_wp2_with fail;refine (HWF.o _).mono ?_;rintro e w2 ⟨rfl, hb2⟩;replace HST := zh (HST.o.later hb2);replace HM := zC hb2 HM;replace HB := zh (HB.o.trans (Below.mono hb2 HB.o.size));clear hb2;have m0 := cz3 HM.o;go_wp2_with fail;go_ret;exact ⟨Z9 HR.o.symm, HB.o⟩
theorem Zrs (r : Zh) (B : Nat) (cs : List Value) (F : Nat → Prop) (w : World) (aH index low high : Int) (text : ByteArray) (h : Zai F w B r cs) (hv : Ze F w ⟨19, aH, index, text, ⟨low, high⟩⟩ [.int .i64 19, .int .i64 aH, .int .i64 index, .string text, .int .i64 low, .int .i64 high]) :
  Calls Tryz.prog 52 #[.pointer (some ⟨B, 0, none⟩), .agg #[.int .i64 19, .int .i64 aH, .int .i64 index, .string text, .int .i64 low, .int .i64 high]] w fun e w' => e = .returned (.bool (Zz r ⟨19, aH, index, text, ⟨low, high⟩⟩)) ∧ Below w.heap.size w w' := by
 have HWF := zh (fun x => Z1 ⟨19, aH, index, text, ⟨low, high⟩⟩ _ F x (show Ze F x _ _ from hv));have hin : Zac aH ∧ Zac index := ⟨hv.2.2.1, hv.2.2.2.1⟩;have HST := zh (h.later ((Za.refl w).alloc (.cells #[.int .i64 19, .int .i64 aH, .int .i64 index, .string text, .int .i64 low, .int .i64 high] 34)));have HM := zh (heap_alloc_new w (.cells #[.int .i64 19, .int .i64 aH, .int .i64 index, .string text, .int .i64 low, .int .i64 high] 34));have HB := zh ((Below.refl w.heap.size w).alloc (Nat.le_refl _) (.cells #[.int .i64 19, .int .i64 aH, .int .i64 index, .string text, .int .i64 low, .int .i64 high] 34));obtain ⟨p, hp⟩ : ∃ p, Zw ⟨19, aH, index, text, ⟨low, high⟩⟩ = p := ⟨_, rfl⟩;obtain ⟨R, hR⟩ : ∃ R, Zz r ⟨19, aH, index, text, ⟨low, high⟩⟩ = R := ⟨_, rfl⟩;rw [hR];rw [hp] at HWF;unfold Zz at hR;rw [hp] at hR;clear h hv;have HP := zh hp;clear hp
 cases p with
 | false =>
  have HR := zh (show R = false from hR.symm);clear hR;go_enter Tryz.func52, Tryz.ntmps52;go_wp2_with fail;refine (HWF.o _).mono ?_;rintro e w2 ⟨rfl, hb2⟩;have HB2 := zh (HB.o.trans (Below.mono hb2 HB.o.size));clear hb2;go_wp2_with fail;go_ret;exact ⟨Z9 HR.o.symm, HB2.o⟩
 | true =>
  rw [Bool.true_and] at hR;have HR := zh (show R = Zb9 r aH 1 from by rw [← hR]; simp [Zcb, Zcf]);clear hR;go_enter Tryz.func52, Tryz.ntmps52;go_wp2_with fail;refine (HWF.o _).mono ?_;rintro e w2 ⟨rfl, hb2⟩;replace HST := zh (HST.o.later hb2);replace HM := zC hb2 HM;replace HB := zh (HB.o.trans (Below.mono hb2 HB.o.size));clear hb2;have m0 := cz3 HM.o;go_wp2_with fail;refine (Zbc r B cs F w2 aH 1 HST.o).mono ?_;rintro e w3 ⟨rfl, rfl⟩;go_wp2_with fail;go_ret;exact ⟨Z9 HR.o.symm, HB.o⟩
theorem Zrt (r : Zh) (B : Nat) (cs : List Value) (F : Nat → Prop) (w : World) (aH index low high : Int) (text : ByteArray) (h : Zai F w B r cs) (hv : Ze F w ⟨20, aH, index, text, ⟨low, high⟩⟩ [.int .i64 20, .int .i64 aH, .int .i64 index, .string text, .int .i64 low, .int .i64 high]) :
  Calls Tryz.prog 52 #[.pointer (some ⟨B, 0, none⟩), .agg #[.int .i64 20, .int .i64 aH, .int .i64 index, .string text, .int .i64 low, .int .i64 high]] w fun e w' => e = .returned (.bool (Zz r ⟨20, aH, index, text, ⟨low, high⟩⟩)) ∧ Below w.heap.size w w' := by
 have HWF := zh (fun x => Z1 ⟨20, aH, index, text, ⟨low, high⟩⟩ _ F x (show Ze F x _ _ from hv));have hin : Zac aH ∧ Zac index := ⟨hv.2.2.1, hv.2.2.2.1⟩;have HST := zh (h.later ((Za.refl w).alloc (.cells #[.int .i64 20, .int .i64 aH, .int .i64 index, .string text, .int .i64 low, .int .i64 high] 34)));have HM := zh (heap_alloc_new w (.cells #[.int .i64 20, .int .i64 aH, .int .i64 index, .string text, .int .i64 low, .int .i64 high] 34));have HB := zh ((Below.refl w.heap.size w).alloc (Nat.le_refl _) (.cells #[.int .i64 20, .int .i64 aH, .int .i64 index, .string text, .int .i64 low, .int .i64 high] 34));obtain ⟨p, hp⟩ : ∃ p, Zw ⟨20, aH, index, text, ⟨low, high⟩⟩ = p := ⟨_, rfl⟩;obtain ⟨R, hR⟩ : ∃ R, Zz r ⟨20, aH, index, text, ⟨low, high⟩⟩ = R := ⟨_, rfl⟩;rw [hR];rw [hp] at HWF;unfold Zz at hR;rw [hp] at hR;clear h hv;have HP := zh hp;clear hp
 cases p with
 | false =>
  have HR := zh (show R = false from hR.symm);clear hR;go_enter Tryz.func52, Tryz.ntmps52;go_wp2_with fail;refine (HWF.o _).mono ?_;rintro e w2 ⟨rfl, hb2⟩;have HB2 := zh (HB.o.trans (Below.mono hb2 HB.o.size));clear hb2;go_wp2_with fail;go_ret;exact ⟨Z9 HR.o.symm, HB2.o⟩
 | true =>
  rw [Bool.true_and] at hR;have HR := zh (show R = Zb9 r aH 9 from by rw [← hR]; simp [Zcb, Zcf]);clear hR;go_enter Tryz.func52, Tryz.ntmps52;go_wp2_with fail;refine (HWF.o _).mono ?_;rintro e w2 ⟨rfl, hb2⟩;replace HST := zh (HST.o.later hb2);replace HM := zC hb2 HM;replace HB := zh (HB.o.trans (Below.mono hb2 HB.o.size));clear hb2;have m0 := cz3 HM.o;go_wp2_with fail;refine (Zbc r B cs F w2 aH 9 HST.o).mono ?_;rintro e w3 ⟨rfl, rfl⟩;go_wp2_with fail;go_ret;exact ⟨Z9 HR.o.symm, HB.o⟩
end Go.Proofs.YtpmhelkiicigfaaGreatDoor
