/- Copies of a Code: to of the laws. Printed by gen_codedata.py. -/
import Derived.Test.YtopaeiogbijppaaDoorCdSz
import Derived.Deep.DeepCutAuto
namespace Go.Proofs.YtopaeiogbijppaaDoor
open Go.RowKit

theorem heap_size_alloc (w : World) (o : Obj) : (w.alloc o).heap.size = w.heap.size + 1 := by simp
theorem infoStringS : (Tryd.prog.info? 9).map (fun i => (i.zero, i.size, i.bytes)) = some (some (.string ⟨#[]⟩), 1, 16) := by kernel_rfl
theorem makeStringS (n : Nat) (hn : n ≤ 2097152) : ∃ cur : Array Value, cur.size = n * 1 ∧ ∀ w : World, (Instr.makeSlice 30 (.int .i64 (n : Int)) (.int .i64 (n : Int))).run Tryd.prog w = .ok (.slice (some ⟨w.heap.size, 0, none⟩) n n) (w.alloc (.cells cur 9)) := by
  obtain ⟨i, hi, hz0, hz1, hz2⟩ := info_parts infoStringS
  refine ⟨madeCells (Value.cells (.string ⟨#[]⟩)) (n * 1), size_madeCells _ _, fun w => ?_⟩
  have := run_make (P := Tryd.prog) w 30 9 i _ Tryd.underlying30 hi hz0 .i64 .i64 n n (by omega) (by omega) (by rw [hz2]; omega) (by omega)
  rw [hz1] at this
  simpa using this
set_option maxRecDepth 100000 in
set_option maxHeartbeats 1000000 in
theorem toStringS_any (l : List ByteArray) (v : Value) (F : Nat → Prop) (w : World) (hsz : szRow ByteArray.size l ≤ 1048576) (hr : RowIs strEl 1 F w l v) :
    Calls Tryd.prog 36 #[v] w fun e w' => ∃ v', e = .returned v' ∧ RowIs strEl 1 (fun b => w.heap.size ≤ b) w' l v' ∧ Below w.heap.size w w' := by
  obtain ⟨A, c, rfl, hc, hcm, hel⟩ := hr
  have HEL := Lib.hid hel
  have hlen : l.length ≤ 1048576 := by unfold szRow at hsz; omega
  have HSZ := Lib.hid (show szAll ByteArray.size l ≤ 1048576 by unfold szRow at hsz; omega)
  clear hel hsz hcm
  obtain ⟨cur0, hcur0, hmkr⟩ := makeStringS l.length (by omega)
  have HC0 := Lib.hid hcur0
  clear hcur0
  go_enter Tryd.func36, Tryd.ntmps36
  go_wp2_with fail
  obtain ⟨B, hB⟩ : ∃ B, w.heap.size = B := ⟨_, rfl⟩
  have hwB : w.heap.size ≤ B := by omega
  have HS0 : Hid (RowMk strEl 1 9 B (fun b => B < b) l 0 (w.alloc (.cells cur0 9))) := Lib.hid (RowMk.start (by rw [← hB]; exact heap_alloc_new w _) HC0.out)
  have HBe := Lib.hid ((Below.refl w.heap.size w).alloc (Nat.le_refl _) (.cells cur0 9))
  rw [hB]
  clear hmkr HC0
  have HBw := Lib.hid hB
  clear hB
  go_loopw [4] (fun i wr => ∃ j : Nat, j ≤ l.length ∧ i = .int .i64 j ∧ RowMk strEl 1 9 B (fun b => B < b) l j wr ∧ Below w.heap.size w wr) (fun i _ => l.length - (intOf i).toNat)
  case atStart => exact ⟨0, Nat.zero_le _, rfl, HS0.out, HBe.out⟩
  case round =>
    obtain ⟨j, hj, rfl, hmk, hbel⟩ := hrel
    have hBw : B < wr.heap.size := by obtain ⟨cur, h, _⟩ := hmk; exact (Array.getElem?_eq_some_iff.1 h).1
    by_cases hlt : j < l.length
    · obtain ⟨b, o, cs, rfl, hF, hbl, hE, hcell⟩ := HEL.out j hlt
      skip
      obtain ⟨rfl, hsm⟩ := hE
      have hlt' : (j : Int) < l.length := by omega
      have e0 := (hbel.cell (p := ⟨b, o + j * 1 + 0, none⟩) hbl).trans (hcell 0 _ rfl)
      simp only [Nat.mul_one, Nat.add_zero] at e0
      have hmk4 := hmk
      have hB4 := hmk4.at_ hlt
      have HN := Lib.hid (RowMk.next strEl_is (by omega) hmk (Later.refl _) hlt (cs := [.string l[j]]) ⟨rfl, hsm⟩)
      have HB5 := Lib.hid (setMany_below hwB [.string l[j]] wr (j * 1) hbel)
      rw [Nat.mul_one] at HN HB5
      obtain ⟨hce, hfr⟩ := hB4
      have f0 := hfr (j * 1 + 0)
      obtain ⟨u0, c0⟩ := hce 0 (by decide)
      simp only [Nat.mul_one, Nat.add_zero] at c0 f0
      clear hce hfr hmk4 hmk 
      go_wp2_with fail
      go_roundw
      case rel => exact ⟨j + 1, by omega, by go_num, HN.out, HB5.out⟩
      case measure => simp [intOf]; omega
    · have hjl : j = l.length := by omega
      have HD := Lib.hid (RowMk.done strEl_is (by rw [hjl] at hmk; exact hmk) (G := fun b => w.heap.size ≤ b) (fun b h => by have := HBw.out; omega) hwB (by unfold maxLen; omega))
      clear hmk
      go_wp2_with fail
      go_ret
      exact ⟨_, rfl, HD.out, hbel⟩
set_option maxRecDepth 100000 in
set_option maxHeartbeats 1000000 in
theorem toRecordType_any (r : RecordTypeD) (cs : List Value) (F : Nat → Prop) (w : World) (hsz : szRecordTypeD r ≤ 1048576) (h : recordTypeEl F w r cs) :
    Calls Tryd.prog 68 #[.agg cs.toArray] w fun e w' => ∃ cs', e = .returned (.agg cs'.toArray) ∧ recordTypeEl (fun b => w.heap.size ≤ b) w' r cs' ∧ Below w.heap.size w w' := by
  obtain ⟨vfields, rfl, hname, hfields, hline⟩ := h
  have HSZ := Lib.hid (show r.name.size + (szRow ByteArray.size r.fields) ≤ 1048576 from hsz)
  clear hsz
  have Hname := Lib.hid hname
  clear hname
  have Hfields := Lib.hid hfields
  clear hfields
  have Hline := Lib.hid hline
  clear hline
  have HP := Lib.hid (((Later.refl _).alloc (.cells #[.string ⟨#[]⟩, .slice none 0 0, .int .i64 0] 63)).alloc (.cells #[.string r.name, .slice none 0 0, .int .i64 0] 63) |>.block _ (by simp) |>.trans (heap_alloc_new w (.cells #[.string r.name, vfields, .int .i64 r.line] 85)))
  have HZ := Lib.hid ((Later.refl _).alloc (.cells #[.string r.name, .slice none 0 0, .int .i64 0] 63) |>.block _ (by simp) |>.trans (heap_alloc_new (w.alloc (.cells #[.string r.name, vfields, .int .i64 r.line] 85)) (.cells #[.string ⟨#[]⟩, .slice none 0 0, .int .i64 0] 63)))
  have HO := Lib.hid (heap_alloc_new ((w.alloc (.cells #[.string r.name, vfields, .int .i64 r.line] 85)).alloc (.cells #[.string ⟨#[]⟩, .slice none 0 0, .int .i64 0] 63)) (.cells #[.string r.name, .slice none 0 0, .int .i64 0] 63))
  simp only [heap_size_alloc] at HZ HO
  have HB := Lib.hid ((((Below.refl w.heap.size w).alloc (Nat.le_refl _) (.cells #[.string r.name, vfields, .int .i64 r.line] 85)).alloc (by simp) (.cells #[.string ⟨#[]⟩, .slice none 0 0, .int .i64 0] 63)).alloc (by simp; omega) (.cells #[.string r.name, .slice none 0 0, .int .i64 0] 63))
  have hne1 : ¬ w.heap.size = w.heap.size + 2 := by omega
  have hne2 : ¬ w.heap.size + 1 = w.heap.size + 2 := by omega
  have hne3 : ¬ w.heap.size + 2 = w.heap.size + 1 := by omega
  have hne4 : ¬ w.heap.size = w.heap.size + 1 := by omega
  go_enter Tryd.func68, Tryd.ntmps68
  go_wp2_with fail
  refine (toStringS_any r.fields vfields F _ (by have := HSZ.out; omega) (Hfields.out.later strEl_is HB.out)).mono ?_
  rintro e w1 ⟨v', rfl, hr1, hb1⟩
  obtain ⟨A1, c1, rfl, _⟩ := id hr1
  have hlo := (Array.getElem?_eq_some_iff.1 HO.out).1
  have HR1 := Lib.hid (hr1.keep strEl_is (G := fun b => w.heap.size + 2 < b) (fun b h => Nat.lt_of_lt_of_le hlo h) (Keeps.later (Later.refl _)))
  replace HP := Lib.hid ((Below.block hb1 _ (Array.getElem?_eq_some_iff.1 HP.out).1).trans HP.out)
  replace HZ := Lib.hid ((Below.block hb1 _ (Array.getElem?_eq_some_iff.1 HZ.out).1).trans HZ.out)
  replace HO := Lib.hid ((Below.block hb1 _ (Array.getElem?_eq_some_iff.1 HO.out).1).trans HO.out)
  replace HB := Lib.hid (HB.out.trans (Below.mono hb1 HB.out.size))
  clear hr1 hb1 hlo
  have p0 := cell_of_row _ w.heap.size 0 _ _ _ HP.out
  have z0 := cell_of_row _ (w.heap.size + 1) 0 _ _ _ HZ.out
  have o0 := cell_of_row _ (w.heap.size + 2) 0 _ _ _ HO.out
  have fz0 := frozen_of_row _ (w.heap.size + 1) 0 _ _ HZ.out
  have fo0 := frozen_of_row _ (w.heap.size + 2) 0 _ _ HO.out
  have p1 := cell_of_row _ w.heap.size 1 _ _ _ HP.out
  have z1 := cell_of_row _ (w.heap.size + 1) 1 _ _ _ HZ.out
  have o1 := cell_of_row _ (w.heap.size + 2) 1 _ _ _ HO.out
  have fz1 := frozen_of_row _ (w.heap.size + 1) 1 _ _ HZ.out
  have fo1 := frozen_of_row _ (w.heap.size + 2) 1 _ _ HO.out
  have p2 := cell_of_row _ w.heap.size 2 _ _ _ HP.out
  have z2 := cell_of_row _ (w.heap.size + 1) 2 _ _ _ HZ.out
  have o2 := cell_of_row _ (w.heap.size + 2) 2 _ _ _ HO.out
  have fz2 := frozen_of_row _ (w.heap.size + 1) 2 _ _ HZ.out
  have fo2 := frozen_of_row _ (w.heap.size + 2) 2 _ _ HO.out
  simp only [List.getElem?_toArray, List.getElem?_cons_succ, List.getElem?_cons_zero] at p0 z0 o0 p1 z1 o1 p2 z2 o2
  replace HO := Lib.hid (row_set (o := 2) (row_set (o := 1) HO.out (.slice A1 r.fields.length c1)) (.int .i64 r.line))
  simp only [List.setIfInBounds_toArray, List.set_cons_zero, List.set_cons_succ] at HO
  replace HP := Lib.hid ((Below.heap_setCell _ ⟨w.heap.size + 2, 2, none⟩ (.int .i64 r.line) _ hne1).trans ((Below.heap_setCell _ ⟨w.heap.size + 2, 1, none⟩ (.slice A1 r.fields.length c1) _ hne1).trans HP.out))
  replace HZ := Lib.hid ((Below.heap_setCell _ ⟨w.heap.size + 2, 2, none⟩ (.int .i64 r.line) _ hne2).trans ((Below.heap_setCell _ ⟨w.heap.size + 2, 1, none⟩ (.slice A1 r.fields.length c1) _ hne2).trans HZ.out))
  replace HB := Lib.hid ((HB.out.setCell (p := ⟨w.heap.size + 2, 1, none⟩) (by simp) (.slice A1 r.fields.length c1)).setCell (p := ⟨w.heap.size + 2, 2, none⟩) (by simp) (.int .i64 r.line))
  replace HR1 := Lib.hid (HR1.out.keep strEl_is (fun _ h => h) (((Keeps.later (Later.refl w1)).set (B := w.heap.size + 2) (by omega) 1 (.slice A1 r.fields.length c1)).set (B := w.heap.size + 2) (by omega) 2 (.int .i64 r.line)))
  go_upto_region 5 with (fail)
  clear p0 z0 o0 fz0 fo0 p1 z1 o1 fz1 fo1 p2 z2 o2 fz2 fo2
  obtain ⟨wf, hwf⟩ : ∃ wf, wf = ((w1.setCell ⟨w.heap.size + 2, 1, none⟩ (.slice A1 r.fields.length c1)).setCell ⟨w.heap.size + 2, 2, none⟩ (.int .i64 r.line)) := ⟨_, rfl⟩
  rw [← hwf] at HO HP HZ HB HR1 ⊢
  clear hwf
  have z0 := cell_of_row _ (w.heap.size + 1) 0 _ _ _ HZ.out
  have o0 := cell_of_row _ (w.heap.size + 2) 0 _ _ _ HO.out
  have fz0 := frozen_of_row _ (w.heap.size + 1) 0 _ _ HZ.out
  have z1 := cell_of_row _ (w.heap.size + 1) 1 _ _ _ HZ.out
  have o1 := cell_of_row _ (w.heap.size + 2) 1 _ _ _ HO.out
  have fz1 := frozen_of_row _ (w.heap.size + 1) 1 _ _ HZ.out
  have z2 := cell_of_row _ (w.heap.size + 1) 2 _ _ _ HZ.out
  have o2 := cell_of_row _ (w.heap.size + 2) 2 _ _ _ HO.out
  have fz2 := frozen_of_row _ (w.heap.size + 1) 2 _ _ HZ.out
  simp only [List.getElem?_toArray, List.getElem?_cons_succ, List.getElem?_cons_zero] at z0 o0 z1 o1 z2 o2
  go_wp2_with fail
  refine bodyPost_ret (v := .agg #[.string r.name, .slice A1 r.fields.length c1, .int .i64 r.line]) (by simp [results, Tryd.results68, go_sem, z0, o0, fz0, z1, o1, fz1, z2, o2, fz2, hne3]) rfl ⟨[.string r.name, .slice A1 r.fields.length c1, .int .i64 r.line], rfl, ⟨_, rfl, Hname.out, HR1.out.keep strEl_is (fun b h => by omega) ((((Keeps.later (Later.refl wf)).set (B := w.heap.size + 1) (by omega) 0 _).set (B := w.heap.size + 1) (by omega) 1 _).set (B := w.heap.size + 1) (by omega) 2 _), Hline.out⟩, (((HB.out.setCell (p := ⟨w.heap.size + 1, 0, none⟩) (by simp) _).setCell (p := ⟨w.heap.size + 1, 1, none⟩) (by simp) _).setCell (p := ⟨w.heap.size + 1, 2, none⟩) (by simp) _)⟩
theorem infoRecordTypeS : (Tryd.prog.info? 63).map (fun i => (i.zero, i.size, i.bytes)) = some (some (.agg #[.string ⟨#[]⟩, .slice none 0 0, .int .i64 0]), 3, 48) := by kernel_rfl
theorem makeRecordTypeS (n : Nat) (hn : n ≤ 2097152) : ∃ cur : Array Value, cur.size = n * 3 ∧ ∀ w : World, (Instr.makeSlice 37 (.int .i64 (n : Int)) (.int .i64 (n : Int))).run Tryd.prog w = .ok (.slice (some ⟨w.heap.size, 0, none⟩) n n) (w.alloc (.cells cur 63)) := by
  obtain ⟨i, hi, hz0, hz1, hz2⟩ := info_parts infoRecordTypeS
  refine ⟨madeCells (Value.cells (.agg #[.string ⟨#[]⟩, .slice none 0 0, .int .i64 0])) (n * 3), size_madeCells _ _, fun w => ?_⟩
  have := run_make (P := Tryd.prog) w 37 63 i _ Tryd.underlying37 hi hz0 .i64 .i64 n n (by omega) (by omega) (by rw [hz2]; omega) (by omega)
  rw [hz1] at this
  simpa using this
set_option maxRecDepth 100000 in
set_option maxHeartbeats 1000000 in
theorem toRecordTypeS_any (l : List RecordTypeD) (v : Value) (F : Nat → Prop) (w : World) (hsz : szRow szRecordTypeD l ≤ 1048576) (hr : RowIs recordTypeEl 3 F w l v) :
    Calls Tryd.prog 35 #[v] w fun e w' => ∃ v', e = .returned v' ∧ RowIs recordTypeEl 3 (fun b => w.heap.size ≤ b) w' l v' ∧ Below w.heap.size w w' := by
  obtain ⟨A, c, rfl, hc, hcm, hel⟩ := hr
  have HEL := Lib.hid hel
  have hlen : l.length ≤ 1048576 := by unfold szRow at hsz; omega
  have HSZ := Lib.hid (show szAll szRecordTypeD l ≤ 1048576 by unfold szRow at hsz; omega)
  clear hel hsz hcm
  obtain ⟨cur0, hcur0, hmkr⟩ := makeRecordTypeS l.length (by omega)
  have HC0 := Lib.hid hcur0
  clear hcur0
  go_enter Tryd.func35, Tryd.ntmps35
  go_wp2_with fail
  obtain ⟨B, hB⟩ : ∃ B, w.heap.size = B := ⟨_, rfl⟩
  have hwB : w.heap.size ≤ B := by omega
  have HS0 : Hid (RowMk recordTypeEl 3 63 B (fun b => B < b) l 0 (w.alloc (.cells cur0 63))) := Lib.hid (RowMk.start (by rw [← hB]; exact heap_alloc_new w _) HC0.out)
  have HBe := Lib.hid ((Below.refl w.heap.size w).alloc (Nat.le_refl _) (.cells cur0 63))
  rw [hB]
  clear hmkr HC0
  have HBw := Lib.hid hB
  clear hB
  go_loopw [4] (fun i wr => ∃ j : Nat, j ≤ l.length ∧ i = .int .i64 j ∧ RowMk recordTypeEl 3 63 B (fun b => B < b) l j wr ∧ Below w.heap.size w wr) (fun i _ => l.length - (intOf i).toNat)
  case atStart => exact ⟨0, Nat.zero_le _, rfl, HS0.out, HBe.out⟩
  case round =>
    obtain ⟨j, hj, rfl, hmk, hbel⟩ := hrel
    have hBw : B < wr.heap.size := by obtain ⟨cur, h, _⟩ := hmk; exact (Array.getElem?_eq_some_iff.1 h).1
    by_cases hlt : j < l.length
    · obtain ⟨b, o, cs, rfl, hF, hbl, hE, hcell⟩ := HEL.out j hlt
      have hE' := hE
      obtain ⟨vfields, rfl, hfacts⟩ := hE
      have hlt' : (j : Int) < l.length := by omega
      have e0 := (hbel.cell (p := ⟨b, o + j * 3 + 0, none⟩) hbl).trans (hcell 0 _ rfl)
      have e1 := (hbel.cell (p := ⟨b, o + j * 3 + 1, none⟩) hbl).trans (hcell 1 _ rfl)
      have e2 := (hbel.cell (p := ⟨b, o + j * 3 + 2, none⟩) hbl).trans (hcell 2 _ rfl)
      simp only [Nat.mul_one, Nat.add_zero] at e0
      have HE2 := Lib.hid (recordTypeEl_is.keep (G := F) hE' (fun _ h => h) (Keeps.later hbel))
      have HS := Lib.hid (Nat.le_trans (szAll_mem szRecordTypeD l l[j] (List.getElem_mem hlt)) (HSZ.out))
      clear hE' hcell hfacts
      go_wp2_with fail
      refine (toRecordType_any l[j] _ F wr HS.out HE2.out).mono ?_
      rintro e w4 ⟨cs4, rfl, hE4, hb4⟩
      have hmk4 := hmk.later recordTypeEl_is hb4
      have hB4 := hmk4.at_ hlt
      have HN := Lib.hid (RowMk.next recordTypeEl_is (by omega) hmk hb4 hlt (recordTypeEl_is.keep (G := fun b => B < b) hE4 (fun b h => Nat.lt_of_lt_of_le hBw h) (Keeps.later (Later.refl _))))
      have hbel4 : Below w.heap.size w w4 := hbel.trans (Below.mono hb4 hbel.size)
      have HB5 := Lib.hid (setMany_below hwB cs4 w4 (j * 3) hbel4)
      obtain ⟨vfields, rfl, hfacts⟩ := hE4
      obtain ⟨_, _, rfl, _⟩ := hfacts.2.1
      obtain ⟨hce, hfr⟩ := hB4
      have f0 := hfr (j * 3 + 0)
      obtain ⟨u0, c0⟩ := hce 0 (by decide)
      have f1 := hfr (j * 3 + 1)
      obtain ⟨u1, c1⟩ := hce 1 (by decide)
      have f2 := hfr (j * 3 + 2)
      obtain ⟨u2, c2⟩ := hce 2 (by decide)
      simp only [Nat.add_zero] at c0 f0
      clear hce hfr hmk4 hmk hb4 hbel4
      go_wp2_with fail
      go_roundw
      case rel => exact ⟨j + 1, by omega, by go_num, HN.out, HB5.out⟩
      case measure => simp [intOf]; omega
    · have hjl : j = l.length := by omega
      have HD := Lib.hid (RowMk.done recordTypeEl_is (by rw [hjl] at hmk; exact hmk) (G := fun b => w.heap.size ≤ b) (fun b h => by have := HBw.out; omega) hwB (by unfold maxLen; omega))
      clear hmk
      go_wp2_with fail
      go_ret
      exact ⟨_, rfl, HD.out, hbel⟩

set_option maxRecDepth 100000 in
set_option maxHeartbeats 1000000 in
theorem toCodeRoutine_any (r : CodeRoutineD) (cs : List Value) (F : Nat → Prop) (w : World) (hsz : szCodeRoutineD r ≤ 1048576) (h : codeRoutineEl F w r cs) :
    Calls Tryd.prog 67 #[.agg cs.toArray] w fun e w' => ∃ cs', e = .returned (.agg cs'.toArray) ∧ codeRoutineEl (fun b => w.heap.size ≤ b) w' r cs' ∧ Below w.heap.size w w' := by
  obtain ⟨rfl, hname, hparams, hslots, hentry⟩ := h
  have HF := Lib.hid (And.intro trivial (And.intro hname (And.intro hparams (And.intro hslots (hentry)))))
  clear hname hparams hslots hentry
  go_enter Tryd.func67, Tryd.ntmps67
  go_wp2_with fail
  refine bodyPost_ret (v := .agg #[.string r.name, .int .i64 r.params, .int .i64 r.slots, .int .i64 r.entry]) (by simp [results, Tryd.results67, go_sem]) rfl ⟨[.string r.name, .int .i64 r.params, .int .i64 r.slots, .int .i64 r.entry], rfl, ⟨rfl, HF.out.2⟩, ?_⟩
  exact (((Below.refl _ _).alloc (Nat.le_refl _) _).alloc (by simp) _).alloc (by simp; omega) _
theorem infoCodeRoutineS : (Tryd.prog.info? 61).map (fun i => (i.zero, i.size, i.bytes)) = some (some (.agg #[.string ⟨#[]⟩, .int .i64 0, .int .i64 0, .int .i64 0]), 4, 40) := by kernel_rfl
theorem makeCodeRoutineS (n : Nat) (hn : n ≤ 2097152) : ∃ cur : Array Value, cur.size = n * 4 ∧ ∀ w : World, (Instr.makeSlice 36 (.int .i64 (n : Int)) (.int .i64 (n : Int))).run Tryd.prog w = .ok (.slice (some ⟨w.heap.size, 0, none⟩) n n) (w.alloc (.cells cur 61)) := by
  obtain ⟨i, hi, hz0, hz1, hz2⟩ := info_parts infoCodeRoutineS
  refine ⟨madeCells (Value.cells (.agg #[.string ⟨#[]⟩, .int .i64 0, .int .i64 0, .int .i64 0])) (n * 4), size_madeCells _ _, fun w => ?_⟩
  have := run_make (P := Tryd.prog) w 36 61 i _ Tryd.underlying36 hi hz0 .i64 .i64 n n (by omega) (by omega) (by rw [hz2]; omega) (by omega)
  rw [hz1] at this
  simpa using this
set_option maxRecDepth 100000 in
set_option maxHeartbeats 1000000 in
theorem toCodeRoutineS_any (l : List CodeRoutineD) (v : Value) (F : Nat → Prop) (w : World) (hsz : szRow szCodeRoutineD l ≤ 1048576) (hr : RowIs codeRoutineEl 4 F w l v) :
    Calls Tryd.prog 34 #[v] w fun e w' => ∃ v', e = .returned v' ∧ RowIs codeRoutineEl 4 (fun b => w.heap.size ≤ b) w' l v' ∧ Below w.heap.size w w' := by
  obtain ⟨A, c, rfl, hc, hcm, hel⟩ := hr
  have HEL := Lib.hid hel
  have hlen : l.length ≤ 1048576 := by unfold szRow at hsz; omega
  have HSZ := Lib.hid (show szAll szCodeRoutineD l ≤ 1048576 by unfold szRow at hsz; omega)
  clear hel hsz hcm
  obtain ⟨cur0, hcur0, hmkr⟩ := makeCodeRoutineS l.length (by omega)
  have HC0 := Lib.hid hcur0
  clear hcur0
  go_enter Tryd.func34, Tryd.ntmps34
  go_wp2_with fail
  obtain ⟨B, hB⟩ : ∃ B, w.heap.size = B := ⟨_, rfl⟩
  have hwB : w.heap.size ≤ B := by omega
  have HS0 : Hid (RowMk codeRoutineEl 4 61 B (fun b => B < b) l 0 (w.alloc (.cells cur0 61))) := Lib.hid (RowMk.start (by rw [← hB]; exact heap_alloc_new w _) HC0.out)
  have HBe := Lib.hid ((Below.refl w.heap.size w).alloc (Nat.le_refl _) (.cells cur0 61))
  rw [hB]
  clear hmkr HC0
  have HBw := Lib.hid hB
  clear hB
  go_loopw [4] (fun i wr => ∃ j : Nat, j ≤ l.length ∧ i = .int .i64 j ∧ RowMk codeRoutineEl 4 61 B (fun b => B < b) l j wr ∧ Below w.heap.size w wr) (fun i _ => l.length - (intOf i).toNat)
  case atStart => exact ⟨0, Nat.zero_le _, rfl, HS0.out, HBe.out⟩
  case round =>
    obtain ⟨j, hj, rfl, hmk, hbel⟩ := hrel
    have hBw : B < wr.heap.size := by obtain ⟨cur, h, _⟩ := hmk; exact (Array.getElem?_eq_some_iff.1 h).1
    by_cases hlt : j < l.length
    · obtain ⟨b, o, cs, rfl, hF, hbl, hE, hcell⟩ := HEL.out j hlt
      have hE' := hE
      obtain ⟨rfl, hfacts⟩ := hE
      have hlt' : (j : Int) < l.length := by omega
      have e0 := (hbel.cell (p := ⟨b, o + j * 4 + 0, none⟩) hbl).trans (hcell 0 _ rfl)
      have e1 := (hbel.cell (p := ⟨b, o + j * 4 + 1, none⟩) hbl).trans (hcell 1 _ rfl)
      have e2 := (hbel.cell (p := ⟨b, o + j * 4 + 2, none⟩) hbl).trans (hcell 2 _ rfl)
      have e3 := (hbel.cell (p := ⟨b, o + j * 4 + 3, none⟩) hbl).trans (hcell 3 _ rfl)
      simp only [Nat.mul_one, Nat.add_zero] at e0
      have HE2 := Lib.hid (codeRoutineEl_is.keep (G := F) hE' (fun _ h => h) (Keeps.later hbel))
      have HS := Lib.hid (Nat.le_trans (szAll_mem szCodeRoutineD l l[j] (List.getElem_mem hlt)) (HSZ.out))
      clear hE' hcell hfacts
      go_wp2_with fail
      refine (toCodeRoutine_any l[j] _ F wr HS.out HE2.out).mono ?_
      rintro e w4 ⟨cs4, rfl, hE4, hb4⟩
      have hmk4 := hmk.later codeRoutineEl_is hb4
      have hB4 := hmk4.at_ hlt
      have HN := Lib.hid (RowMk.next codeRoutineEl_is (by omega) hmk hb4 hlt (codeRoutineEl_is.keep (G := fun b => B < b) hE4 (fun b h => Nat.lt_of_lt_of_le hBw h) (Keeps.later (Later.refl _))))
      have hbel4 : Below w.heap.size w w4 := hbel.trans (Below.mono hb4 hbel.size)
      have HB5 := Lib.hid (setMany_below hwB cs4 w4 (j * 4) hbel4)
      obtain ⟨rfl, hfacts⟩ := hE4
      obtain ⟨hce, hfr⟩ := hB4
      have f0 := hfr (j * 4 + 0)
      obtain ⟨u0, c0⟩ := hce 0 (by decide)
      have f1 := hfr (j * 4 + 1)
      obtain ⟨u1, c1⟩ := hce 1 (by decide)
      have f2 := hfr (j * 4 + 2)
      obtain ⟨u2, c2⟩ := hce 2 (by decide)
      have f3 := hfr (j * 4 + 3)
      obtain ⟨u3, c3⟩ := hce 3 (by decide)
      simp only [Nat.add_zero] at c0 f0
      clear hce hfr hmk4 hmk hb4 hbel4
      go_wp2_with fail
      go_roundw
      case rel => exact ⟨j + 1, by omega, by go_num, HN.out, HB5.out⟩
      case measure => simp [intOf]; omega
    · have hjl : j = l.length := by omega
      have HD := Lib.hid (RowMk.done codeRoutineEl_is (by rw [hjl] at hmk; exact hmk) (G := fun b => w.heap.size ≤ b) (fun b h => by have := HBw.out; omega) hwB (by unfold maxLen; omega))
      clear hmk
      go_wp2_with fail
      go_ret
      exact ⟨_, rfl, HD.out, hbel⟩

set_option maxRecDepth 100000 in
set_option maxHeartbeats 1000000 in
theorem toInstr_any (r : InstrD) (cs : List Value) (F : Nat → Prop) (w : World) (hsz : szInstrD r ≤ 1048576) (h : instrEl F w r cs) :
    Calls Tryd.prog 69 #[.agg cs.toArray] w fun e w' => ∃ cs', e = .returned (.agg cs'.toArray) ∧ instrEl (fun b => w.heap.size ≤ b) w' r cs' ∧ Below w.heap.size w w' := by
  obtain ⟨rfl, hop, ha, hb, hline, htext⟩ := h
  have HF := Lib.hid (And.intro trivial (And.intro hop (And.intro ha (And.intro hb (And.intro hline (htext))))))
  clear hop ha hb hline htext
  go_enter Tryd.func69, Tryd.ntmps69
  go_wp2_with fail
  refine bodyPost_ret (v := .agg #[.int .i64 r.op, .int .i64 r.a, .int .i64 r.b, .int .i64 r.line, .string r.text]) (by simp [results, Tryd.results69, go_sem]) rfl ⟨[.int .i64 r.op, .int .i64 r.a, .int .i64 r.b, .int .i64 r.line, .string r.text], rfl, ⟨rfl, HF.out.2⟩, ?_⟩
  exact (((Below.refl _ _).alloc (Nat.le_refl _) _).alloc (by simp) _).alloc (by simp; omega) _
theorem infoInstrS : (Tryd.prog.info? 23).map (fun i => (i.zero, i.size, i.bytes)) = some (some (.agg #[.int .i64 0, .int .i64 0, .int .i64 0, .int .i64 0, .string ⟨#[]⟩]), 5, 48) := by kernel_rfl
theorem makeInstrS (n : Nat) (hn : n ≤ 2097152) : ∃ cur : Array Value, cur.size = n * 5 ∧ ∀ w : World, (Instr.makeSlice 38 (.int .i64 (n : Int)) (.int .i64 (n : Int))).run Tryd.prog w = .ok (.slice (some ⟨w.heap.size, 0, none⟩) n n) (w.alloc (.cells cur 23)) := by
  obtain ⟨i, hi, hz0, hz1, hz2⟩ := info_parts infoInstrS
  refine ⟨madeCells (Value.cells (.agg #[.int .i64 0, .int .i64 0, .int .i64 0, .int .i64 0, .string ⟨#[]⟩])) (n * 5), size_madeCells _ _, fun w => ?_⟩
  have := run_make (P := Tryd.prog) w 38 23 i _ Tryd.underlying38 hi hz0 .i64 .i64 n n (by omega) (by omega) (by rw [hz2]; omega) (by omega)
  rw [hz1] at this
  simpa using this
set_option maxRecDepth 100000 in
set_option maxHeartbeats 1000000 in
theorem toInstrS_any (l : List InstrD) (v : Value) (F : Nat → Prop) (w : World) (hsz : szRow szInstrD l ≤ 1048576) (hr : RowIs instrEl 5 F w l v) :
    Calls Tryd.prog 37 #[v] w fun e w' => ∃ v', e = .returned v' ∧ RowIs instrEl 5 (fun b => w.heap.size ≤ b) w' l v' ∧ Below w.heap.size w w' := by
  obtain ⟨A, c, rfl, hc, hcm, hel⟩ := hr
  have HEL := Lib.hid hel
  have hlen : l.length ≤ 1048576 := by unfold szRow at hsz; omega
  have HSZ := Lib.hid (show szAll szInstrD l ≤ 1048576 by unfold szRow at hsz; omega)
  clear hel hsz hcm
  obtain ⟨cur0, hcur0, hmkr⟩ := makeInstrS l.length (by omega)
  have HC0 := Lib.hid hcur0
  clear hcur0
  go_enter Tryd.func37, Tryd.ntmps37
  go_wp2_with fail
  obtain ⟨B, hB⟩ : ∃ B, w.heap.size = B := ⟨_, rfl⟩
  have hwB : w.heap.size ≤ B := by omega
  have HS0 : Hid (RowMk instrEl 5 23 B (fun b => B < b) l 0 (w.alloc (.cells cur0 23))) := Lib.hid (RowMk.start (by rw [← hB]; exact heap_alloc_new w _) HC0.out)
  have HBe := Lib.hid ((Below.refl w.heap.size w).alloc (Nat.le_refl _) (.cells cur0 23))
  rw [hB]
  clear hmkr HC0
  have HBw := Lib.hid hB
  clear hB
  go_loopw [4] (fun i wr => ∃ j : Nat, j ≤ l.length ∧ i = .int .i64 j ∧ RowMk instrEl 5 23 B (fun b => B < b) l j wr ∧ Below w.heap.size w wr) (fun i _ => l.length - (intOf i).toNat)
  case atStart => exact ⟨0, Nat.zero_le _, rfl, HS0.out, HBe.out⟩
  case round =>
    obtain ⟨j, hj, rfl, hmk, hbel⟩ := hrel
    have hBw : B < wr.heap.size := by obtain ⟨cur, h, _⟩ := hmk; exact (Array.getElem?_eq_some_iff.1 h).1
    by_cases hlt : j < l.length
    · obtain ⟨b, o, cs, rfl, hF, hbl, hE, hcell⟩ := HEL.out j hlt
      have hE' := hE
      obtain ⟨rfl, hfacts⟩ := hE
      have hlt' : (j : Int) < l.length := by omega
      have e0 := (hbel.cell (p := ⟨b, o + j * 5 + 0, none⟩) hbl).trans (hcell 0 _ rfl)
      have e1 := (hbel.cell (p := ⟨b, o + j * 5 + 1, none⟩) hbl).trans (hcell 1 _ rfl)
      have e2 := (hbel.cell (p := ⟨b, o + j * 5 + 2, none⟩) hbl).trans (hcell 2 _ rfl)
      have e3 := (hbel.cell (p := ⟨b, o + j * 5 + 3, none⟩) hbl).trans (hcell 3 _ rfl)
      have e4 := (hbel.cell (p := ⟨b, o + j * 5 + 4, none⟩) hbl).trans (hcell 4 _ rfl)
      simp only [Nat.mul_one, Nat.add_zero] at e0
      have HE2 := Lib.hid (instrEl_is.keep (G := F) hE' (fun _ h => h) (Keeps.later hbel))
      have HS := Lib.hid (Nat.le_trans (szAll_mem szInstrD l l[j] (List.getElem_mem hlt)) (HSZ.out))
      clear hE' hcell hfacts
      go_wp2_with fail
      refine (toInstr_any l[j] _ F wr HS.out HE2.out).mono ?_
      rintro e w4 ⟨cs4, rfl, hE4, hb4⟩
      have hmk4 := hmk.later instrEl_is hb4
      have hB4 := hmk4.at_ hlt
      have HN := Lib.hid (RowMk.next instrEl_is (by omega) hmk hb4 hlt (instrEl_is.keep (G := fun b => B < b) hE4 (fun b h => Nat.lt_of_lt_of_le hBw h) (Keeps.later (Later.refl _))))
      have hbel4 : Below w.heap.size w w4 := hbel.trans (Below.mono hb4 hbel.size)
      have HB5 := Lib.hid (setMany_below hwB cs4 w4 (j * 5) hbel4)
      obtain ⟨rfl, hfacts⟩ := hE4
      obtain ⟨hce, hfr⟩ := hB4
      have f0 := hfr (j * 5 + 0)
      obtain ⟨u0, c0⟩ := hce 0 (by decide)
      have f1 := hfr (j * 5 + 1)
      obtain ⟨u1, c1⟩ := hce 1 (by decide)
      have f2 := hfr (j * 5 + 2)
      obtain ⟨u2, c2⟩ := hce 2 (by decide)
      have f3 := hfr (j * 5 + 3)
      obtain ⟨u3, c3⟩ := hce 3 (by decide)
      have f4 := hfr (j * 5 + 4)
      obtain ⟨u4, c4⟩ := hce 4 (by decide)
      simp only [Nat.add_zero] at c0 f0
      clear hce hfr hmk4 hmk hb4 hbel4
      go_wp2_with fail
      go_roundw
      case rel => exact ⟨j + 1, by omega, by go_num, HN.out, HB5.out⟩
      case measure => simp [intOf]; omega
    · have hjl : j = l.length := by omega
      have HD := Lib.hid (RowMk.done instrEl_is (by rw [hjl] at hmk; exact hmk) (G := fun b => w.heap.size ≤ b) (fun b h => by have := HBw.out; omega) hwB (by unfold maxLen; omega))
      clear hmk
      go_wp2_with fail
      go_ret
      exact ⟨_, rfl, HD.out, hbel⟩

set_option maxRecDepth 100000 in
set_option maxHeartbeats 1000000 in
theorem toCode_any (r : CodeD) (cs : List Value) (F : Nat → Prop) (w : World) (hsz : szCodeD r ≤ 1048576) (h : codeEl F w r cs) :
    Calls Tryd.prog 10 #[.agg cs.toArray] w fun e w' => ∃ cs', e = .returned (.agg cs'.toArray) ∧ codeEl (fun b => w.heap.size ≤ b) w' r cs' ∧ Below w.heap.size w w' := by
  obtain ⟨vroutines, vrecords, vglobals, vinstrs, rfl, hroutines, hrecords, hglobals, hmain, hinstrs⟩ := h
  have HSZ := Lib.hid (show szRow szCodeRoutineD r.routines + (szRow szRecordTypeD r.records + (szRow ByteArray.size r.globals + (szRow szInstrD r.instrs))) ≤ 1048576 from hsz)
  clear hsz
  have Hroutines := Lib.hid hroutines
  clear hroutines
  have Hrecords := Lib.hid hrecords
  clear hrecords
  have Hglobals := Lib.hid hglobals
  clear hglobals
  have Hmain := Lib.hid hmain
  clear hmain
  have Hinstrs := Lib.hid hinstrs
  clear hinstrs
  have HP := Lib.hid (((Later.refl _).alloc (.cells #[.slice none 0 0, .slice none 0 0, .slice none 0 0, .int .i64 0, .slice none 0 0] 40)).alloc (.cells #[.slice none 0 0, .slice none 0 0, .slice none 0 0, .int .i64 0, .slice none 0 0] 40) |>.block _ (by simp) |>.trans (heap_alloc_new w (.cells #[vroutines, vrecords, vglobals, .int .i64 r.main, vinstrs] 33)))
  have HZ := Lib.hid ((Later.refl _).alloc (.cells #[.slice none 0 0, .slice none 0 0, .slice none 0 0, .int .i64 0, .slice none 0 0] 40) |>.block _ (by simp) |>.trans (heap_alloc_new (w.alloc (.cells #[vroutines, vrecords, vglobals, .int .i64 r.main, vinstrs] 33)) (.cells #[.slice none 0 0, .slice none 0 0, .slice none 0 0, .int .i64 0, .slice none 0 0] 40)))
  have HO := Lib.hid (heap_alloc_new ((w.alloc (.cells #[vroutines, vrecords, vglobals, .int .i64 r.main, vinstrs] 33)).alloc (.cells #[.slice none 0 0, .slice none 0 0, .slice none 0 0, .int .i64 0, .slice none 0 0] 40)) (.cells #[.slice none 0 0, .slice none 0 0, .slice none 0 0, .int .i64 0, .slice none 0 0] 40))
  simp only [heap_size_alloc] at HZ HO
  have HB := Lib.hid ((((Below.refl w.heap.size w).alloc (Nat.le_refl _) (.cells #[vroutines, vrecords, vglobals, .int .i64 r.main, vinstrs] 33)).alloc (by simp) (.cells #[.slice none 0 0, .slice none 0 0, .slice none 0 0, .int .i64 0, .slice none 0 0] 40)).alloc (by simp; omega) (.cells #[.slice none 0 0, .slice none 0 0, .slice none 0 0, .int .i64 0, .slice none 0 0] 40))
  have hne1 : ¬ w.heap.size = w.heap.size + 2 := by omega
  have hne2 : ¬ w.heap.size + 1 = w.heap.size + 2 := by omega
  have hne3 : ¬ w.heap.size + 2 = w.heap.size + 1 := by omega
  have hne4 : ¬ w.heap.size = w.heap.size + 1 := by omega
  go_enter Tryd.func10, Tryd.ntmps10
  go_wp2_with fail
  refine (toCodeRoutineS_any r.routines vroutines F _ (by have := HSZ.out; omega) (Hroutines.out.later codeRoutineEl_is HB.out)).mono ?_
  rintro e w0 ⟨v', rfl, hr0, hb0⟩
  obtain ⟨A0, c0, rfl, _⟩ := id hr0
  have hlo := (Array.getElem?_eq_some_iff.1 HO.out).1
  have HR0 := Lib.hid (hr0.keep codeRoutineEl_is (G := fun b => w.heap.size + 2 < b) (fun b h => Nat.lt_of_lt_of_le hlo h) (Keeps.later (Later.refl _)))
  replace HP := Lib.hid ((Below.block hb0 _ (Array.getElem?_eq_some_iff.1 HP.out).1).trans HP.out)
  replace HZ := Lib.hid ((Below.block hb0 _ (Array.getElem?_eq_some_iff.1 HZ.out).1).trans HZ.out)
  replace HO := Lib.hid ((Below.block hb0 _ (Array.getElem?_eq_some_iff.1 HO.out).1).trans HO.out)
  replace HB := Lib.hid (HB.out.trans (Below.mono hb0 HB.out.size))
  clear hr0 hb0 hlo
  have p0 := cell_of_row _ w.heap.size 0 _ _ _ HP.out
  have z0 := cell_of_row _ (w.heap.size + 1) 0 _ _ _ HZ.out
  have o0 := cell_of_row _ (w.heap.size + 2) 0 _ _ _ HO.out
  have fz0 := frozen_of_row _ (w.heap.size + 1) 0 _ _ HZ.out
  have fo0 := frozen_of_row _ (w.heap.size + 2) 0 _ _ HO.out
  have p1 := cell_of_row _ w.heap.size 1 _ _ _ HP.out
  have z1 := cell_of_row _ (w.heap.size + 1) 1 _ _ _ HZ.out
  have o1 := cell_of_row _ (w.heap.size + 2) 1 _ _ _ HO.out
  have fz1 := frozen_of_row _ (w.heap.size + 1) 1 _ _ HZ.out
  have fo1 := frozen_of_row _ (w.heap.size + 2) 1 _ _ HO.out
  have p2 := cell_of_row _ w.heap.size 2 _ _ _ HP.out
  have z2 := cell_of_row _ (w.heap.size + 1) 2 _ _ _ HZ.out
  have o2 := cell_of_row _ (w.heap.size + 2) 2 _ _ _ HO.out
  have fz2 := frozen_of_row _ (w.heap.size + 1) 2 _ _ HZ.out
  have fo2 := frozen_of_row _ (w.heap.size + 2) 2 _ _ HO.out
  have p3 := cell_of_row _ w.heap.size 3 _ _ _ HP.out
  have z3 := cell_of_row _ (w.heap.size + 1) 3 _ _ _ HZ.out
  have o3 := cell_of_row _ (w.heap.size + 2) 3 _ _ _ HO.out
  have fz3 := frozen_of_row _ (w.heap.size + 1) 3 _ _ HZ.out
  have fo3 := frozen_of_row _ (w.heap.size + 2) 3 _ _ HO.out
  have p4 := cell_of_row _ w.heap.size 4 _ _ _ HP.out
  have z4 := cell_of_row _ (w.heap.size + 1) 4 _ _ _ HZ.out
  have o4 := cell_of_row _ (w.heap.size + 2) 4 _ _ _ HO.out
  have fz4 := frozen_of_row _ (w.heap.size + 1) 4 _ _ HZ.out
  have fo4 := frozen_of_row _ (w.heap.size + 2) 4 _ _ HO.out
  simp only [List.getElem?_toArray, List.getElem?_cons_succ, List.getElem?_cons_zero] at p0 z0 o0 p1 z1 o1 p2 z2 o2 p3 z3 o3 p4 z4 o4
  replace HO := Lib.hid (row_set (o := 0) HO.out (.slice A0 r.routines.length c0))
  simp only [List.setIfInBounds_toArray, List.set_cons_zero, List.set_cons_succ] at HO
  replace HP := Lib.hid ((Below.heap_setCell _ ⟨w.heap.size + 2, 0, none⟩ (.slice A0 r.routines.length c0) _ hne1).trans HP.out)
  replace HZ := Lib.hid ((Below.heap_setCell _ ⟨w.heap.size + 2, 0, none⟩ (.slice A0 r.routines.length c0) _ hne2).trans HZ.out)
  replace HB := Lib.hid (HB.out.setCell (p := ⟨w.heap.size + 2, 0, none⟩) (by simp) (.slice A0 r.routines.length c0))
  replace HR0 := Lib.hid (HR0.out.keep codeRoutineEl_is (fun _ h => h) ((Keeps.later (Later.refl w0)).set (B := w.heap.size + 2) (by omega) 0 (.slice A0 r.routines.length c0)))
  go_upto_region 3 with (fail)
  clear p0 z0 o0 fz0 fo0 p1 z1 o1 fz1 fo1 p2 z2 o2 fz2 fo2 p3 z3 o3 fz3 fo3 p4 z4 o4 fz4 fo4
  have p0 := cell_of_row _ w.heap.size 0 _ _ _ HP.out
  have p1 := cell_of_row _ w.heap.size 1 _ _ _ HP.out
  have p2 := cell_of_row _ w.heap.size 2 _ _ _ HP.out
  have p3 := cell_of_row _ w.heap.size 3 _ _ _ HP.out
  have p4 := cell_of_row _ w.heap.size 4 _ _ _ HP.out
  simp only [List.getElem?_toArray, List.getElem?_cons_succ, List.getElem?_cons_zero] at p0 p1 p2 p3 p4
  go_wp2_with fail
  refine (toRecordTypeS_any r.records vrecords F _ (by have := HSZ.out; omega) (Hrecords.out.later recordTypeEl_is HB.out)).mono ?_
  rintro e w1 ⟨v', rfl, hr1, hb1⟩
  obtain ⟨A1, c1, rfl, _⟩ := id hr1
  have hlo := (Array.getElem?_eq_some_iff.1 HO.out).1
  have HR1 := Lib.hid (hr1.keep recordTypeEl_is (G := fun b => w.heap.size + 2 < b) (fun b h => Nat.lt_of_lt_of_le hlo h) (Keeps.later (Later.refl _)))
  replace HR0 := Lib.hid (HR0.out.keep codeRoutineEl_is (fun _ h => h) (Keeps.later hb1))
  replace HP := Lib.hid ((Below.block hb1 _ (Array.getElem?_eq_some_iff.1 HP.out).1).trans HP.out)
  replace HZ := Lib.hid ((Below.block hb1 _ (Array.getElem?_eq_some_iff.1 HZ.out).1).trans HZ.out)
  replace HO := Lib.hid ((Below.block hb1 _ (Array.getElem?_eq_some_iff.1 HO.out).1).trans HO.out)
  replace HB := Lib.hid (HB.out.trans (Below.mono hb1 HB.out.size))
  clear hr1 hb1 hlo
  have p0 := cell_of_row _ w.heap.size 0 _ _ _ HP.out
  have z0 := cell_of_row _ (w.heap.size + 1) 0 _ _ _ HZ.out
  have o0 := cell_of_row _ (w.heap.size + 2) 0 _ _ _ HO.out
  have fz0 := frozen_of_row _ (w.heap.size + 1) 0 _ _ HZ.out
  have fo0 := frozen_of_row _ (w.heap.size + 2) 0 _ _ HO.out
  have p1 := cell_of_row _ w.heap.size 1 _ _ _ HP.out
  have z1 := cell_of_row _ (w.heap.size + 1) 1 _ _ _ HZ.out
  have o1 := cell_of_row _ (w.heap.size + 2) 1 _ _ _ HO.out
  have fz1 := frozen_of_row _ (w.heap.size + 1) 1 _ _ HZ.out
  have fo1 := frozen_of_row _ (w.heap.size + 2) 1 _ _ HO.out
  have p2 := cell_of_row _ w.heap.size 2 _ _ _ HP.out
  have z2 := cell_of_row _ (w.heap.size + 1) 2 _ _ _ HZ.out
  have o2 := cell_of_row _ (w.heap.size + 2) 2 _ _ _ HO.out
  have fz2 := frozen_of_row _ (w.heap.size + 1) 2 _ _ HZ.out
  have fo2 := frozen_of_row _ (w.heap.size + 2) 2 _ _ HO.out
  have p3 := cell_of_row _ w.heap.size 3 _ _ _ HP.out
  have z3 := cell_of_row _ (w.heap.size + 1) 3 _ _ _ HZ.out
  have o3 := cell_of_row _ (w.heap.size + 2) 3 _ _ _ HO.out
  have fz3 := frozen_of_row _ (w.heap.size + 1) 3 _ _ HZ.out
  have fo3 := frozen_of_row _ (w.heap.size + 2) 3 _ _ HO.out
  have p4 := cell_of_row _ w.heap.size 4 _ _ _ HP.out
  have z4 := cell_of_row _ (w.heap.size + 1) 4 _ _ _ HZ.out
  have o4 := cell_of_row _ (w.heap.size + 2) 4 _ _ _ HO.out
  have fz4 := frozen_of_row _ (w.heap.size + 1) 4 _ _ HZ.out
  have fo4 := frozen_of_row _ (w.heap.size + 2) 4 _ _ HO.out
  simp only [List.getElem?_toArray, List.getElem?_cons_succ, List.getElem?_cons_zero] at p0 z0 o0 p1 z1 o1 p2 z2 o2 p3 z3 o3 p4 z4 o4
  replace HO := Lib.hid (row_set (o := 1) HO.out (.slice A1 r.records.length c1))
  simp only [List.setIfInBounds_toArray, List.set_cons_zero, List.set_cons_succ] at HO
  replace HP := Lib.hid ((Below.heap_setCell _ ⟨w.heap.size + 2, 1, none⟩ (.slice A1 r.records.length c1) _ hne1).trans HP.out)
  replace HZ := Lib.hid ((Below.heap_setCell _ ⟨w.heap.size + 2, 1, none⟩ (.slice A1 r.records.length c1) _ hne2).trans HZ.out)
  replace HB := Lib.hid (HB.out.setCell (p := ⟨w.heap.size + 2, 1, none⟩) (by simp) (.slice A1 r.records.length c1))
  replace HR0 := Lib.hid (HR0.out.keep codeRoutineEl_is (fun _ h => h) ((Keeps.later (Later.refl w1)).set (B := w.heap.size + 2) (by omega) 1 (.slice A1 r.records.length c1)))
  replace HR1 := Lib.hid (HR1.out.keep recordTypeEl_is (fun _ h => h) ((Keeps.later (Later.refl w1)).set (B := w.heap.size + 2) (by omega) 1 (.slice A1 r.records.length c1)))
  go_upto_region 4 with (fail)
  clear p0 z0 o0 fz0 fo0 p1 z1 o1 fz1 fo1 p2 z2 o2 fz2 fo2 p3 z3 o3 fz3 fo3 p4 z4 o4 fz4 fo4
  have p0 := cell_of_row _ w.heap.size 0 _ _ _ HP.out
  have p1 := cell_of_row _ w.heap.size 1 _ _ _ HP.out
  have p2 := cell_of_row _ w.heap.size 2 _ _ _ HP.out
  have p3 := cell_of_row _ w.heap.size 3 _ _ _ HP.out
  have p4 := cell_of_row _ w.heap.size 4 _ _ _ HP.out
  simp only [List.getElem?_toArray, List.getElem?_cons_succ, List.getElem?_cons_zero] at p0 p1 p2 p3 p4
  go_wp2_with fail
  refine (toStringS_any r.globals vglobals F _ (by have := HSZ.out; omega) (Hglobals.out.later strEl_is HB.out)).mono ?_
  rintro e w2 ⟨v', rfl, hr2, hb2⟩
  obtain ⟨A2, c2, rfl, _⟩ := id hr2
  have hlo := (Array.getElem?_eq_some_iff.1 HO.out).1
  have HR2 := Lib.hid (hr2.keep strEl_is (G := fun b => w.heap.size + 2 < b) (fun b h => Nat.lt_of_lt_of_le hlo h) (Keeps.later (Later.refl _)))
  replace HR0 := Lib.hid (HR0.out.keep codeRoutineEl_is (fun _ h => h) (Keeps.later hb2))
  replace HR1 := Lib.hid (HR1.out.keep recordTypeEl_is (fun _ h => h) (Keeps.later hb2))
  replace HP := Lib.hid ((Below.block hb2 _ (Array.getElem?_eq_some_iff.1 HP.out).1).trans HP.out)
  replace HZ := Lib.hid ((Below.block hb2 _ (Array.getElem?_eq_some_iff.1 HZ.out).1).trans HZ.out)
  replace HO := Lib.hid ((Below.block hb2 _ (Array.getElem?_eq_some_iff.1 HO.out).1).trans HO.out)
  replace HB := Lib.hid (HB.out.trans (Below.mono hb2 HB.out.size))
  clear hr2 hb2 hlo
  have p0 := cell_of_row _ w.heap.size 0 _ _ _ HP.out
  have z0 := cell_of_row _ (w.heap.size + 1) 0 _ _ _ HZ.out
  have o0 := cell_of_row _ (w.heap.size + 2) 0 _ _ _ HO.out
  have fz0 := frozen_of_row _ (w.heap.size + 1) 0 _ _ HZ.out
  have fo0 := frozen_of_row _ (w.heap.size + 2) 0 _ _ HO.out
  have p1 := cell_of_row _ w.heap.size 1 _ _ _ HP.out
  have z1 := cell_of_row _ (w.heap.size + 1) 1 _ _ _ HZ.out
  have o1 := cell_of_row _ (w.heap.size + 2) 1 _ _ _ HO.out
  have fz1 := frozen_of_row _ (w.heap.size + 1) 1 _ _ HZ.out
  have fo1 := frozen_of_row _ (w.heap.size + 2) 1 _ _ HO.out
  have p2 := cell_of_row _ w.heap.size 2 _ _ _ HP.out
  have z2 := cell_of_row _ (w.heap.size + 1) 2 _ _ _ HZ.out
  have o2 := cell_of_row _ (w.heap.size + 2) 2 _ _ _ HO.out
  have fz2 := frozen_of_row _ (w.heap.size + 1) 2 _ _ HZ.out
  have fo2 := frozen_of_row _ (w.heap.size + 2) 2 _ _ HO.out
  have p3 := cell_of_row _ w.heap.size 3 _ _ _ HP.out
  have z3 := cell_of_row _ (w.heap.size + 1) 3 _ _ _ HZ.out
  have o3 := cell_of_row _ (w.heap.size + 2) 3 _ _ _ HO.out
  have fz3 := frozen_of_row _ (w.heap.size + 1) 3 _ _ HZ.out
  have fo3 := frozen_of_row _ (w.heap.size + 2) 3 _ _ HO.out
  have p4 := cell_of_row _ w.heap.size 4 _ _ _ HP.out
  have z4 := cell_of_row _ (w.heap.size + 1) 4 _ _ _ HZ.out
  have o4 := cell_of_row _ (w.heap.size + 2) 4 _ _ _ HO.out
  have fz4 := frozen_of_row _ (w.heap.size + 1) 4 _ _ HZ.out
  have fo4 := frozen_of_row _ (w.heap.size + 2) 4 _ _ HO.out
  simp only [List.getElem?_toArray, List.getElem?_cons_succ, List.getElem?_cons_zero] at p0 z0 o0 p1 z1 o1 p2 z2 o2 p3 z3 o3 p4 z4 o4
  replace HO := Lib.hid (row_set (o := 3) (row_set (o := 2) HO.out (.slice A2 r.globals.length c2)) (.int .i64 r.main))
  simp only [List.setIfInBounds_toArray, List.set_cons_zero, List.set_cons_succ] at HO
  replace HP := Lib.hid ((Below.heap_setCell _ ⟨w.heap.size + 2, 3, none⟩ (.int .i64 r.main) _ hne1).trans ((Below.heap_setCell _ ⟨w.heap.size + 2, 2, none⟩ (.slice A2 r.globals.length c2) _ hne1).trans HP.out))
  replace HZ := Lib.hid ((Below.heap_setCell _ ⟨w.heap.size + 2, 3, none⟩ (.int .i64 r.main) _ hne2).trans ((Below.heap_setCell _ ⟨w.heap.size + 2, 2, none⟩ (.slice A2 r.globals.length c2) _ hne2).trans HZ.out))
  replace HB := Lib.hid ((HB.out.setCell (p := ⟨w.heap.size + 2, 2, none⟩) (by simp) (.slice A2 r.globals.length c2)).setCell (p := ⟨w.heap.size + 2, 3, none⟩) (by simp) (.int .i64 r.main))
  replace HR0 := Lib.hid (HR0.out.keep codeRoutineEl_is (fun _ h => h) (((Keeps.later (Later.refl w2)).set (B := w.heap.size + 2) (by omega) 2 (.slice A2 r.globals.length c2)).set (B := w.heap.size + 2) (by omega) 3 (.int .i64 r.main)))
  replace HR1 := Lib.hid (HR1.out.keep recordTypeEl_is (fun _ h => h) (((Keeps.later (Later.refl w2)).set (B := w.heap.size + 2) (by omega) 2 (.slice A2 r.globals.length c2)).set (B := w.heap.size + 2) (by omega) 3 (.int .i64 r.main)))
  replace HR2 := Lib.hid (HR2.out.keep strEl_is (fun _ h => h) (((Keeps.later (Later.refl w2)).set (B := w.heap.size + 2) (by omega) 2 (.slice A2 r.globals.length c2)).set (B := w.heap.size + 2) (by omega) 3 (.int .i64 r.main)))
  go_upto_region 6 with (fail)
  clear p0 z0 o0 fz0 fo0 p1 z1 o1 fz1 fo1 p2 z2 o2 fz2 fo2 p3 z3 o3 fz3 fo3 p4 z4 o4 fz4 fo4
  have p0 := cell_of_row _ w.heap.size 0 _ _ _ HP.out
  have p1 := cell_of_row _ w.heap.size 1 _ _ _ HP.out
  have p2 := cell_of_row _ w.heap.size 2 _ _ _ HP.out
  have p3 := cell_of_row _ w.heap.size 3 _ _ _ HP.out
  have p4 := cell_of_row _ w.heap.size 4 _ _ _ HP.out
  simp only [List.getElem?_toArray, List.getElem?_cons_succ, List.getElem?_cons_zero] at p0 p1 p2 p3 p4
  go_wp2_with fail
  refine (toInstrS_any r.instrs vinstrs F _ (by have := HSZ.out; omega) (Hinstrs.out.later instrEl_is HB.out)).mono ?_
  rintro e w4 ⟨v', rfl, hr4, hb4⟩
  obtain ⟨A4, c4, rfl, _⟩ := id hr4
  have hlo := (Array.getElem?_eq_some_iff.1 HO.out).1
  have HR4 := Lib.hid (hr4.keep instrEl_is (G := fun b => w.heap.size + 2 < b) (fun b h => Nat.lt_of_lt_of_le hlo h) (Keeps.later (Later.refl _)))
  replace HR0 := Lib.hid (HR0.out.keep codeRoutineEl_is (fun _ h => h) (Keeps.later hb4))
  replace HR1 := Lib.hid (HR1.out.keep recordTypeEl_is (fun _ h => h) (Keeps.later hb4))
  replace HR2 := Lib.hid (HR2.out.keep strEl_is (fun _ h => h) (Keeps.later hb4))
  replace HP := Lib.hid ((Below.block hb4 _ (Array.getElem?_eq_some_iff.1 HP.out).1).trans HP.out)
  replace HZ := Lib.hid ((Below.block hb4 _ (Array.getElem?_eq_some_iff.1 HZ.out).1).trans HZ.out)
  replace HO := Lib.hid ((Below.block hb4 _ (Array.getElem?_eq_some_iff.1 HO.out).1).trans HO.out)
  replace HB := Lib.hid (HB.out.trans (Below.mono hb4 HB.out.size))
  clear hr4 hb4 hlo
  have p0 := cell_of_row _ w.heap.size 0 _ _ _ HP.out
  have z0 := cell_of_row _ (w.heap.size + 1) 0 _ _ _ HZ.out
  have o0 := cell_of_row _ (w.heap.size + 2) 0 _ _ _ HO.out
  have fz0 := frozen_of_row _ (w.heap.size + 1) 0 _ _ HZ.out
  have fo0 := frozen_of_row _ (w.heap.size + 2) 0 _ _ HO.out
  have p1 := cell_of_row _ w.heap.size 1 _ _ _ HP.out
  have z1 := cell_of_row _ (w.heap.size + 1) 1 _ _ _ HZ.out
  have o1 := cell_of_row _ (w.heap.size + 2) 1 _ _ _ HO.out
  have fz1 := frozen_of_row _ (w.heap.size + 1) 1 _ _ HZ.out
  have fo1 := frozen_of_row _ (w.heap.size + 2) 1 _ _ HO.out
  have p2 := cell_of_row _ w.heap.size 2 _ _ _ HP.out
  have z2 := cell_of_row _ (w.heap.size + 1) 2 _ _ _ HZ.out
  have o2 := cell_of_row _ (w.heap.size + 2) 2 _ _ _ HO.out
  have fz2 := frozen_of_row _ (w.heap.size + 1) 2 _ _ HZ.out
  have fo2 := frozen_of_row _ (w.heap.size + 2) 2 _ _ HO.out
  have p3 := cell_of_row _ w.heap.size 3 _ _ _ HP.out
  have z3 := cell_of_row _ (w.heap.size + 1) 3 _ _ _ HZ.out
  have o3 := cell_of_row _ (w.heap.size + 2) 3 _ _ _ HO.out
  have fz3 := frozen_of_row _ (w.heap.size + 1) 3 _ _ HZ.out
  have fo3 := frozen_of_row _ (w.heap.size + 2) 3 _ _ HO.out
  have p4 := cell_of_row _ w.heap.size 4 _ _ _ HP.out
  have z4 := cell_of_row _ (w.heap.size + 1) 4 _ _ _ HZ.out
  have o4 := cell_of_row _ (w.heap.size + 2) 4 _ _ _ HO.out
  have fz4 := frozen_of_row _ (w.heap.size + 1) 4 _ _ HZ.out
  have fo4 := frozen_of_row _ (w.heap.size + 2) 4 _ _ HO.out
  simp only [List.getElem?_toArray, List.getElem?_cons_succ, List.getElem?_cons_zero] at p0 z0 o0 p1 z1 o1 p2 z2 o2 p3 z3 o3 p4 z4 o4
  replace HO := Lib.hid (row_set (o := 4) HO.out (.slice A4 r.instrs.length c4))
  simp only [List.setIfInBounds_toArray, List.set_cons_zero, List.set_cons_succ] at HO
  replace HP := Lib.hid ((Below.heap_setCell _ ⟨w.heap.size + 2, 4, none⟩ (.slice A4 r.instrs.length c4) _ hne1).trans HP.out)
  replace HZ := Lib.hid ((Below.heap_setCell _ ⟨w.heap.size + 2, 4, none⟩ (.slice A4 r.instrs.length c4) _ hne2).trans HZ.out)
  replace HB := Lib.hid (HB.out.setCell (p := ⟨w.heap.size + 2, 4, none⟩) (by simp) (.slice A4 r.instrs.length c4))
  replace HR0 := Lib.hid (HR0.out.keep codeRoutineEl_is (fun _ h => h) ((Keeps.later (Later.refl w4)).set (B := w.heap.size + 2) (by omega) 4 (.slice A4 r.instrs.length c4)))
  replace HR1 := Lib.hid (HR1.out.keep recordTypeEl_is (fun _ h => h) ((Keeps.later (Later.refl w4)).set (B := w.heap.size + 2) (by omega) 4 (.slice A4 r.instrs.length c4)))
  replace HR2 := Lib.hid (HR2.out.keep strEl_is (fun _ h => h) ((Keeps.later (Later.refl w4)).set (B := w.heap.size + 2) (by omega) 4 (.slice A4 r.instrs.length c4)))
  replace HR4 := Lib.hid (HR4.out.keep instrEl_is (fun _ h => h) ((Keeps.later (Later.refl w4)).set (B := w.heap.size + 2) (by omega) 4 (.slice A4 r.instrs.length c4)))
  go_upto_region 7 with (fail)
  clear p0 z0 o0 fz0 fo0 p1 z1 o1 fz1 fo1 p2 z2 o2 fz2 fo2 p3 z3 o3 fz3 fo3 p4 z4 o4 fz4 fo4
  obtain ⟨wf, hwf⟩ : ∃ wf, wf = (w4.setCell ⟨w.heap.size + 2, 4, none⟩ (.slice A4 r.instrs.length c4)) := ⟨_, rfl⟩
  rw [← hwf] at HO HP HZ HB HR0 HR1 HR2 HR4 ⊢
  clear hwf
  have z0 := cell_of_row _ (w.heap.size + 1) 0 _ _ _ HZ.out
  have o0 := cell_of_row _ (w.heap.size + 2) 0 _ _ _ HO.out
  have fz0 := frozen_of_row _ (w.heap.size + 1) 0 _ _ HZ.out
  have z1 := cell_of_row _ (w.heap.size + 1) 1 _ _ _ HZ.out
  have o1 := cell_of_row _ (w.heap.size + 2) 1 _ _ _ HO.out
  have fz1 := frozen_of_row _ (w.heap.size + 1) 1 _ _ HZ.out
  have z2 := cell_of_row _ (w.heap.size + 1) 2 _ _ _ HZ.out
  have o2 := cell_of_row _ (w.heap.size + 2) 2 _ _ _ HO.out
  have fz2 := frozen_of_row _ (w.heap.size + 1) 2 _ _ HZ.out
  have z3 := cell_of_row _ (w.heap.size + 1) 3 _ _ _ HZ.out
  have o3 := cell_of_row _ (w.heap.size + 2) 3 _ _ _ HO.out
  have fz3 := frozen_of_row _ (w.heap.size + 1) 3 _ _ HZ.out
  have z4 := cell_of_row _ (w.heap.size + 1) 4 _ _ _ HZ.out
  have o4 := cell_of_row _ (w.heap.size + 2) 4 _ _ _ HO.out
  have fz4 := frozen_of_row _ (w.heap.size + 1) 4 _ _ HZ.out
  simp only [List.getElem?_toArray, List.getElem?_cons_succ, List.getElem?_cons_zero] at z0 o0 z1 o1 z2 o2 z3 o3 z4 o4
  go_wp2_with fail
  refine bodyPost_ret (v := .agg #[.slice A0 r.routines.length c0, .slice A1 r.records.length c1, .slice A2 r.globals.length c2, .int .i64 r.main, .slice A4 r.instrs.length c4]) (by simp [results, Tryd.results10, go_sem, z0, o0, fz0, z1, o1, fz1, z2, o2, fz2, z3, o3, fz3, z4, o4, fz4, hne3]) rfl ⟨[.slice A0 r.routines.length c0, .slice A1 r.records.length c1, .slice A2 r.globals.length c2, .int .i64 r.main, .slice A4 r.instrs.length c4], rfl, ⟨_, _, _, _, rfl, HR0.out.keep codeRoutineEl_is (fun b h => by omega) ((((((Keeps.later (Later.refl wf)).set (B := w.heap.size + 1) (by omega) 0 _).set (B := w.heap.size + 1) (by omega) 1 _).set (B := w.heap.size + 1) (by omega) 2 _).set (B := w.heap.size + 1) (by omega) 3 _).set (B := w.heap.size + 1) (by omega) 4 _), HR1.out.keep recordTypeEl_is (fun b h => by omega) ((((((Keeps.later (Later.refl wf)).set (B := w.heap.size + 1) (by omega) 0 _).set (B := w.heap.size + 1) (by omega) 1 _).set (B := w.heap.size + 1) (by omega) 2 _).set (B := w.heap.size + 1) (by omega) 3 _).set (B := w.heap.size + 1) (by omega) 4 _), HR2.out.keep strEl_is (fun b h => by omega) ((((((Keeps.later (Later.refl wf)).set (B := w.heap.size + 1) (by omega) 0 _).set (B := w.heap.size + 1) (by omega) 1 _).set (B := w.heap.size + 1) (by omega) 2 _).set (B := w.heap.size + 1) (by omega) 3 _).set (B := w.heap.size + 1) (by omega) 4 _), Hmain.out, HR4.out.keep instrEl_is (fun b h => by omega) ((((((Keeps.later (Later.refl wf)).set (B := w.heap.size + 1) (by omega) 0 _).set (B := w.heap.size + 1) (by omega) 1 _).set (B := w.heap.size + 1) (by omega) 2 _).set (B := w.heap.size + 1) (by omega) 3 _).set (B := w.heap.size + 1) (by omega) 4 _)⟩, (((((HB.out.setCell (p := ⟨w.heap.size + 1, 0, none⟩) (by simp) _).setCell (p := ⟨w.heap.size + 1, 1, none⟩) (by simp) _).setCell (p := ⟨w.heap.size + 1, 2, none⟩) (by simp) _).setCell (p := ⟨w.heap.size + 1, 3, none⟩) (by simp) _).setCell (p := ⟨w.heap.size + 1, 4, none⟩) (by simp) _)⟩
end Go.Proofs.YtopaeiogbijppaaDoor
