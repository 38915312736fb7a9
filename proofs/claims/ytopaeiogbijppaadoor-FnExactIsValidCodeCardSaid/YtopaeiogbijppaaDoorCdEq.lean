/- Equal Codes are equal: eq of the laws. Printed by gen_codedata.py. -/
import Derived.Test.YtopaeiogbijppaaDoorCdTo
import Derived.Test.YtopaeiogbijppaaDoorRegion2
namespace Go.Proofs.YtopaeiogbijppaaDoor
open Go.RowKit

set_option maxRecDepth 100000 in
set_option maxHeartbeats 1000000 in
theorem eqStringS_same (l : List ByteArray) (v v' : Value) (F G : Nat → Prop) (w : World) (hr : RowIs strEl 1 F w l v) (gr : RowIs strEl 1 G w l v') :
    Calls Tryd.prog 44 #[v, v'] w fun e w' => e = .returned (.bool true) ∧ Below w.heap.size w w' := by
  obtain ⟨A, c, rfl, hc, hcm, hel⟩ := hr
  obtain ⟨A', c', rfl, hc', hcm', gel⟩ := gr
  unfold maxLen at hcm hcm'
  have HEL := Lib.hid hel
  have GEL := Lib.hid gel
  clear hel gel
  go_enter Tryd.func44, Tryd.ntmps44
  go_wp2_with fail
  go_loopw [5] (fun i wr => ∃ j : Nat, j ≤ l.length ∧ i = .int .i64 j ∧ Below w.heap.size w wr) (fun i _ => l.length - (intOf i).toNat)
  case atStart => exact ⟨0, Nat.zero_le _, rfl, Below.refl _ _⟩
  case round =>
    obtain ⟨j, hj, rfl, hbel⟩ := hrel
    have hsz := hbel.size
    by_cases hlt : j < l.length
    · obtain ⟨b, o, cs, rfl, hF, hbl, hE, hcell⟩ := HEL.out j hlt
      obtain ⟨b2, o2, cs2, rfl, hF2, hbl2, hG, hcell2⟩ := GEL.out j hlt
      skip
      skip
      obtain ⟨rfl, hsm⟩ := hE
      obtain ⟨rfl, _⟩ := hG
      have hlt' : (j : Int) < l.length := by omega
      have e0 := (hbel.cell (p := ⟨b, o + j * 1 + 0, none⟩) hbl).trans (hcell 0 _ rfl)
      have g0 := (hbel.cell (p := ⟨b2, o2 + j * 1 + 0, none⟩) hbl2).trans (hcell2 0 _ rfl)
      simp only [Nat.mul_one, Nat.add_zero] at e0 g0
      have ysame : (l[j].toList == l[j].toList) = true := by simp
      obtain ⟨s, hs⟩ : ∃ s, l[j] = s := ⟨_, rfl⟩
      rw [hs] at e0 g0 ysame
      have hbr : b < wr.heap.size := Nat.lt_of_lt_of_le hbl hsz
      have hb2r : b2 < wr.heap.size := Nat.lt_of_lt_of_le hbl2 hsz
      clear hcell hcell2 hsm hs
      go_upto_region 6 with (fail)
      -- region 6: 9 operations, the last []
      refine wpU_begin [] [] (by kernel_rfl) (fun W hW => ?_)
      have hWL : Later wr W := by rw [hW]; exact (Later.refl _).drew
      have eW0 := (hWL.cell ⟨b, o + j, none⟩ hbr).trans e0
      have gW0 := (hWL.cell ⟨b2, o2 + j, none⟩ hb2r).trans g0
      have hbW : b < W.heap.size := Nat.lt_of_lt_of_le hbr hWL.size
      have hb2W : b2 < W.heap.size := Nat.lt_of_lt_of_le hb2r hWL.size
      clear hW
      refine wpU_take 0 (some 17) (v := ?_) rfl rfl (by kernel_rfl) (fun _ _ _ h => h) rfl (fun x hx => ?_) ?_
      rotate_left 1
      · go_simp; first | done | with_reducible rfl | rw [if_neg (by omega)] | rw [if_pos (by omega)]
      simp only [Act.put, List.setIfInBounds_toArray, List.set_cons_zero, List.set_cons_succ]
      refine wpU_take 1 (some 18) (v := ?_) rfl rfl (by kernel_rfl) (fun _ _ _ h => h) rfl (fun x hx => ?_) ?_
      rotate_left 1
      · go_simp; first | done | with_reducible rfl | rw [if_neg (by omega)] | rw [if_pos (by omega)]
      simp only [Act.put, List.setIfInBounds_toArray, List.set_cons_zero, List.set_cons_succ]
      refine wpU_take 2 (some 19) (v := ?_) rfl rfl (by kernel_rfl) (fun _ _ _ h => h) rfl (fun x hx => ?_) ?_
      rotate_left 1
      · go_simp; first | done | with_reducible rfl | rw [if_neg (by omega)] | rw [if_pos (by omega)]
      simp only [Act.put, List.setIfInBounds_toArray, List.set_cons_zero, List.set_cons_succ]
      refine wpU_take 3 (some 20) (v := ?_) rfl rfl (by kernel_rfl) (fun _ _ _ h => h) rfl (fun x hx => ?_) ?_
      rotate_left 1
      · have x0 := (hx.cell ⟨b, o + j, none⟩ hbW).trans eW0; have y0 := (hx.cell ⟨b2, o2 + j, none⟩ hb2W).trans gW0; go_simp; first | done | with_reducible rfl | rw [if_neg (by omega)] | rw [if_pos (by omega)]
      simp only [Act.put, List.setIfInBounds_toArray, List.set_cons_zero, List.set_cons_succ]
      refine wpU_take 4 (some 21) (v := ?_) rfl rfl (by kernel_rfl) (fun _ _ _ h => h) rfl (fun x hx => ?_) ?_
      rotate_left 1
      · go_simp; first | done | with_reducible rfl | rw [if_neg (by omega)] | rw [if_pos (by omega)]
      simp only [Act.put, List.setIfInBounds_toArray, List.set_cons_zero, List.set_cons_succ]
      refine wpU_take 5 (some 22) (v := ?_) rfl rfl (by kernel_rfl) (fun _ _ _ h => h) rfl (fun x hx => ?_) ?_
      rotate_left 1
      · go_simp; first | done | with_reducible rfl | rw [if_neg (by omega)] | rw [if_pos (by omega)]
      simp only [Act.put, List.setIfInBounds_toArray, List.set_cons_zero, List.set_cons_succ]
      refine wpU_take 6 (some 23) (v := ?_) rfl rfl (by kernel_rfl) (fun _ _ _ h => h) rfl (fun x hx => ?_) ?_
      rotate_left 1
      · go_simp; first | done | with_reducible rfl | rw [if_neg (by omega)] | rw [if_pos (by omega)]
      simp only [Act.put, List.setIfInBounds_toArray, List.set_cons_zero, List.set_cons_succ]
      refine wpU_take 7 (some 24) (v := ?_) rfl rfl (by kernel_rfl) (fun _ _ _ h => h) rfl (fun x hx => ?_) ?_
      rotate_left 1
      · have x0 := (hx.cell ⟨b, o + j, none⟩ hbW).trans eW0; have y0 := (hx.cell ⟨b2, o2 + j, none⟩ hb2W).trans gW0; go_simp; first | done | with_reducible rfl | rw [if_neg (by omega)] | rw [if_pos (by omega)]
      simp only [Act.put, List.setIfInBounds_toArray, List.set_cons_zero, List.set_cons_succ]
      refine wpU_take 8 (some 25) (v := ?_) rfl rfl (by kernel_rfl) (fun _ _ _ h => h) rfl (fun x hx => ?_) ?_
      rotate_left 1
      · go_simp; first | done | with_reducible rfl | rw [if_neg (by omega)] | rw [if_pos (by omega)]
      simp only [Act.put, List.setIfInBounds_toArray, List.set_cons_zero, List.set_cons_succ]
      refine wpU_last [] (by kernel_rfl) rfl rfl ?_
      clear e0 g0
      have hb5 := hbel.trans (Below.mono hWL hbel.size)
      clear hWL eW0 gW0
      go_wp2_with fail
      go_roundw
      case rel => exact ⟨j + 1, by omega, by go_num, hb5⟩
      case measure => simp [intOf]; omega
    · have hjl : j = l.length := by omega
      go_wp2_with fail
      go_ret
      exact ⟨rfl, hbel⟩
set_option maxRecDepth 100000 in
set_option maxHeartbeats 1000000 in
theorem eqRecordType_same (r : RecordTypeD) (cs cs' : List Value) (F G : Nat → Prop) (w : World) (h : recordTypeEl F w r cs) (g : recordTypeEl G w r cs') :
    Calls Tryd.prog 79 #[.agg cs.toArray, .agg cs'.toArray] w fun e w' => e = .returned (.bool true) ∧ Below w.heap.size w w' := by
  obtain ⟨vfields, rfl, hname, hfields, hline⟩ := h
  obtain ⟨vfields', rfl, _, gfields, _⟩ := g
  have yname : (r.name.toList == r.name.toList) = true := by simp
  clear hname
  have Hfields := Lib.hid hfields
  have Gfields := Lib.hid gfields
  clear hfields gfields
  clear hline
  have HP := Lib.hid ((Later.refl _).alloc (.cells #[.string r.name, vfields', .int .i64 r.line] 63) |>.block _ (by simp) |>.trans (heap_alloc_new w (.cells #[.string r.name, vfields, .int .i64 r.line] 63)))
  have HZ := Lib.hid (heap_alloc_new (w.alloc (.cells #[.string r.name, vfields, .int .i64 r.line] 63)) (.cells #[.string r.name, vfields', .int .i64 r.line] 63))
  simp only [heap_size_alloc] at HZ
  have HB := Lib.hid (((Below.refl w.heap.size w).alloc (Nat.le_refl _) (.cells #[.string r.name, vfields, .int .i64 r.line] 63)).alloc (by simp) (.cells #[.string r.name, vfields', .int .i64 r.line] 63))
  go_enter Tryd.func79, Tryd.ntmps79
  go_wp2_with fail
  refine (eqStringS_same r.fields vfields vfields' F G _ (Hfields.out.later strEl_is HB.out) (Gfields.out.later strEl_is HB.out)).mono ?_
  rintro e w1 ⟨rfl, hb1⟩
  replace HP := Lib.hid ((Below.block hb1 _ (Array.getElem?_eq_some_iff.1 HP.out).1).trans HP.out)
  replace HZ := Lib.hid ((Below.block hb1 _ (Array.getElem?_eq_some_iff.1 HZ.out).1).trans HZ.out)
  replace HB := Lib.hid (HB.out.trans (Below.mono hb1 HB.out.size))
  clear hb1
  have p0 := cell_of_row _ w.heap.size 0 _ _ _ HP.out
  have z0 := cell_of_row _ (w.heap.size + 1) 0 _ _ _ HZ.out
  have p1 := cell_of_row _ w.heap.size 1 _ _ _ HP.out
  have z1 := cell_of_row _ (w.heap.size + 1) 1 _ _ _ HZ.out
  have p2 := cell_of_row _ w.heap.size 2 _ _ _ HP.out
  have z2 := cell_of_row _ (w.heap.size + 1) 2 _ _ _ HZ.out
  simp only [List.getElem?_toArray, List.getElem?_cons_succ, List.getElem?_cons_zero] at p0 z0 p1 z1 p2 z2
  go_wp2_with fail
  go_ret
  exact ⟨rfl, HB.out⟩
set_option maxRecDepth 100000 in
set_option maxHeartbeats 1000000 in
theorem eqRecordTypeS_same (l : List RecordTypeD) (v v' : Value) (F G : Nat → Prop) (w : World) (hr : RowIs recordTypeEl 3 F w l v) (gr : RowIs recordTypeEl 3 G w l v') :
    Calls Tryd.prog 43 #[v, v'] w fun e w' => e = .returned (.bool true) ∧ Below w.heap.size w w' := by
  obtain ⟨A, c, rfl, hc, hcm, hel⟩ := hr
  obtain ⟨A', c', rfl, hc', hcm', gel⟩ := gr
  unfold maxLen at hcm hcm'
  have HEL := Lib.hid hel
  have GEL := Lib.hid gel
  clear hel gel
  go_enter Tryd.func43, Tryd.ntmps43
  go_wp2_with fail
  go_loopw [5] (fun i wr => ∃ j : Nat, j ≤ l.length ∧ i = .int .i64 j ∧ Below w.heap.size w wr) (fun i _ => l.length - (intOf i).toNat)
  case atStart => exact ⟨0, Nat.zero_le _, rfl, Below.refl _ _⟩
  case round =>
    obtain ⟨j, hj, rfl, hbel⟩ := hrel
    have hsz := hbel.size
    by_cases hlt : j < l.length
    · obtain ⟨b, o, cs, rfl, hF, hbl, hE, hcell⟩ := HEL.out j hlt
      obtain ⟨b2, o2, cs2, rfl, hF2, hbl2, hG, hcell2⟩ := GEL.out j hlt
      have hE' := hE
      have hG' := hG
      obtain ⟨vfields, rfl, hfacts⟩ := hE
      obtain ⟨vfields', rfl, hfacts2⟩ := hG
      have hlt' : (j : Int) < l.length := by omega
      have e0 := (hbel.cell (p := ⟨b, o + j * 3 + 0, none⟩) hbl).trans (hcell 0 _ rfl)
      have e1 := (hbel.cell (p := ⟨b, o + j * 3 + 1, none⟩) hbl).trans (hcell 1 _ rfl)
      have e2 := (hbel.cell (p := ⟨b, o + j * 3 + 2, none⟩) hbl).trans (hcell 2 _ rfl)
      have g0 := (hbel.cell (p := ⟨b2, o2 + j * 3 + 0, none⟩) hbl2).trans (hcell2 0 _ rfl)
      have g1 := (hbel.cell (p := ⟨b2, o2 + j * 3 + 1, none⟩) hbl2).trans (hcell2 1 _ rfl)
      have g2 := (hbel.cell (p := ⟨b2, o2 + j * 3 + 2, none⟩) hbl2).trans (hcell2 2 _ rfl)
      simp only [Nat.mul_one, Nat.add_zero] at e0 g0
      have HE2 := Lib.hid (recordTypeEl_is.keep (G := F) hE' (fun _ h => h) (Keeps.later hbel))
      have HG2 := Lib.hid (recordTypeEl_is.keep (G := G) hG' (fun _ h => h) (Keeps.later hbel))
      have hbr : b < wr.heap.size := Nat.lt_of_lt_of_le hbl hsz
      have hb2r : b2 < wr.heap.size := Nat.lt_of_lt_of_le hbl2 hsz
      clear hE' hG' hcell hcell2 hfacts hfacts2
      go_upto_region 6 with (fail)
      -- region 6: 10 operations, the last [8, 9]
      refine wpU_begin [8, 9] [] (by kernel_rfl) (fun W hW => ?_)
      have hWL : Later wr W := by rw [hW]; exact (Later.refl _).drew
      have eW0 := (hWL.cell ⟨b, o + j * 3, none⟩ hbr).trans e0
      have eW1 := (hWL.cell ⟨b, o + j * 3 + 1, none⟩ hbr).trans e1
      have eW2 := (hWL.cell ⟨b, o + j * 3 + 2, none⟩ hbr).trans e2
      have gW0 := (hWL.cell ⟨b2, o2 + j * 3, none⟩ hb2r).trans g0
      have gW1 := (hWL.cell ⟨b2, o2 + j * 3 + 1, none⟩ hb2r).trans g1
      have gW2 := (hWL.cell ⟨b2, o2 + j * 3 + 2, none⟩ hb2r).trans g2
      have hbW : b < W.heap.size := Nat.lt_of_lt_of_le hbr hWL.size
      have hb2W : b2 < W.heap.size := Nat.lt_of_lt_of_le hb2r hWL.size
      clear hW
      refine wpU_take 0 (some 17) (v := ?_) rfl rfl (by kernel_rfl) (fun _ _ _ h => h) rfl (fun x hx => ?_) ?_
      rotate_left 1
      · go_simp; first | done | with_reducible rfl | rw [if_neg (by omega)] | rw [if_pos (by omega)]
      simp only [Act.put, List.setIfInBounds_toArray, List.set_cons_zero, List.set_cons_succ]
      refine wpU_take 1 (some 18) (v := ?_) rfl rfl (by kernel_rfl) (fun _ _ _ h => h) rfl (fun x hx => ?_) ?_
      rotate_left 1
      · go_simp; first | done | with_reducible rfl | rw [if_neg (by omega)] | rw [if_pos (by omega)]
      simp only [Act.put, List.setIfInBounds_toArray, List.set_cons_zero, List.set_cons_succ]
      refine wpU_take 2 (some 19) (v := ?_) rfl rfl (by kernel_rfl) (fun _ _ _ h => h) rfl (fun x hx => ?_) ?_
      rotate_left 1
      · go_simp; first | done | with_reducible rfl | rw [if_neg (by omega)] | rw [if_pos (by omega)]
      simp only [Act.put, List.setIfInBounds_toArray, List.set_cons_zero, List.set_cons_succ]
      refine wpU_take 3 (some 20) (v := ?_) rfl rfl (by kernel_rfl) (fun _ _ _ h => h) rfl (fun x hx => ?_) ?_
      rotate_left 1
      · have x0 := (hx.cell ⟨b, o + j * 3, none⟩ hbW).trans eW0; have x1 := (hx.cell ⟨b, o + j * 3 + 1, none⟩ hbW).trans eW1; have x2 := (hx.cell ⟨b, o + j * 3 + 2, none⟩ hbW).trans eW2; have y0 := (hx.cell ⟨b2, o2 + j * 3, none⟩ hb2W).trans gW0; have y1 := (hx.cell ⟨b2, o2 + j * 3 + 1, none⟩ hb2W).trans gW1; have y2 := (hx.cell ⟨b2, o2 + j * 3 + 2, none⟩ hb2W).trans gW2; go_simp; first | done | with_reducible rfl | rw [if_neg (by omega)] | rw [if_pos (by omega)]
      simp only [Act.put, List.setIfInBounds_toArray, List.set_cons_zero, List.set_cons_succ]
      refine wpU_take 4 (some 21) (v := ?_) rfl rfl (by kernel_rfl) (fun _ _ _ h => h) rfl (fun x hx => ?_) ?_
      rotate_left 1
      · go_simp; first | done | with_reducible rfl | rw [if_neg (by omega)] | rw [if_pos (by omega)]
      simp only [Act.put, List.setIfInBounds_toArray, List.set_cons_zero, List.set_cons_succ]
      refine wpU_take 5 (some 22) (v := ?_) rfl rfl (by kernel_rfl) (fun _ _ _ h => h) rfl (fun x hx => ?_) ?_
      rotate_left 1
      · go_simp; first | done | with_reducible rfl | rw [if_neg (by omega)] | rw [if_pos (by omega)]
      simp only [Act.put, List.setIfInBounds_toArray, List.set_cons_zero, List.set_cons_succ]
      refine wpU_take 6 (some 23) (v := ?_) rfl rfl (by kernel_rfl) (fun _ _ _ h => h) rfl (fun x hx => ?_) ?_
      rotate_left 1
      · go_simp; first | done | with_reducible rfl | rw [if_neg (by omega)] | rw [if_pos (by omega)]
      simp only [Act.put, List.setIfInBounds_toArray, List.set_cons_zero, List.set_cons_succ]
      refine wpU_take 7 (some 24) (v := ?_) rfl rfl (by kernel_rfl) (fun _ _ _ h => h) rfl (fun x hx => ?_) ?_
      rotate_left 1
      · have x0 := (hx.cell ⟨b, o + j * 3, none⟩ hbW).trans eW0; have x1 := (hx.cell ⟨b, o + j * 3 + 1, none⟩ hbW).trans eW1; have x2 := (hx.cell ⟨b, o + j * 3 + 2, none⟩ hbW).trans eW2; have y0 := (hx.cell ⟨b2, o2 + j * 3, none⟩ hb2W).trans gW0; have y1 := (hx.cell ⟨b2, o2 + j * 3 + 1, none⟩ hb2W).trans gW1; have y2 := (hx.cell ⟨b2, o2 + j * 3 + 2, none⟩ hb2W).trans gW2; go_simp; first | done | with_reducible rfl | rw [if_neg (by omega)] | rw [if_pos (by omega)]
      simp only [Act.put, List.setIfInBounds_toArray, List.set_cons_zero, List.set_cons_succ]
      refine wpU_last [_, _] (by kernel_rfl) rfl rfl ?_
      simp only [List.getElem_toArray, List.getElem_cons_succ, List.getElem_cons_zero]
      clear e0 g0 e1 g1 e2 g2
      have HB2 := Lib.hid (hbel.trans (Below.mono hWL hbel.size))
      have HE3 := Lib.hid (recordTypeEl_is.keep (G := F) HE2.out (fun _ h => h) (Keeps.later hWL))
      have HG3 := Lib.hid (recordTypeEl_is.keep (G := G) HG2.out (fun _ h => h) (Keeps.later hWL))
      clear hWL eW0 gW0 eW1 gW1 eW2 gW2
      go_wp2_with fail
      refine (eqRecordType_same l[j] _ _ F G W HE3.out HG3.out).mono ?_
      rintro e w4 ⟨rfl, hb4⟩
      have hb5 := HB2.out.trans (Below.mono hb4 HB2.out.size)
      clear hb4
      go_wp2_with fail
      go_roundw
      case rel => exact ⟨j + 1, by omega, by go_num, hb5⟩
      case measure => simp [intOf]; omega
    · have hjl : j = l.length := by omega
      go_wp2_with fail
      go_ret
      exact ⟨rfl, hbel⟩

set_option maxRecDepth 100000 in
set_option maxHeartbeats 1000000 in
theorem eqCodeRoutine_same (r : CodeRoutineD) (cs cs' : List Value) (F G : Nat → Prop) (w : World) (h : codeRoutineEl F w r cs) (g : codeRoutineEl G w r cs') :
    Calls Tryd.prog 78 #[.agg cs.toArray, .agg cs'.toArray] w fun e w' => e = .returned (.bool true) ∧ Below w.heap.size w w' := by
  obtain ⟨rfl, hname, hparams, hslots, hentry⟩ := h
  obtain ⟨rfl, _, _, _, _⟩ := g
  have yname : (r.name.toList == r.name.toList) = true := by simp
  clear hname hparams hslots hentry
  go_enter Tryd.func78, Tryd.ntmps78
  go_wp2_with fail
  go_ret
  exact ⟨rfl, ((Below.refl _ _).alloc (Nat.le_refl _) _).alloc (by simp) _⟩
set_option maxRecDepth 100000 in
set_option maxHeartbeats 1000000 in
theorem eqCodeRoutineS_same (l : List CodeRoutineD) (v v' : Value) (F G : Nat → Prop) (w : World) (hr : RowIs codeRoutineEl 4 F w l v) (gr : RowIs codeRoutineEl 4 G w l v') :
    Calls Tryd.prog 42 #[v, v'] w fun e w' => e = .returned (.bool true) ∧ Below w.heap.size w w' := by
  obtain ⟨A, c, rfl, hc, hcm, hel⟩ := hr
  obtain ⟨A', c', rfl, hc', hcm', gel⟩ := gr
  unfold maxLen at hcm hcm'
  have HEL := Lib.hid hel
  have GEL := Lib.hid gel
  clear hel gel
  go_enter Tryd.func42, Tryd.ntmps42
  go_wp2_with fail
  go_loopw [5] (fun i wr => ∃ j : Nat, j ≤ l.length ∧ i = .int .i64 j ∧ Below w.heap.size w wr) (fun i _ => l.length - (intOf i).toNat)
  case atStart => exact ⟨0, Nat.zero_le _, rfl, Below.refl _ _⟩
  case round =>
    obtain ⟨j, hj, rfl, hbel⟩ := hrel
    have hsz := hbel.size
    by_cases hlt : j < l.length
    · obtain ⟨b, o, cs, rfl, hF, hbl, hE, hcell⟩ := HEL.out j hlt
      obtain ⟨b2, o2, cs2, rfl, hF2, hbl2, hG, hcell2⟩ := GEL.out j hlt
      have hE' := hE
      have hG' := hG
      obtain ⟨rfl, hfacts⟩ := hE
      obtain ⟨rfl, hfacts2⟩ := hG
      have hlt' : (j : Int) < l.length := by omega
      have e0 := (hbel.cell (p := ⟨b, o + j * 4 + 0, none⟩) hbl).trans (hcell 0 _ rfl)
      have e1 := (hbel.cell (p := ⟨b, o + j * 4 + 1, none⟩) hbl).trans (hcell 1 _ rfl)
      have e2 := (hbel.cell (p := ⟨b, o + j * 4 + 2, none⟩) hbl).trans (hcell 2 _ rfl)
      have e3 := (hbel.cell (p := ⟨b, o + j * 4 + 3, none⟩) hbl).trans (hcell 3 _ rfl)
      have g0 := (hbel.cell (p := ⟨b2, o2 + j * 4 + 0, none⟩) hbl2).trans (hcell2 0 _ rfl)
      have g1 := (hbel.cell (p := ⟨b2, o2 + j * 4 + 1, none⟩) hbl2).trans (hcell2 1 _ rfl)
      have g2 := (hbel.cell (p := ⟨b2, o2 + j * 4 + 2, none⟩) hbl2).trans (hcell2 2 _ rfl)
      have g3 := (hbel.cell (p := ⟨b2, o2 + j * 4 + 3, none⟩) hbl2).trans (hcell2 3 _ rfl)
      simp only [Nat.mul_one, Nat.add_zero] at e0 g0
      have HE2 := Lib.hid (codeRoutineEl_is.keep (G := F) hE' (fun _ h => h) (Keeps.later hbel))
      have HG2 := Lib.hid (codeRoutineEl_is.keep (G := G) hG' (fun _ h => h) (Keeps.later hbel))
      have hbr : b < wr.heap.size := Nat.lt_of_lt_of_le hbl hsz
      have hb2r : b2 < wr.heap.size := Nat.lt_of_lt_of_le hbl2 hsz
      clear hE' hG' hcell hcell2 hfacts hfacts2
      go_upto_region 6 with (fail)
      -- region 6: 10 operations, the last [8, 9]
      refine wpU_begin [8, 9] [] (by kernel_rfl) (fun W hW => ?_)
      have hWL : Later wr W := by rw [hW]; exact (Later.refl _).drew
      have eW0 := (hWL.cell ⟨b, o + j * 4, none⟩ hbr).trans e0
      have eW1 := (hWL.cell ⟨b, o + j * 4 + 1, none⟩ hbr).trans e1
      have eW2 := (hWL.cell ⟨b, o + j * 4 + 2, none⟩ hbr).trans e2
      have eW3 := (hWL.cell ⟨b, o + j * 4 + 3, none⟩ hbr).trans e3
      have gW0 := (hWL.cell ⟨b2, o2 + j * 4, none⟩ hb2r).trans g0
      have gW1 := (hWL.cell ⟨b2, o2 + j * 4 + 1, none⟩ hb2r).trans g1
      have gW2 := (hWL.cell ⟨b2, o2 + j * 4 + 2, none⟩ hb2r).trans g2
      have gW3 := (hWL.cell ⟨b2, o2 + j * 4 + 3, none⟩ hb2r).trans g3
      have hbW : b < W.heap.size := Nat.lt_of_lt_of_le hbr hWL.size
      have hb2W : b2 < W.heap.size := Nat.lt_of_lt_of_le hb2r hWL.size
      clear hW
      refine wpU_take 0 (some 17) (v := ?_) rfl rfl (by kernel_rfl) (fun _ _ _ h => h) rfl (fun x hx => ?_) ?_
      rotate_left 1
      · go_simp; first | done | with_reducible rfl | rw [if_neg (by omega)] | rw [if_pos (by omega)]
      simp only [Act.put, List.setIfInBounds_toArray, List.set_cons_zero, List.set_cons_succ]
      refine wpU_take 1 (some 18) (v := ?_) rfl rfl (by kernel_rfl) (fun _ _ _ h => h) rfl (fun x hx => ?_) ?_
      rotate_left 1
      · go_simp; first | done | with_reducible rfl | rw [if_neg (by omega)] | rw [if_pos (by omega)]
      simp only [Act.put, List.setIfInBounds_toArray, List.set_cons_zero, List.set_cons_succ]
      refine wpU_take 2 (some 19) (v := ?_) rfl rfl (by kernel_rfl) (fun _ _ _ h => h) rfl (fun x hx => ?_) ?_
      rotate_left 1
      · go_simp; first | done | with_reducible rfl | rw [if_neg (by omega)] | rw [if_pos (by omega)]
      simp only [Act.put, List.setIfInBounds_toArray, List.set_cons_zero, List.set_cons_succ]
      refine wpU_take 3 (some 20) (v := ?_) rfl rfl (by kernel_rfl) (fun _ _ _ h => h) rfl (fun x hx => ?_) ?_
      rotate_left 1
      · have x0 := (hx.cell ⟨b, o + j * 4, none⟩ hbW).trans eW0; have x1 := (hx.cell ⟨b, o + j * 4 + 1, none⟩ hbW).trans eW1; have x2 := (hx.cell ⟨b, o + j * 4 + 2, none⟩ hbW).trans eW2; have x3 := (hx.cell ⟨b, o + j * 4 + 3, none⟩ hbW).trans eW3; have y0 := (hx.cell ⟨b2, o2 + j * 4, none⟩ hb2W).trans gW0; have y1 := (hx.cell ⟨b2, o2 + j * 4 + 1, none⟩ hb2W).trans gW1; have y2 := (hx.cell ⟨b2, o2 + j * 4 + 2, none⟩ hb2W).trans gW2; have y3 := (hx.cell ⟨b2, o2 + j * 4 + 3, none⟩ hb2W).trans gW3; go_simp; first | done | with_reducible rfl | rw [if_neg (by omega)] | rw [if_pos (by omega)]
      simp only [Act.put, List.setIfInBounds_toArray, List.set_cons_zero, List.set_cons_succ]
      refine wpU_take 4 (some 21) (v := ?_) rfl rfl (by kernel_rfl) (fun _ _ _ h => h) rfl (fun x hx => ?_) ?_
      rotate_left 1
      · go_simp; first | done | with_reducible rfl | rw [if_neg (by omega)] | rw [if_pos (by omega)]
      simp only [Act.put, List.setIfInBounds_toArray, List.set_cons_zero, List.set_cons_succ]
      refine wpU_take 5 (some 22) (v := ?_) rfl rfl (by kernel_rfl) (fun _ _ _ h => h) rfl (fun x hx => ?_) ?_
      rotate_left 1
      · go_simp; first | done | with_reducible rfl | rw [if_neg (by omega)] | rw [if_pos (by omega)]
      simp only [Act.put, List.setIfInBounds_toArray, List.set_cons_zero, List.set_cons_succ]
      refine wpU_take 6 (some 23) (v := ?_) rfl rfl (by kernel_rfl) (fun _ _ _ h => h) rfl (fun x hx => ?_) ?_
      rotate_left 1
      · go_simp; first | done | with_reducible rfl | rw [if_neg (by omega)] | rw [if_pos (by omega)]
      simp only [Act.put, List.setIfInBounds_toArray, List.set_cons_zero, List.set_cons_succ]
      refine wpU_take 7 (some 24) (v := ?_) rfl rfl (by kernel_rfl) (fun _ _ _ h => h) rfl (fun x hx => ?_) ?_
      rotate_left 1
      · have x0 := (hx.cell ⟨b, o + j * 4, none⟩ hbW).trans eW0; have x1 := (hx.cell ⟨b, o + j * 4 + 1, none⟩ hbW).trans eW1; have x2 := (hx.cell ⟨b, o + j * 4 + 2, none⟩ hbW).trans eW2; have x3 := (hx.cell ⟨b, o + j * 4 + 3, none⟩ hbW).trans eW3; have y0 := (hx.cell ⟨b2, o2 + j * 4, none⟩ hb2W).trans gW0; have y1 := (hx.cell ⟨b2, o2 + j * 4 + 1, none⟩ hb2W).trans gW1; have y2 := (hx.cell ⟨b2, o2 + j * 4 + 2, none⟩ hb2W).trans gW2; have y3 := (hx.cell ⟨b2, o2 + j * 4 + 3, none⟩ hb2W).trans gW3; go_simp; first | done | with_reducible rfl | rw [if_neg (by omega)] | rw [if_pos (by omega)]
      simp only [Act.put, List.setIfInBounds_toArray, List.set_cons_zero, List.set_cons_succ]
      refine wpU_last [_, _] (by kernel_rfl) rfl rfl ?_
      simp only [List.getElem_toArray, List.getElem_cons_succ, List.getElem_cons_zero]
      clear e0 g0 e1 g1 e2 g2 e3 g3
      have HB2 := Lib.hid (hbel.trans (Below.mono hWL hbel.size))
      have HE3 := Lib.hid (codeRoutineEl_is.keep (G := F) HE2.out (fun _ h => h) (Keeps.later hWL))
      have HG3 := Lib.hid (codeRoutineEl_is.keep (G := G) HG2.out (fun _ h => h) (Keeps.later hWL))
      clear hWL eW0 gW0 eW1 gW1 eW2 gW2 eW3 gW3
      go_wp2_with fail
      refine (eqCodeRoutine_same l[j] _ _ F G W HE3.out HG3.out).mono ?_
      rintro e w4 ⟨rfl, hb4⟩
      have hb5 := HB2.out.trans (Below.mono hb4 HB2.out.size)
      clear hb4
      go_wp2_with fail
      go_roundw
      case rel => exact ⟨j + 1, by omega, by go_num, hb5⟩
      case measure => simp [intOf]; omega
    · have hjl : j = l.length := by omega
      go_wp2_with fail
      go_ret
      exact ⟨rfl, hbel⟩

set_option maxRecDepth 100000 in
set_option maxHeartbeats 1000000 in
theorem eqInstr_same (r : InstrD) (cs cs' : List Value) (F G : Nat → Prop) (w : World) (h : instrEl F w r cs) (g : instrEl G w r cs') :
    Calls Tryd.prog 7 #[.agg cs.toArray, .agg cs'.toArray] w fun e w' => e = .returned (.bool true) ∧ Below w.heap.size w w' := by
  obtain ⟨rfl, hop, ha, hb, hline, htext⟩ := h
  obtain ⟨rfl, _, _, _, _, _⟩ := g
  have ytext : (r.text.toList == r.text.toList) = true := by simp
  clear hop ha hb hline htext
  go_enter Tryd.func7, Tryd.ntmps7
  go_wp2_with fail
  go_ret
  exact ⟨rfl, ((Below.refl _ _).alloc (Nat.le_refl _) _).alloc (by simp) _⟩
set_option maxRecDepth 100000 in
set_option maxHeartbeats 1000000 in
theorem eqInstrS_same (l : List InstrD) (v v' : Value) (F G : Nat → Prop) (w : World) (hr : RowIs instrEl 5 F w l v) (gr : RowIs instrEl 5 G w l v') :
    Calls Tryd.prog 45 #[v, v'] w fun e w' => e = .returned (.bool true) ∧ Below w.heap.size w w' := by
  obtain ⟨A, c, rfl, hc, hcm, hel⟩ := hr
  obtain ⟨A', c', rfl, hc', hcm', gel⟩ := gr
  unfold maxLen at hcm hcm'
  have HEL := Lib.hid hel
  have GEL := Lib.hid gel
  clear hel gel
  go_enter Tryd.func45, Tryd.ntmps45
  go_wp2_with fail
  go_loopw [5] (fun i wr => ∃ j : Nat, j ≤ l.length ∧ i = .int .i64 j ∧ Below w.heap.size w wr) (fun i _ => l.length - (intOf i).toNat)
  case atStart => exact ⟨0, Nat.zero_le _, rfl, Below.refl _ _⟩
  case round =>
    obtain ⟨j, hj, rfl, hbel⟩ := hrel
    have hsz := hbel.size
    by_cases hlt : j < l.length
    · obtain ⟨b, o, cs, rfl, hF, hbl, hE, hcell⟩ := HEL.out j hlt
      obtain ⟨b2, o2, cs2, rfl, hF2, hbl2, hG, hcell2⟩ := GEL.out j hlt
      have hE' := hE
      have hG' := hG
      obtain ⟨rfl, hfacts⟩ := hE
      obtain ⟨rfl, hfacts2⟩ := hG
      have hlt' : (j : Int) < l.length := by omega
      have e0 := (hbel.cell (p := ⟨b, o + j * 5 + 0, none⟩) hbl).trans (hcell 0 _ rfl)
      have e1 := (hbel.cell (p := ⟨b, o + j * 5 + 1, none⟩) hbl).trans (hcell 1 _ rfl)
      have e2 := (hbel.cell (p := ⟨b, o + j * 5 + 2, none⟩) hbl).trans (hcell 2 _ rfl)
      have e3 := (hbel.cell (p := ⟨b, o + j * 5 + 3, none⟩) hbl).trans (hcell 3 _ rfl)
      have e4 := (hbel.cell (p := ⟨b, o + j * 5 + 4, none⟩) hbl).trans (hcell 4 _ rfl)
      have g0 := (hbel.cell (p := ⟨b2, o2 + j * 5 + 0, none⟩) hbl2).trans (hcell2 0 _ rfl)
      have g1 := (hbel.cell (p := ⟨b2, o2 + j * 5 + 1, none⟩) hbl2).trans (hcell2 1 _ rfl)
      have g2 := (hbel.cell (p := ⟨b2, o2 + j * 5 + 2, none⟩) hbl2).trans (hcell2 2 _ rfl)
      have g3 := (hbel.cell (p := ⟨b2, o2 + j * 5 + 3, none⟩) hbl2).trans (hcell2 3 _ rfl)
      have g4 := (hbel.cell (p := ⟨b2, o2 + j * 5 + 4, none⟩) hbl2).trans (hcell2 4 _ rfl)
      simp only [Nat.mul_one, Nat.add_zero] at e0 g0
      have HE2 := Lib.hid (instrEl_is.keep (G := F) hE' (fun _ h => h) (Keeps.later hbel))
      have HG2 := Lib.hid (instrEl_is.keep (G := G) hG' (fun _ h => h) (Keeps.later hbel))
      have hbr : b < wr.heap.size := Nat.lt_of_lt_of_le hbl hsz
      have hb2r : b2 < wr.heap.size := Nat.lt_of_lt_of_le hbl2 hsz
      clear hE' hG' hcell hcell2 hfacts hfacts2
      go_upto_region 6 with (fail)
      -- region 6: 10 operations, the last [8, 9]
      refine wpU_begin [8, 9] [] (by kernel_rfl) (fun W hW => ?_)
      have hWL : Later wr W := by rw [hW]; exact (Later.refl _).drew
      have eW0 := (hWL.cell ⟨b, o + j * 5, none⟩ hbr).trans e0
      have eW1 := (hWL.cell ⟨b, o + j * 5 + 1, none⟩ hbr).trans e1
      have eW2 := (hWL.cell ⟨b, o + j * 5 + 2, none⟩ hbr).trans e2
      have eW3 := (hWL.cell ⟨b, o + j * 5 + 3, none⟩ hbr).trans e3
      have eW4 := (hWL.cell ⟨b, o + j * 5 + 4, none⟩ hbr).trans e4
      have gW0 := (hWL.cell ⟨b2, o2 + j * 5, none⟩ hb2r).trans g0
      have gW1 := (hWL.cell ⟨b2, o2 + j * 5 + 1, none⟩ hb2r).trans g1
      have gW2 := (hWL.cell ⟨b2, o2 + j * 5 + 2, none⟩ hb2r).trans g2
      have gW3 := (hWL.cell ⟨b2, o2 + j * 5 + 3, none⟩ hb2r).trans g3
      have gW4 := (hWL.cell ⟨b2, o2 + j * 5 + 4, none⟩ hb2r).trans g4
      have hbW : b < W.heap.size := Nat.lt_of_lt_of_le hbr hWL.size
      have hb2W : b2 < W.heap.size := Nat.lt_of_lt_of_le hb2r hWL.size
      clear hW
      refine wpU_take 0 (some 17) (v := ?_) rfl rfl (by kernel_rfl) (fun _ _ _ h => h) rfl (fun x hx => ?_) ?_
      rotate_left 1
      · go_simp; first | done | with_reducible rfl | rw [if_neg (by omega)] | rw [if_pos (by omega)]
      simp only [Act.put, List.setIfInBounds_toArray, List.set_cons_zero, List.set_cons_succ]
      refine wpU_take 1 (some 18) (v := ?_) rfl rfl (by kernel_rfl) (fun _ _ _ h => h) rfl (fun x hx => ?_) ?_
      rotate_left 1
      · go_simp; first | done | with_reducible rfl | rw [if_neg (by omega)] | rw [if_pos (by omega)]
      simp only [Act.put, List.setIfInBounds_toArray, List.set_cons_zero, List.set_cons_succ]
      refine wpU_take 2 (some 19) (v := ?_) rfl rfl (by kernel_rfl) (fun _ _ _ h => h) rfl (fun x hx => ?_) ?_
      rotate_left 1
      · go_simp; first | done | with_reducible rfl | rw [if_neg (by omega)] | rw [if_pos (by omega)]
      simp only [Act.put, List.setIfInBounds_toArray, List.set_cons_zero, List.set_cons_succ]
      refine wpU_take 3 (some 20) (v := ?_) rfl rfl (by kernel_rfl) (fun _ _ _ h => h) rfl (fun x hx => ?_) ?_
      rotate_left 1
      · have x0 := (hx.cell ⟨b, o + j * 5, none⟩ hbW).trans eW0; have x1 := (hx.cell ⟨b, o + j * 5 + 1, none⟩ hbW).trans eW1; have x2 := (hx.cell ⟨b, o + j * 5 + 2, none⟩ hbW).trans eW2; have x3 := (hx.cell ⟨b, o + j * 5 + 3, none⟩ hbW).trans eW3; have x4 := (hx.cell ⟨b, o + j * 5 + 4, none⟩ hbW).trans eW4; have y0 := (hx.cell ⟨b2, o2 + j * 5, none⟩ hb2W).trans gW0; have y1 := (hx.cell ⟨b2, o2 + j * 5 + 1, none⟩ hb2W).trans gW1; have y2 := (hx.cell ⟨b2, o2 + j * 5 + 2, none⟩ hb2W).trans gW2; have y3 := (hx.cell ⟨b2, o2 + j * 5 + 3, none⟩ hb2W).trans gW3; have y4 := (hx.cell ⟨b2, o2 + j * 5 + 4, none⟩ hb2W).trans gW4; go_simp; first | done | with_reducible rfl | rw [if_neg (by omega)] | rw [if_pos (by omega)]
      simp only [Act.put, List.setIfInBounds_toArray, List.set_cons_zero, List.set_cons_succ]
      refine wpU_take 4 (some 21) (v := ?_) rfl rfl (by kernel_rfl) (fun _ _ _ h => h) rfl (fun x hx => ?_) ?_
      rotate_left 1
      · go_simp; first | done | with_reducible rfl | rw [if_neg (by omega)] | rw [if_pos (by omega)]
      simp only [Act.put, List.setIfInBounds_toArray, List.set_cons_zero, List.set_cons_succ]
      refine wpU_take 5 (some 22) (v := ?_) rfl rfl (by kernel_rfl) (fun _ _ _ h => h) rfl (fun x hx => ?_) ?_
      rotate_left 1
      · go_simp; first | done | with_reducible rfl | rw [if_neg (by omega)] | rw [if_pos (by omega)]
      simp only [Act.put, List.setIfInBounds_toArray, List.set_cons_zero, List.set_cons_succ]
      refine wpU_take 6 (some 23) (v := ?_) rfl rfl (by kernel_rfl) (fun _ _ _ h => h) rfl (fun x hx => ?_) ?_
      rotate_left 1
      · go_simp; first | done | with_reducible rfl | rw [if_neg (by omega)] | rw [if_pos (by omega)]
      simp only [Act.put, List.setIfInBounds_toArray, List.set_cons_zero, List.set_cons_succ]
      refine wpU_take 7 (some 24) (v := ?_) rfl rfl (by kernel_rfl) (fun _ _ _ h => h) rfl (fun x hx => ?_) ?_
      rotate_left 1
      · have x0 := (hx.cell ⟨b, o + j * 5, none⟩ hbW).trans eW0; have x1 := (hx.cell ⟨b, o + j * 5 + 1, none⟩ hbW).trans eW1; have x2 := (hx.cell ⟨b, o + j * 5 + 2, none⟩ hbW).trans eW2; have x3 := (hx.cell ⟨b, o + j * 5 + 3, none⟩ hbW).trans eW3; have x4 := (hx.cell ⟨b, o + j * 5 + 4, none⟩ hbW).trans eW4; have y0 := (hx.cell ⟨b2, o2 + j * 5, none⟩ hb2W).trans gW0; have y1 := (hx.cell ⟨b2, o2 + j * 5 + 1, none⟩ hb2W).trans gW1; have y2 := (hx.cell ⟨b2, o2 + j * 5 + 2, none⟩ hb2W).trans gW2; have y3 := (hx.cell ⟨b2, o2 + j * 5 + 3, none⟩ hb2W).trans gW3; have y4 := (hx.cell ⟨b2, o2 + j * 5 + 4, none⟩ hb2W).trans gW4; go_simp; first | done | with_reducible rfl | rw [if_neg (by omega)] | rw [if_pos (by omega)]
      simp only [Act.put, List.setIfInBounds_toArray, List.set_cons_zero, List.set_cons_succ]
      refine wpU_last [_, _] (by kernel_rfl) rfl rfl ?_
      simp only [List.getElem_toArray, List.getElem_cons_succ, List.getElem_cons_zero]
      clear e0 g0 e1 g1 e2 g2 e3 g3 e4 g4
      have HB2 := Lib.hid (hbel.trans (Below.mono hWL hbel.size))
      have HE3 := Lib.hid (instrEl_is.keep (G := F) HE2.out (fun _ h => h) (Keeps.later hWL))
      have HG3 := Lib.hid (instrEl_is.keep (G := G) HG2.out (fun _ h => h) (Keeps.later hWL))
      clear hWL eW0 gW0 eW1 gW1 eW2 gW2 eW3 gW3 eW4 gW4
      go_wp2_with fail
      refine (eqInstr_same l[j] _ _ F G W HE3.out HG3.out).mono ?_
      rintro e w4 ⟨rfl, hb4⟩
      have hb5 := HB2.out.trans (Below.mono hb4 HB2.out.size)
      clear hb4
      go_wp2_with fail
      go_roundw
      case rel => exact ⟨j + 1, by omega, by go_num, hb5⟩
      case measure => simp [intOf]; omega
    · have hjl : j = l.length := by omega
      go_wp2_with fail
      go_ret
      exact ⟨rfl, hbel⟩

set_option maxRecDepth 100000 in
set_option maxHeartbeats 1000000 in
theorem eqCode_same (r : CodeD) (cs cs' : List Value) (F G : Nat → Prop) (w : World) (h : codeEl F w r cs) (g : codeEl G w r cs') :
    Calls Tryd.prog 12 #[.agg cs.toArray, .agg cs'.toArray] w fun e w' => e = .returned (.bool true) ∧ Below w.heap.size w w' := by
  obtain ⟨vroutines, vrecords, vglobals, vinstrs, rfl, hroutines, hrecords, hglobals, hmain, hinstrs⟩ := h
  obtain ⟨vroutines', vrecords', vglobals', vinstrs', rfl, groutines, grecords, gglobals, _, ginstrs⟩ := g
  have Hroutines := Lib.hid hroutines
  have Groutines := Lib.hid groutines
  clear hroutines groutines
  have Hrecords := Lib.hid hrecords
  have Grecords := Lib.hid grecords
  clear hrecords grecords
  have Hglobals := Lib.hid hglobals
  have Gglobals := Lib.hid gglobals
  clear hglobals gglobals
  clear hmain
  have Hinstrs := Lib.hid hinstrs
  have Ginstrs := Lib.hid ginstrs
  clear hinstrs ginstrs
  have HP := Lib.hid ((Later.refl _).alloc (.cells #[vroutines', vrecords', vglobals', .int .i64 r.main, vinstrs'] 40) |>.block _ (by simp) |>.trans (heap_alloc_new w (.cells #[vroutines, vrecords, vglobals, .int .i64 r.main, vinstrs] 40)))
  have HZ := Lib.hid (heap_alloc_new (w.alloc (.cells #[vroutines, vrecords, vglobals, .int .i64 r.main, vinstrs] 40)) (.cells #[vroutines', vrecords', vglobals', .int .i64 r.main, vinstrs'] 40))
  simp only [heap_size_alloc] at HZ
  have HB := Lib.hid (((Below.refl w.heap.size w).alloc (Nat.le_refl _) (.cells #[vroutines, vrecords, vglobals, .int .i64 r.main, vinstrs] 40)).alloc (by simp) (.cells #[vroutines', vrecords', vglobals', .int .i64 r.main, vinstrs'] 40))
  go_enter Tryd.func12, Tryd.ntmps12
  go_wp2_with fail
  refine (eqCodeRoutineS_same r.routines vroutines vroutines' F G _ (Hroutines.out.later codeRoutineEl_is HB.out) (Groutines.out.later codeRoutineEl_is HB.out)).mono ?_
  rintro e w0 ⟨rfl, hb0⟩
  replace HP := Lib.hid ((Below.block hb0 _ (Array.getElem?_eq_some_iff.1 HP.out).1).trans HP.out)
  replace HZ := Lib.hid ((Below.block hb0 _ (Array.getElem?_eq_some_iff.1 HZ.out).1).trans HZ.out)
  replace HB := Lib.hid (HB.out.trans (Below.mono hb0 HB.out.size))
  clear hb0
  have p0 := cell_of_row _ w.heap.size 0 _ _ _ HP.out
  have z0 := cell_of_row _ (w.heap.size + 1) 0 _ _ _ HZ.out
  have p1 := cell_of_row _ w.heap.size 1 _ _ _ HP.out
  have z1 := cell_of_row _ (w.heap.size + 1) 1 _ _ _ HZ.out
  have p2 := cell_of_row _ w.heap.size 2 _ _ _ HP.out
  have z2 := cell_of_row _ (w.heap.size + 1) 2 _ _ _ HZ.out
  have p3 := cell_of_row _ w.heap.size 3 _ _ _ HP.out
  have z3 := cell_of_row _ (w.heap.size + 1) 3 _ _ _ HZ.out
  have p4 := cell_of_row _ w.heap.size 4 _ _ _ HP.out
  have z4 := cell_of_row _ (w.heap.size + 1) 4 _ _ _ HZ.out
  simp only [List.getElem?_toArray, List.getElem?_cons_succ, List.getElem?_cons_zero] at p0 z0 p1 z1 p2 z2 p3 z3 p4 z4
  go_wp2_with fail
  refine (eqRecordTypeS_same r.records vrecords vrecords' F G _ (Hrecords.out.later recordTypeEl_is HB.out) (Grecords.out.later recordTypeEl_is HB.out)).mono ?_
  rintro e w1 ⟨rfl, hb1⟩
  replace HP := Lib.hid ((Below.block hb1 _ (Array.getElem?_eq_some_iff.1 HP.out).1).trans HP.out)
  replace HZ := Lib.hid ((Below.block hb1 _ (Array.getElem?_eq_some_iff.1 HZ.out).1).trans HZ.out)
  replace HB := Lib.hid (HB.out.trans (Below.mono hb1 HB.out.size))
  clear hb1
  replace p0 := cell_of_row _ w.heap.size 0 _ _ _ HP.out
  replace z0 := cell_of_row _ (w.heap.size + 1) 0 _ _ _ HZ.out
  replace p1 := cell_of_row _ w.heap.size 1 _ _ _ HP.out
  replace z1 := cell_of_row _ (w.heap.size + 1) 1 _ _ _ HZ.out
  replace p2 := cell_of_row _ w.heap.size 2 _ _ _ HP.out
  replace z2 := cell_of_row _ (w.heap.size + 1) 2 _ _ _ HZ.out
  replace p3 := cell_of_row _ w.heap.size 3 _ _ _ HP.out
  replace z3 := cell_of_row _ (w.heap.size + 1) 3 _ _ _ HZ.out
  replace p4 := cell_of_row _ w.heap.size 4 _ _ _ HP.out
  replace z4 := cell_of_row _ (w.heap.size + 1) 4 _ _ _ HZ.out
  simp only [List.getElem?_toArray, List.getElem?_cons_succ, List.getElem?_cons_zero] at p0 z0 p1 z1 p2 z2 p3 z3 p4 z4
  go_wp2_with fail
  refine (eqStringS_same r.globals vglobals vglobals' F G _ (Hglobals.out.later strEl_is HB.out) (Gglobals.out.later strEl_is HB.out)).mono ?_
  rintro e w2 ⟨rfl, hb2⟩
  replace HP := Lib.hid ((Below.block hb2 _ (Array.getElem?_eq_some_iff.1 HP.out).1).trans HP.out)
  replace HZ := Lib.hid ((Below.block hb2 _ (Array.getElem?_eq_some_iff.1 HZ.out).1).trans HZ.out)
  replace HB := Lib.hid (HB.out.trans (Below.mono hb2 HB.out.size))
  clear hb2
  replace p0 := cell_of_row _ w.heap.size 0 _ _ _ HP.out
  replace z0 := cell_of_row _ (w.heap.size + 1) 0 _ _ _ HZ.out
  replace p1 := cell_of_row _ w.heap.size 1 _ _ _ HP.out
  replace z1 := cell_of_row _ (w.heap.size + 1) 1 _ _ _ HZ.out
  replace p2 := cell_of_row _ w.heap.size 2 _ _ _ HP.out
  replace z2 := cell_of_row _ (w.heap.size + 1) 2 _ _ _ HZ.out
  replace p3 := cell_of_row _ w.heap.size 3 _ _ _ HP.out
  replace z3 := cell_of_row _ (w.heap.size + 1) 3 _ _ _ HZ.out
  replace p4 := cell_of_row _ w.heap.size 4 _ _ _ HP.out
  replace z4 := cell_of_row _ (w.heap.size + 1) 4 _ _ _ HZ.out
  simp only [List.getElem?_toArray, List.getElem?_cons_succ, List.getElem?_cons_zero] at p0 z0 p1 z1 p2 z2 p3 z3 p4 z4
  go_wp2_with fail
  refine (eqInstrS_same r.instrs vinstrs vinstrs' F G _ (Hinstrs.out.later instrEl_is HB.out) (Ginstrs.out.later instrEl_is HB.out)).mono ?_
  rintro e w4 ⟨rfl, hb4⟩
  replace HP := Lib.hid ((Below.block hb4 _ (Array.getElem?_eq_some_iff.1 HP.out).1).trans HP.out)
  replace HZ := Lib.hid ((Below.block hb4 _ (Array.getElem?_eq_some_iff.1 HZ.out).1).trans HZ.out)
  replace HB := Lib.hid (HB.out.trans (Below.mono hb4 HB.out.size))
  clear hb4
  replace p0 := cell_of_row _ w.heap.size 0 _ _ _ HP.out
  replace z0 := cell_of_row _ (w.heap.size + 1) 0 _ _ _ HZ.out
  replace p1 := cell_of_row _ w.heap.size 1 _ _ _ HP.out
  replace z1 := cell_of_row _ (w.heap.size + 1) 1 _ _ _ HZ.out
  replace p2 := cell_of_row _ w.heap.size 2 _ _ _ HP.out
  replace z2 := cell_of_row _ (w.heap.size + 1) 2 _ _ _ HZ.out
  replace p3 := cell_of_row _ w.heap.size 3 _ _ _ HP.out
  replace z3 := cell_of_row _ (w.heap.size + 1) 3 _ _ _ HZ.out
  replace p4 := cell_of_row _ w.heap.size 4 _ _ _ HP.out
  replace z4 := cell_of_row _ (w.heap.size + 1) 4 _ _ _ HZ.out
  simp only [List.getElem?_toArray, List.getElem?_cons_succ, List.getElem?_cons_zero] at p0 z0 p1 z1 p2 z2 p3 z3 p4 z4
  go_wp2_with fail
  go_ret
  exact ⟨rfl, HB.out⟩
end Go.Proofs.YtopaeiogbijppaaDoor
