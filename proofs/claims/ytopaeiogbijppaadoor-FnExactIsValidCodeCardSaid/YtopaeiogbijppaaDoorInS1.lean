/- spec.l28Instr. Printed by gen_instr.py. -/
import Derived.Test.YtopaeiogbijppaaDoorInSB
namespace Go.Proofs.YtopaeiogbijppaaDoor
open Go.RowKit

set_option maxRecDepth 100000 in
set_option maxHeartbeats 8000000 in
theorem specIn_1 (nR nC nG nI : Nat) (A1 A2 A3 A4 : Option Addr) (c1 c2 c3 c4 : Nat) (m a b line : Int) (text : ByteArray) (w : World) (hR : nR ≤ 1048576) (hC : nC ≤ 1048576) (hG : nG ≤ 1048576) (hI : nI ≤ 1048576) (hts : text.size ≤ 1048576) (hl : 0 ≤ line) : Calls Tryd.prog 33 #[.agg #[.slice A1 nR c1, .slice A2 nC c2, .slice A3 nG c3, .int .i64 m, .slice A4 nI c4], .agg #[.int .i64 1, .int .i64 a, .int .i64 b, .int .i64 line, .string text]] w fun e w' => e = .returned (.bool (insOk nR nC nG nI 1 a b line text)) ∧ Below w.heap.size w w' := by
  have hl0 : decide (line < 0) = false := decide_eq_false (by omega)
  have hl1 : decide (0 ≤ line) = true := decide_eq_true hl
  have hR2 : insOk nR nC nG nI 1 a b line text = (aOk nR nC nG nI 1 a && (bOk 1 a b && tOk 1 text)) := by
    unfold insOk; rw [hl1]; rfl
  rw [show aOk nR nC nG nI 1 a = (decide (-999999999999 ≤ a) && decide (a ≤ 999999999999)) from rfl, show bOk 1 a b = (b == 0) from rfl, show tOk 1 text = (text.toList == []) from rfl] at hR2
  obtain ⟨p, hp⟩ : ∃ x : Bool, (decide (-999999999999 ≤ a)) = x := ⟨_, rfl⟩
  obtain ⟨p2, hp2⟩ : ∃ x : Bool, (decide (a ≤ 999999999999)) = x := ⟨_, rfl⟩
  obtain ⟨q, hq⟩ : ∃ x : Bool, (b == 0) = x := ⟨_, rfl⟩
  obtain ⟨t, ht⟩ : ∃ x : Bool, (text.toList == []) = x := ⟨_, rfl⟩
  rw [hp, hp2, hq, ht] at hR2
  obtain ⟨R, hR0⟩ : ∃ R, insOk nR nC nG nI 1 a b line text = R := ⟨_, rfl⟩
  rw [hR0]
  rw [hR0] at hR2
  have HR := Lib.hid hR2
  clear hR0 hR2 hl1
  have HB0 := Lib.hid (((Below.refl w.heap.size w).alloc (Nat.le_refl _) (.cells #[.slice A1 nR c1, .slice A2 nC c2, .slice A3 nG c3, .int .i64 m, .slice A4 nI c4] 40)).alloc (by simp) (.cells #[.int .i64 1, .int .i64 a, .int .i64 b, .int .i64 line, .string text] 23))
  have HB := Lib.hid (HB0.out.alloc (by simp; omega) (.cells #[.int .i64 1, .int .i64 0, .int .i64 a, .int .i64 0, .string ⟨#[]⟩, .slice none 0 0] 91))
  cases t
  · skip
    go_enter Tryd.func33, Tryd.ntmps33
    go_wp2_with fail
    go_ret
    exact ⟨by rw [HR.out]; simp, HB0.out⟩
  cases q
  · skip
    go_enter Tryd.func33, Tryd.ntmps33
    go_wp2_with fail
    go_ret
    exact ⟨by rw [HR.out]; simp, HB0.out⟩
  all_goals
    (go_enter Tryd.func33, Tryd.ntmps33
     go_wp2_with fail
     refine (l28Jumps_any 1 _).mono ?_
     rintro e w' ⟨rfl, hw⟩
     obtain rfl := hw.symm
     rw [show isLab 1 = false from rfl]
     go_wp2_with fail
     refine (l10Leaf_1 a _).mono ?_
     rintro e w1 ⟨rfl, hb1⟩
     have HB1 := Lib.hid (HB.out.trans (Below.mono hb1 HB.out.size))
     clear hb1
     rw [hp, hp2]
     go_wp2_with fail
     go_ret
     exact ⟨by rw [HR.out]; simp, HB1.out⟩)
set_option maxRecDepth 100000 in
set_option maxHeartbeats 8000000 in
theorem specIn_2 (nR nC nG nI : Nat) (A1 A2 A3 A4 : Option Addr) (c1 c2 c3 c4 : Nat) (m a b line : Int) (text : ByteArray) (w : World) (hR : nR ≤ 1048576) (hC : nC ≤ 1048576) (hG : nG ≤ 1048576) (hI : nI ≤ 1048576) (hts : text.size ≤ 1048576) (hl : 0 ≤ line) : Calls Tryd.prog 33 #[.agg #[.slice A1 nR c1, .slice A2 nC c2, .slice A3 nG c3, .int .i64 m, .slice A4 nI c4], .agg #[.int .i64 2, .int .i64 a, .int .i64 b, .int .i64 line, .string text]] w fun e w' => e = .returned (.bool (insOk nR nC nG nI 2 a b line text)) ∧ Below w.heap.size w w' := by
  have hl0 : decide (line < 0) = false := decide_eq_false (by omega)
  have hl1 : decide (0 ≤ line) = true := decide_eq_true hl
  have hR2 : insOk nR nC nG nI 2 a b line text = (aOk nR nC nG nI 2 a && (bOk 2 a b && tOk 2 text)) := by
    unfold insOk; rw [hl1]; rfl
  rw [show aOk nR nC nG nI 2 a = (a == 0) from rfl, show bOk 2 a b = (b == 0) from rfl, show tOk 2 text = decide ((text.size : Int) ≤ 120) from rfl] at hR2
  obtain ⟨p, hp⟩ : ∃ x : Bool, (a == 0) = x := ⟨_, rfl⟩
  obtain ⟨q, hq⟩ : ∃ x : Bool, (b == 0) = x := ⟨_, rfl⟩
  obtain ⟨t, ht⟩ : ∃ x : Bool, (decide ((text.size : Int) ≤ 120)) = x := ⟨_, rfl⟩
  rw [hp, hq, ht] at hR2
  obtain ⟨R, hR0⟩ : ∃ R, insOk nR nC nG nI 2 a b line text = R := ⟨_, rfl⟩
  rw [hR0]
  rw [hR0] at hR2
  have HR := Lib.hid hR2
  clear hR0 hR2 hl1
  have HB0 := Lib.hid (((Below.refl w.heap.size w).alloc (Nat.le_refl _) (.cells #[.slice A1 nR c1, .slice A2 nC c2, .slice A3 nG c3, .int .i64 m, .slice A4 nI c4] 40)).alloc (by simp) (.cells #[.int .i64 2, .int .i64 a, .int .i64 b, .int .i64 line, .string text] 23))
  have HB := Lib.hid (HB0.out.alloc (by simp; omega) (.cells #[.int .i64 2, .int .i64 0, .int .i64 a, .int .i64 0, .string ⟨#[]⟩, .slice none 0 0] 91))
  cases q
  · skip
    go_enter Tryd.func33, Tryd.ntmps33
    go_wp2_with fail
    go_ret
    exact ⟨by rw [HR.out]; simp, HB0.out⟩
  cases t <;>
    (go_enter Tryd.func33, Tryd.ntmps33
     go_wp2_with fail
     refine (l28Jumps_any 2 _).mono ?_
     rintro e w' ⟨rfl, hw⟩
     obtain rfl := hw.symm
     rw [show isLab 2 = false from rfl]
     go_wp2_with fail
     go_ret
     exact ⟨by rw [HR.out]; simp, HB.out⟩)
set_option maxRecDepth 100000 in
set_option maxHeartbeats 8000000 in
theorem specIn_3 (nR nC nG nI : Nat) (A1 A2 A3 A4 : Option Addr) (c1 c2 c3 c4 : Nat) (m a b line : Int) (text : ByteArray) (w : World) (hR : nR ≤ 1048576) (hC : nC ≤ 1048576) (hG : nG ≤ 1048576) (hI : nI ≤ 1048576) (hts : text.size ≤ 1048576) (hl : 0 ≤ line) : Calls Tryd.prog 33 #[.agg #[.slice A1 nR c1, .slice A2 nC c2, .slice A3 nG c3, .int .i64 m, .slice A4 nI c4], .agg #[.int .i64 3, .int .i64 a, .int .i64 b, .int .i64 line, .string text]] w fun e w' => e = .returned (.bool (insOk nR nC nG nI 3 a b line text)) ∧ Below w.heap.size w w' := by
  have hl0 : decide (line < 0) = false := decide_eq_false (by omega)
  have hl1 : decide (0 ≤ line) = true := decide_eq_true hl
  have hR2 : insOk nR nC nG nI 3 a b line text = (aOk nR nC nG nI 3 a && (bOk 3 a b && tOk 3 text)) := by
    unfold insOk; rw [hl1]; rfl
  rw [show aOk nR nC nG nI 3 a = (a == 0) from rfl, show bOk 3 a b = (b == 0) from rfl, show tOk 3 text = csOk (bl text) from rfl] at hR2
  obtain ⟨p, hp⟩ : ∃ x : Bool, (a == 0) = x := ⟨_, rfl⟩
  obtain ⟨q, hq⟩ : ∃ x : Bool, (b == 0) = x := ⟨_, rfl⟩
  obtain ⟨t, ht⟩ : ∃ x : Bool, (csOk (bl text)) = x := ⟨_, rfl⟩
  rw [hp, hq, ht] at hR2
  obtain ⟨R, hR0⟩ : ∃ R, insOk nR nC nG nI 3 a b line text = R := ⟨_, rfl⟩
  rw [hR0]
  rw [hR0] at hR2
  have HR := Lib.hid hR2
  clear hR0 hR2 hl1
  have HB0 := Lib.hid (((Below.refl w.heap.size w).alloc (Nat.le_refl _) (.cells #[.slice A1 nR c1, .slice A2 nC c2, .slice A3 nG c3, .int .i64 m, .slice A4 nI c4] 40)).alloc (by simp) (.cells #[.int .i64 3, .int .i64 a, .int .i64 b, .int .i64 line, .string text] 23))
  have HB := Lib.hid (HB0.out.alloc (by simp; omega) (.cells #[.int .i64 3, .int .i64 0, .int .i64 a, .int .i64 0, .string ⟨#[]⟩, .slice none 0 0] 91))
  cases q
  · skip
    go_enter Tryd.func33, Tryd.ntmps33
    go_wp2_with fail
    go_ret
    exact ⟨by rw [HR.out]; simp, HB0.out⟩
  have HX5 := Lib.hid (((Later.refl _).alloc (.cells #[.int .i64 3, .int .i64 0, .int .i64 a, .int .i64 0, .string ⟨#[]⟩, .slice none 0 0] 91)).block _ (by simp) |>.trans (ins5_at w (.cells #[.slice A1 nR c1, .slice A2 nC c2, .slice A3 nG c3, .int .i64 m, .slice A4 nI c4] 40) 23 (.int .i64 3) (.int .i64 a) (.int .i64 b) (.int .i64 line) (.string text)))
  have HNC := Lib.hid (specNewCset_any text)
  have HTXT := Lib.hid (fun lo hi h7 hs => cs_text (bl text) lo hi h7 hs)
  have HBIG := Lib.hid (fun (x : UInt8) (hm : x ∈ bl text) h => csOk_big hm h)
  go_enter Tryd.func33, Tryd.ntmps33
  go_wp2_with fail
  refine (l28Jumps_any 3 _).mono ?_
  rintro e w' ⟨rfl, hw⟩
  obtain rfl := hw.symm
  rw [show isLab 3 = false from rfl]
  go_wp2_with fail
  refine (HNC.out _ (by unfold maxLen; omega)).mono ?_
  rintro e w1 ⟨⟨lo, hi, ok, rfl, hyes, hno⟩, hb1⟩
  have HB1 := Lib.hid (HB.out.trans (Below.mono hb1 HB.out.size))
  have HX1 := Lib.hid ((Below.block hb1 _ (Array.getElem?_eq_some_iff.1 HX5.out).1).trans HX5.out)
  clear hb1
  go_upto_region 14 with (fail)
  obtain ⟨w2, hw2⟩ : ∃ w2, w2 = w1.alloc (.cells #[.int .i64 lo, .int .i64 hi] 98) := ⟨_, rfl⟩
  rw [show w1.alloc (.cells #[.int .i64 lo, .int .i64 hi] 98) = w2 from hw2.symm]
  have hl12 : Later w1 w2 := by rw [hw2]; exact (Later.refl _).alloc _
  have HC2 := Lib.hid (show w2.heap[w1.heap.size]? = some (.cells #[.int .i64 lo, .int .i64 hi] 98 (0, 0)) by rw [hw2]; exact heap_alloc_new w1 _)
  have HI2 := Lib.hid ((hl12.block _ (Array.getElem?_eq_some_iff.1 HX1.out).1).trans HX1.out)
  have HB2 := Lib.hid (HB1.out.trans (Below.mono hl12 HB1.out.size))
  obtain ⟨C, hC⟩ : ∃ C, w1.heap.size = C := ⟨_, rfl⟩
  rw [hC] at HC2
  try rw [hC]
  clear hw2 hl12 hC
  cases ok
  · have ht0 : t = false := by
      obtain ⟨x, hm, hx⟩ := hno rfl
      rw [← ht]
      exact HBIG.out x hm hx
    clear hyes hno ht HTXT HBIG
    subst ht0
    -- region 14: 14 operations, the last [13]
    refine wpU_begin [13] [] (by kernel_rfl) (fun W hW => ?_)
    have hWL : Later w2 W := by rw [hW]; exact (Later.refl _).drew
    have HIW := Lib.hid ((hWL.block _ (Array.getElem?_eq_some_iff.1 HI2.out).1).trans HI2.out)
    have HCW := Lib.hid ((hWL.block _ (Array.getElem?_eq_some_iff.1 HC2.out).1).trans HC2.out)
    clear hW
    refine wpU_take 0 (some 105) (v := ?_) rfl rfl (by kernel_rfl) (fun _ _ _ h => h) rfl (fun x hx => ?_) ?_
    rotate_left 1
    · go_simp; first | done | with_reducible rfl | rw [if_neg (by omega)] | rw [if_pos (by omega)]
    simp only [Act.put, List.setIfInBounds_toArray, List.set_cons_zero, List.set_cons_succ]
    refine wpU_take 1 (some 106) (v := ?_) rfl rfl (by kernel_rfl) (fun _ _ _ h => h) rfl (fun x hx => ?_) ?_
    rotate_left 1
    · go_simp; first | done | with_reducible rfl | rw [if_neg (by omega)] | rw [if_pos (by omega)]
    simp only [Act.put, List.setIfInBounds_toArray, List.set_cons_zero, List.set_cons_succ]
    refine wpU_skip 2 (some 107) rfl rfl (by kernel_rfl) (fun _ _ _ h => h) rfl ?_
    simp only [Act.put, List.setIfInBounds_toArray, List.set_cons_zero, List.set_cons_succ]
    refine wpU_skip 4 (some 109) rfl rfl (by kernel_rfl) (fun _ _ _ h => h) rfl ?_
    simp only [Act.put, List.setIfInBounds_toArray, List.set_cons_zero, List.set_cons_succ]
    refine wpU_skip 5 (some 110) rfl rfl (by kernel_rfl) (fun _ _ _ h => h) rfl ?_
    simp only [Act.put, List.setIfInBounds_toArray, List.set_cons_zero, List.set_cons_succ]
    refine wpU_skip 3 (some 108) rfl rfl (by kernel_rfl) (fun _ _ _ h => h) rfl ?_
    simp only [Act.put, List.setIfInBounds_toArray, List.set_cons_zero, List.set_cons_succ]
    refine wpU_skip 6 (some 111) rfl rfl (by kernel_rfl) (fun _ _ _ h => h) rfl ?_
    simp only [Act.put, List.setIfInBounds_toArray, List.set_cons_zero, List.set_cons_succ]
    refine wpU_take 7 (some 112) (v := ?_) rfl rfl (by kernel_rfl) (fun _ _ _ h => h) rfl (fun x hx => ?_) ?_
    rotate_left 1
    · go_simp; first | done | with_reducible rfl | rw [if_neg (by omega)] | rw [if_pos (by omega)]
    simp only [Act.put, List.setIfInBounds_toArray, List.set_cons_zero, List.set_cons_succ]
    refine wpU_take 8 (some 113) (v := ?_) rfl rfl (by kernel_rfl) (fun _ _ _ h => h) rfl (fun x hx => ?_) ?_
    rotate_left 1
    · go_simp; first | done | with_reducible rfl | rw [if_neg (by omega)] | rw [if_pos (by omega)]
    simp only [Act.put, List.setIfInBounds_toArray, List.set_cons_zero, List.set_cons_succ]
    refine wpU_skip 9 (some 114) rfl rfl (by kernel_rfl) (fun _ _ _ h => h) rfl ?_
    simp only [Act.put, List.setIfInBounds_toArray, List.set_cons_zero, List.set_cons_succ]
    refine wpU_skip 10 (some 115) rfl rfl (by kernel_rfl) (fun _ _ _ h => h) rfl ?_
    simp only [Act.put, List.setIfInBounds_toArray, List.set_cons_zero, List.set_cons_succ]
    refine wpU_skip 11 (some 116) rfl rfl (by kernel_rfl) (fun _ _ _ h => h) rfl ?_
    simp only [Act.put, List.setIfInBounds_toArray, List.set_cons_zero, List.set_cons_succ]
    refine wpU_take 12 (some 117) (v := ?_) rfl rfl (by kernel_rfl) (fun _ _ _ h => h) rfl (fun x hx => ?_) ?_
    rotate_left 1
    · go_simp; first | done | with_reducible rfl | rw [if_neg (by omega)] | rw [if_pos (by omega)]
    simp only [Act.put, List.setIfInBounds_toArray, List.set_cons_zero, List.set_cons_succ]
    refine wpU_last [_] (by kernel_rfl) rfl rfl ?_
    simp only [List.getElem_toArray, List.getElem_cons_succ, List.getElem_cons_zero]
    have HBW := Lib.hid (HB2.out.trans (Below.mono hWL HB2.out.size))
    clear hWL
    go_wp2_with fail
    go_ret
    exact ⟨by rw [HR.out]; simp, HBW.out⟩
  · obtain ⟨h7, hs⟩ := hyes rfl
    have htx := HTXT.out lo hi h7 hs
    rw [ht] at htx
    obtain ⟨z, hz⟩ : ∃ z : ByteArray, (⟨(csBytes lo hi 128).toArray⟩ : ByteArray) = z := ⟨_, rfl⟩
    have hzt : (z.toList == text.toList) = t := by
      rw [Bool.eq_iff_iff, beq_iff_eq, ← htx, ← hz]
      constructor
      · intro h; have := text_inj h; rw [← this]; rfl
      · intro h; congr 1; apply bl_inj; exact h
    have HCT := Lib.hid (specCsetText_any lo hi)
    rw [hz] at HCT
    clear hyes hno h7 hs htx hz HTXT HBIG ht
    cases t
    · skip
      -- region 14: 14 operations, the last []
      refine wpU_begin [] [] (by kernel_rfl) (fun W hW => ?_)
      have hWL : Later w2 W := by rw [hW]; exact (Later.refl _).drew
      have HIW := Lib.hid ((hWL.block _ (Array.getElem?_eq_some_iff.1 HI2.out).1).trans HI2.out)
      have HCW := Lib.hid ((hWL.block _ (Array.getElem?_eq_some_iff.1 HC2.out).1).trans HC2.out)
      clear hW
      refine wpU_take 0 (some 105) (v := ?_) rfl rfl (by kernel_rfl) (fun _ _ _ h => h) rfl (fun x hx => ?_) ?_
      rotate_left 1
      · go_simp; first | done | with_reducible rfl | rw [if_neg (by omega)] | rw [if_pos (by omega)]
      simp only [Act.put, List.setIfInBounds_toArray, List.set_cons_zero, List.set_cons_succ]
      refine wpU_take 1 (some 106) (v := ?_) rfl rfl (by kernel_rfl) (fun _ _ _ h => h) rfl (fun x hx => ?_) ?_
      rotate_left 1
      · go_simp; first | done | with_reducible rfl | rw [if_neg (by omega)] | rw [if_pos (by omega)]
      simp only [Act.put, List.setIfInBounds_toArray, List.set_cons_zero, List.set_cons_succ]
      refine wpU_take 2 (some 107) (v := ?_) rfl rfl (by kernel_rfl) (fun _ _ _ h => h) rfl (fun x hx => ?_) ?_
      rotate_left 1
      · obtain ⟨x0, x1, x2, x3, x4⟩ := lift5 HIW.out hx; obtain ⟨c0, c1⟩ := cs_cells ((hx.block _ (Array.getElem?_eq_some_iff.1 HCW.out).1).trans HCW.out); go_simp; first | done | with_reducible rfl | rw [if_neg (by omega)] | rw [if_pos (by omega)]
      simp only [Act.put, List.setIfInBounds_toArray, List.set_cons_zero, List.set_cons_succ]
      refine wpU_take 4 (some 109) (v := ?_) rfl rfl (by kernel_rfl) (fun _ _ _ h => h) rfl (fun x hx => ?_) ?_
      rotate_left 1
      · go_simp; first | done | with_reducible rfl | rw [if_neg (by omega)] | rw [if_pos (by omega)]
      simp only [Act.put, List.setIfInBounds_toArray, List.set_cons_zero, List.set_cons_succ]
      refine wpU_take 5 (some 110) (v := ?_) rfl rfl (by kernel_rfl) (fun _ _ _ h => h) rfl (fun x hx => ?_) ?_
      rotate_left 1
      · obtain ⟨x0, x1, x2, x3, x4⟩ := lift5 HIW.out hx; obtain ⟨c0, c1⟩ := cs_cells ((hx.block _ (Array.getElem?_eq_some_iff.1 HCW.out).1).trans HCW.out); go_simp; first | done | with_reducible rfl | rw [if_neg (by omega)] | rw [if_pos (by omega)]
      simp only [Act.put, List.setIfInBounds_toArray, List.set_cons_zero, List.set_cons_succ]
      refine wpU_step 3 (by kernel_rfl) rfl rfl ?_  -- call value (Go.Operand.func 65)
      have HBW := Lib.hid (HB2.out.trans (Below.mono hWL HB2.out.size))
      clear hWL
      go_wp2_with fail
      refine (HCT.out _).mono ?_
      rintro e w3 ⟨rfl, hb3⟩
      have HB3 := Lib.hid (HBW.out.trans (Below.mono hb3 HBW.out.size))
      have HI3 := Lib.hid ((Below.block hb3 _ (Array.getElem?_eq_some_iff.1 HIW.out).1).trans HIW.out)
      go_wp2_with fail
      refine ⟨hb3, ?_⟩
      refine wpU_take 6 (some 111) (v := ?_) rfl rfl (by kernel_rfl) (fun _ _ _ h => h) rfl (fun x hx => ?_) ?_
      rotate_left 1
      · go_simp; first | done | with_reducible rfl | rw [if_neg (by omega)] | rw [if_pos (by omega)]
      simp only [Act.put, List.setIfInBounds_toArray, List.set_cons_zero, List.set_cons_succ]
      refine wpU_take 7 (some 112) (v := ?_) rfl rfl (by kernel_rfl) (fun _ _ _ h => h) rfl (fun x hx => ?_) ?_
      rotate_left 1
      · go_simp; first | done | with_reducible rfl | rw [if_neg (by omega)] | rw [if_pos (by omega)]
      simp only [Act.put, List.setIfInBounds_toArray, List.set_cons_zero, List.set_cons_succ]
      refine wpU_take 8 (some 113) (v := ?_) rfl rfl (by kernel_rfl) (fun _ _ _ h => h) rfl (fun x hx => ?_) ?_
      rotate_left 1
      · go_simp; first | done | with_reducible rfl | rw [if_neg (by omega)] | rw [if_pos (by omega)]
      simp only [Act.put, List.setIfInBounds_toArray, List.set_cons_zero, List.set_cons_succ]
      refine wpU_skip 9 (some 114) rfl rfl (by kernel_rfl) (fun _ _ _ h => h) rfl ?_
      simp only [Act.put, List.setIfInBounds_toArray, List.set_cons_zero, List.set_cons_succ]
      refine wpU_skip 10 (some 115) rfl rfl (by kernel_rfl) (fun _ _ _ h => h) rfl ?_
      simp only [Act.put, List.setIfInBounds_toArray, List.set_cons_zero, List.set_cons_succ]
      refine wpU_skip 11 (some 116) rfl rfl (by kernel_rfl) (fun _ _ _ h => h) rfl ?_
      simp only [Act.put, List.setIfInBounds_toArray, List.set_cons_zero, List.set_cons_succ]
      refine wpU_take 12 (some 117) (v := ?_) rfl rfl (by kernel_rfl) (fun _ _ _ h => h) rfl (fun x hx => ?_) ?_
      rotate_left 1
      · go_simp; first | done | with_reducible rfl | rw [if_neg (by omega)] | rw [if_pos (by omega)]
      simp only [Act.put, List.setIfInBounds_toArray, List.set_cons_zero, List.set_cons_succ]
      refine wpU_take 13 (some 4) (v := ?_) rfl rfl (by kernel_rfl) (fun _ _ _ h => h) rfl (fun x hx => ?_) ?_
      rotate_left 1
      · go_simp; first | done | with_reducible rfl | rw [if_neg (by omega)] | rw [if_pos (by omega)]
      simp only [Act.put, List.setIfInBounds_toArray, List.set_cons_zero, List.set_cons_succ]
      refine wpU_last [] (by kernel_rfl) rfl rfl ?_
      go_wp2_with fail
      go_ret
      exact ⟨by rw [HR.out]; simp, HB3.out⟩
    · skip
      -- region 14: 14 operations, the last []
      refine wpU_begin [] [] (by kernel_rfl) (fun W hW => ?_)
      have hWL : Later w2 W := by rw [hW]; exact (Later.refl _).drew
      have HIW := Lib.hid ((hWL.block _ (Array.getElem?_eq_some_iff.1 HI2.out).1).trans HI2.out)
      have HCW := Lib.hid ((hWL.block _ (Array.getElem?_eq_some_iff.1 HC2.out).1).trans HC2.out)
      clear hW
      refine wpU_take 0 (some 105) (v := ?_) rfl rfl (by kernel_rfl) (fun _ _ _ h => h) rfl (fun x hx => ?_) ?_
      rotate_left 1
      · go_simp; first | done | with_reducible rfl | rw [if_neg (by omega)] | rw [if_pos (by omega)]
      simp only [Act.put, List.setIfInBounds_toArray, List.set_cons_zero, List.set_cons_succ]
      refine wpU_take 1 (some 106) (v := ?_) rfl rfl (by kernel_rfl) (fun _ _ _ h => h) rfl (fun x hx => ?_) ?_
      rotate_left 1
      · go_simp; first | done | with_reducible rfl | rw [if_neg (by omega)] | rw [if_pos (by omega)]
      simp only [Act.put, List.setIfInBounds_toArray, List.set_cons_zero, List.set_cons_succ]
      refine wpU_take 2 (some 107) (v := ?_) rfl rfl (by kernel_rfl) (fun _ _ _ h => h) rfl (fun x hx => ?_) ?_
      rotate_left 1
      · obtain ⟨x0, x1, x2, x3, x4⟩ := lift5 HIW.out hx; obtain ⟨c0, c1⟩ := cs_cells ((hx.block _ (Array.getElem?_eq_some_iff.1 HCW.out).1).trans HCW.out); go_simp; first | done | with_reducible rfl | rw [if_neg (by omega)] | rw [if_pos (by omega)]
      simp only [Act.put, List.setIfInBounds_toArray, List.set_cons_zero, List.set_cons_succ]
      refine wpU_take 4 (some 109) (v := ?_) rfl rfl (by kernel_rfl) (fun _ _ _ h => h) rfl (fun x hx => ?_) ?_
      rotate_left 1
      · go_simp; first | done | with_reducible rfl | rw [if_neg (by omega)] | rw [if_pos (by omega)]
      simp only [Act.put, List.setIfInBounds_toArray, List.set_cons_zero, List.set_cons_succ]
      refine wpU_take 5 (some 110) (v := ?_) rfl rfl (by kernel_rfl) (fun _ _ _ h => h) rfl (fun x hx => ?_) ?_
      rotate_left 1
      · obtain ⟨x0, x1, x2, x3, x4⟩ := lift5 HIW.out hx; obtain ⟨c0, c1⟩ := cs_cells ((hx.block _ (Array.getElem?_eq_some_iff.1 HCW.out).1).trans HCW.out); go_simp; first | done | with_reducible rfl | rw [if_neg (by omega)] | rw [if_pos (by omega)]
      simp only [Act.put, List.setIfInBounds_toArray, List.set_cons_zero, List.set_cons_succ]
      refine wpU_step 3 (by kernel_rfl) rfl rfl ?_  -- call value (Go.Operand.func 65)
      have HBW := Lib.hid (HB2.out.trans (Below.mono hWL HB2.out.size))
      clear hWL
      go_wp2_with fail
      refine (HCT.out _).mono ?_
      rintro e w3 ⟨rfl, hb3⟩
      have HB3 := Lib.hid (HBW.out.trans (Below.mono hb3 HBW.out.size))
      have HI3 := Lib.hid ((Below.block hb3 _ (Array.getElem?_eq_some_iff.1 HIW.out).1).trans HIW.out)
      go_wp2_with fail
      refine ⟨hb3, ?_⟩
      refine wpU_take 6 (some 111) (v := ?_) rfl rfl (by kernel_rfl) (fun _ _ _ h => h) rfl (fun x hx => ?_) ?_
      rotate_left 1
      · go_simp; first | done | with_reducible rfl | rw [if_neg (by omega)] | rw [if_pos (by omega)]
      simp only [Act.put, List.setIfInBounds_toArray, List.set_cons_zero, List.set_cons_succ]
      refine wpU_take 7 (some 112) (v := ?_) rfl rfl (by kernel_rfl) (fun _ _ _ h => h) rfl (fun x hx => ?_) ?_
      rotate_left 1
      · go_simp; first | done | with_reducible rfl | rw [if_neg (by omega)] | rw [if_pos (by omega)]
      simp only [Act.put, List.setIfInBounds_toArray, List.set_cons_zero, List.set_cons_succ]
      refine wpU_take 8 (some 113) (v := ?_) rfl rfl (by kernel_rfl) (fun _ _ _ h => h) rfl (fun x hx => ?_) ?_
      rotate_left 1
      · go_simp; first | done | with_reducible rfl | rw [if_neg (by omega)] | rw [if_pos (by omega)]
      simp only [Act.put, List.setIfInBounds_toArray, List.set_cons_zero, List.set_cons_succ]
      refine wpU_take 9 (some 114) (v := ?_) rfl rfl (by kernel_rfl) (fun _ _ _ h => h) rfl (fun x hx => ?_) ?_
      rotate_left 1
      · go_simp; first | done | with_reducible rfl | rw [if_neg (by omega)] | rw [if_pos (by omega)]
      simp only [Act.put, List.setIfInBounds_toArray, List.set_cons_zero, List.set_cons_succ]
      refine wpU_take 10 (some 115) (v := ?_) rfl rfl (by kernel_rfl) (fun _ _ _ h => h) rfl (fun x hx => ?_) ?_
      rotate_left 1
      · obtain ⟨x0, x1, x2, x3, x4⟩ := lift5 HI3.out hx; go_simp; first | done | with_reducible rfl | rw [if_neg (by omega)] | rw [if_pos (by omega)]
      simp only [Act.put, List.setIfInBounds_toArray, List.set_cons_zero, List.set_cons_succ]
      refine wpU_take 11 (some 116) (v := ?_) rfl rfl (by kernel_rfl) (fun _ _ _ h => h) rfl (fun x hx => ?_) ?_
      rotate_left 1
      · go_simp; first | done | with_reducible rfl | rw [if_neg (by omega)] | rw [if_pos (by omega)]
      simp only [Act.put, List.setIfInBounds_toArray, List.set_cons_zero, List.set_cons_succ]
      refine wpU_take 12 (some 117) (v := ?_) rfl rfl (by kernel_rfl) (fun _ _ _ h => h) rfl (fun x hx => ?_) ?_
      rotate_left 1
      · go_simp; first | done | with_reducible rfl | rw [if_neg (by omega)] | rw [if_pos (by omega)]
      simp only [Act.put, List.setIfInBounds_toArray, List.set_cons_zero, List.set_cons_succ]
      refine wpU_take 13 (some 4) (v := ?_) rfl rfl (by kernel_rfl) (fun _ _ _ h => h) rfl (fun x hx => ?_) ?_
      rotate_left 1
      · go_simp; first | done | with_reducible rfl | rw [if_neg (by omega)] | rw [if_pos (by omega)]
      simp only [Act.put, List.setIfInBounds_toArray, List.set_cons_zero, List.set_cons_succ]
      refine wpU_last [] (by kernel_rfl) rfl rfl ?_
      go_wp2_with fail
      go_ret
      exact ⟨by rw [HR.out]; simp, HB3.out⟩
set_option maxRecDepth 100000 in
set_option maxHeartbeats 8000000 in
theorem specIn_4 (nR nC nG nI : Nat) (A1 A2 A3 A4 : Option Addr) (c1 c2 c3 c4 : Nat) (m a b line : Int) (text : ByteArray) (w : World) (hR : nR ≤ 1048576) (hC : nC ≤ 1048576) (hG : nG ≤ 1048576) (hI : nI ≤ 1048576) (hts : text.size ≤ 1048576) (hl : 0 ≤ line) : Calls Tryd.prog 33 #[.agg #[.slice A1 nR c1, .slice A2 nC c2, .slice A3 nG c3, .int .i64 m, .slice A4 nI c4], .agg #[.int .i64 4, .int .i64 a, .int .i64 b, .int .i64 line, .string text]] w fun e w' => e = .returned (.bool (insOk nR nC nG nI 4 a b line text)) ∧ Below w.heap.size w w' := by
  have hl0 : decide (line < 0) = false := decide_eq_false (by omega)
  have hl1 : decide (0 ≤ line) = true := decide_eq_true hl
  have hR2 : insOk nR nC nG nI 4 a b line text = (aOk nR nC nG nI 4 a && (bOk 4 a b && tOk 4 text)) := by
    unfold insOk; rw [hl1]; rfl
  rw [show aOk nR nC nG nI 4 a = (a == 0) from rfl, show bOk 4 a b = (b == 0) from rfl, show tOk 4 text = (text.toList == []) from rfl] at hR2
  obtain ⟨p, hp⟩ : ∃ x : Bool, (a == 0) = x := ⟨_, rfl⟩
  obtain ⟨q, hq⟩ : ∃ x : Bool, (b == 0) = x := ⟨_, rfl⟩
  obtain ⟨t, ht⟩ : ∃ x : Bool, (text.toList == []) = x := ⟨_, rfl⟩
  rw [hp, hq, ht] at hR2
  obtain ⟨R, hR0⟩ : ∃ R, insOk nR nC nG nI 4 a b line text = R := ⟨_, rfl⟩
  rw [hR0]
  rw [hR0] at hR2
  have HR := Lib.hid hR2
  clear hR0 hR2 hl1
  have HB0 := Lib.hid (((Below.refl w.heap.size w).alloc (Nat.le_refl _) (.cells #[.slice A1 nR c1, .slice A2 nC c2, .slice A3 nG c3, .int .i64 m, .slice A4 nI c4] 40)).alloc (by simp) (.cells #[.int .i64 4, .int .i64 a, .int .i64 b, .int .i64 line, .string text] 23))
  have HB := Lib.hid (HB0.out.alloc (by simp; omega) (.cells #[.int .i64 4, .int .i64 0, .int .i64 a, .int .i64 0, .string ⟨#[]⟩, .slice none 0 0] 91))
  cases t
  · skip
    go_enter Tryd.func33, Tryd.ntmps33
    go_wp2_with fail
    go_ret
    exact ⟨by rw [HR.out]; simp, HB0.out⟩
  cases q
  · skip
    go_enter Tryd.func33, Tryd.ntmps33
    go_wp2_with fail
    go_ret
    exact ⟨by rw [HR.out]; simp, HB0.out⟩
  all_goals
    (go_enter Tryd.func33, Tryd.ntmps33
     go_wp2_with fail
     refine (l28Jumps_any 4 _).mono ?_
     rintro e w' ⟨rfl, hw⟩
     obtain rfl := hw.symm
     rw [show isLab 4 = false from rfl]
     go_wp2_with fail
     go_ret
     exact ⟨by rw [HR.out]; simp, HB.out⟩)
set_option maxRecDepth 100000 in
set_option maxHeartbeats 8000000 in
theorem specIn_5 (nR nC nG nI : Nat) (A1 A2 A3 A4 : Option Addr) (c1 c2 c3 c4 : Nat) (m a b line : Int) (text : ByteArray) (w : World) (hR : nR ≤ 1048576) (hC : nC ≤ 1048576) (hG : nG ≤ 1048576) (hI : nI ≤ 1048576) (hts : text.size ≤ 1048576) (hl : 0 ≤ line) : Calls Tryd.prog 33 #[.agg #[.slice A1 nR c1, .slice A2 nC c2, .slice A3 nG c3, .int .i64 m, .slice A4 nI c4], .agg #[.int .i64 5, .int .i64 a, .int .i64 b, .int .i64 line, .string text]] w fun e w' => e = .returned (.bool (insOk nR nC nG nI 5 a b line text)) ∧ Below w.heap.size w w' := by
  have hl0 : decide (line < 0) = false := decide_eq_false (by omega)
  have hl1 : decide (0 ≤ line) = true := decide_eq_true hl
  have hR2 : insOk nR nC nG nI 5 a b line text = (aOk nR nC nG nI 5 a && (bOk 5 a b && tOk 5 text)) := by
    unfold insOk; rw [hl1]; rfl
  rw [show aOk nR nC nG nI 5 a = inB a (24 : Int) from rfl, show bOk 5 a b = (b == 0) from rfl, show tOk 5 text = (text.toList == []) from rfl] at hR2
  obtain ⟨p, hp⟩ : ∃ x : Bool, (inB a 24) = x := ⟨_, rfl⟩
  obtain ⟨q, hq⟩ : ∃ x : Bool, (b == 0) = x := ⟨_, rfl⟩
  obtain ⟨t, ht⟩ : ∃ x : Bool, (text.toList == []) = x := ⟨_, rfl⟩
  rw [hp, hq, ht] at hR2
  obtain ⟨R, hR0⟩ : ∃ R, insOk nR nC nG nI 5 a b line text = R := ⟨_, rfl⟩
  rw [hR0]
  rw [hR0] at hR2
  have HR := Lib.hid hR2
  clear hR0 hR2 hl1
  have HB0 := Lib.hid (((Below.refl w.heap.size w).alloc (Nat.le_refl _) (.cells #[.slice A1 nR c1, .slice A2 nC c2, .slice A3 nG c3, .int .i64 m, .slice A4 nI c4] 40)).alloc (by simp) (.cells #[.int .i64 5, .int .i64 a, .int .i64 b, .int .i64 line, .string text] 23))
  have HB := Lib.hid (HB0.out.alloc (by simp; omega) (.cells #[.int .i64 5, .int .i64 0, .int .i64 a, .int .i64 0, .string ⟨#[]⟩, .slice none 0 0] 91))
  cases t
  · skip
    go_enter Tryd.func33, Tryd.ntmps33
    go_wp2_with fail
    go_ret
    exact ⟨by rw [HR.out]; simp, HB0.out⟩
  cases q
  · skip
    go_enter Tryd.func33, Tryd.ntmps33
    go_wp2_with fail
    go_ret
    exact ⟨by rw [HR.out]; simp, HB0.out⟩
  all_goals
    (go_enter Tryd.func33, Tryd.ntmps33
     go_wp2_with fail
     refine (l28Jumps_any 5 _).mono ?_
     rintro e w' ⟨rfl, hw⟩
     obtain rfl := hw.symm
     rw [show isLab 5 = false from rfl]
     go_wp2_with fail
     refine (l1In_any _ _ _ _).mono ?_
     rintro e w' ⟨rfl, hw⟩
     obtain rfl := hw.symm
     rw [in_23, hp]
     go_wp2_with fail
     go_ret
     exact ⟨by rw [HR.out]; simp, HB.out⟩)
set_option maxRecDepth 100000 in
set_option maxHeartbeats 8000000 in
theorem specIn_6 (nR nC nG nI : Nat) (A1 A2 A3 A4 : Option Addr) (c1 c2 c3 c4 : Nat) (m a b line : Int) (text : ByteArray) (w : World) (hR : nR ≤ 1048576) (hC : nC ≤ 1048576) (hG : nG ≤ 1048576) (hI : nI ≤ 1048576) (hts : text.size ≤ 1048576) (hl : 0 ≤ line) : Calls Tryd.prog 33 #[.agg #[.slice A1 nR c1, .slice A2 nC c2, .slice A3 nG c3, .int .i64 m, .slice A4 nI c4], .agg #[.int .i64 6, .int .i64 a, .int .i64 b, .int .i64 line, .string text]] w fun e w' => e = .returned (.bool (insOk nR nC nG nI 6 a b line text)) ∧ Below w.heap.size w w' := by
  have hl0 : decide (line < 0) = false := decide_eq_false (by omega)
  have hl1 : decide (0 ≤ line) = true := decide_eq_true hl
  have hR2 : insOk nR nC nG nI 6 a b line text = (aOk nR nC nG nI 6 a && (bOk 6 a b && tOk 6 text)) := by
    unfold insOk; rw [hl1]; rfl
  rw [show aOk nR nC nG nI 6 a = inB a (nG : Int) from rfl, show bOk 6 a b = (b == 0) from rfl, show tOk 6 text = (text.toList == []) from rfl] at hR2
  obtain ⟨p, hp⟩ : ∃ x : Bool, (inB a (nG : Int)) = x := ⟨_, rfl⟩
  obtain ⟨q, hq⟩ : ∃ x : Bool, (b == 0) = x := ⟨_, rfl⟩
  obtain ⟨t, ht⟩ : ∃ x : Bool, (text.toList == []) = x := ⟨_, rfl⟩
  rw [hp, hq, ht] at hR2
  obtain ⟨R, hR0⟩ : ∃ R, insOk nR nC nG nI 6 a b line text = R := ⟨_, rfl⟩
  rw [hR0]
  rw [hR0] at hR2
  have HR := Lib.hid hR2
  clear hR0 hR2 hl1
  have HB0 := Lib.hid (((Below.refl w.heap.size w).alloc (Nat.le_refl _) (.cells #[.slice A1 nR c1, .slice A2 nC c2, .slice A3 nG c3, .int .i64 m, .slice A4 nI c4] 40)).alloc (by simp) (.cells #[.int .i64 6, .int .i64 a, .int .i64 b, .int .i64 line, .string text] 23))
  have HB := Lib.hid (HB0.out.alloc (by simp; omega) (.cells #[.int .i64 6, .int .i64 0, .int .i64 a, .int .i64 0, .string ⟨#[]⟩, .slice none 0 0] 91))
  cases t
  · skip
    go_enter Tryd.func33, Tryd.ntmps33
    go_wp2_with fail
    go_ret
    exact ⟨by rw [HR.out]; simp, HB0.out⟩
  cases q
  · skip
    go_enter Tryd.func33, Tryd.ntmps33
    go_wp2_with fail
    go_ret
    exact ⟨by rw [HR.out]; simp, HB0.out⟩
  all_goals
    (go_enter Tryd.func33, Tryd.ntmps33
     go_wp2_with fail
     refine (l28Jumps_any 6 _).mono ?_
     rintro e w' ⟨rfl, hw⟩
     obtain rfl := hw.symm
     rw [show isLab 6 = false from rfl]
     go_wp2_with fail
     refine (l1In_any _ _ _ _).mono ?_
     rintro e w' ⟨rfl, hw⟩
     obtain rfl := hw.symm
     rw [in_inB, hp]
     go_wp2_with fail
     go_ret
     exact ⟨by rw [HR.out]; simp, HB.out⟩)
set_option maxRecDepth 100000 in
set_option maxHeartbeats 8000000 in
theorem specIn_7 (nR nC nG nI : Nat) (A1 A2 A3 A4 : Option Addr) (c1 c2 c3 c4 : Nat) (m a b line : Int) (text : ByteArray) (w : World) (hR : nR ≤ 1048576) (hC : nC ≤ 1048576) (hG : nG ≤ 1048576) (hI : nI ≤ 1048576) (hts : text.size ≤ 1048576) (hl : 0 ≤ line) : Calls Tryd.prog 33 #[.agg #[.slice A1 nR c1, .slice A2 nC c2, .slice A3 nG c3, .int .i64 m, .slice A4 nI c4], .agg #[.int .i64 7, .int .i64 a, .int .i64 b, .int .i64 line, .string text]] w fun e w' => e = .returned (.bool (insOk nR nC nG nI 7 a b line text)) ∧ Below w.heap.size w w' := by
  have hl0 : decide (line < 0) = false := decide_eq_false (by omega)
  have hl1 : decide (0 ≤ line) = true := decide_eq_true hl
  have hR2 : insOk nR nC nG nI 7 a b line text = (aOk nR nC nG nI 7 a && (bOk 7 a b && tOk 7 text)) := by
    unfold insOk; rw [hl1]; rfl
  rw [show aOk nR nC nG nI 7 a = inB a (nR : Int) from rfl, show bOk 7 a b = (b == 0) from rfl, show tOk 7 text = (text.toList == []) from rfl] at hR2
  obtain ⟨p, hp⟩ : ∃ x : Bool, (inB a (nR : Int)) = x := ⟨_, rfl⟩
  obtain ⟨q, hq⟩ : ∃ x : Bool, (b == 0) = x := ⟨_, rfl⟩
  obtain ⟨t, ht⟩ : ∃ x : Bool, (text.toList == []) = x := ⟨_, rfl⟩
  rw [hp, hq, ht] at hR2
  obtain ⟨R, hR0⟩ : ∃ R, insOk nR nC nG nI 7 a b line text = R := ⟨_, rfl⟩
  rw [hR0]
  rw [hR0] at hR2
  have HR := Lib.hid hR2
  clear hR0 hR2 hl1
  have HB0 := Lib.hid (((Below.refl w.heap.size w).alloc (Nat.le_refl _) (.cells #[.slice A1 nR c1, .slice A2 nC c2, .slice A3 nG c3, .int .i64 m, .slice A4 nI c4] 40)).alloc (by simp) (.cells #[.int .i64 7, .int .i64 a, .int .i64 b, .int .i64 line, .string text] 23))
  have HB := Lib.hid (HB0.out.alloc (by simp; omega) (.cells #[.int .i64 7, .int .i64 0, .int .i64 a, .int .i64 0, .string ⟨#[]⟩, .slice none 0 0] 91))
  cases t
  · skip
    go_enter Tryd.func33, Tryd.ntmps33
    go_wp2_with fail
    go_ret
    exact ⟨by rw [HR.out]; simp, HB0.out⟩
  cases q
  · skip
    go_enter Tryd.func33, Tryd.ntmps33
    go_wp2_with fail
    go_ret
    exact ⟨by rw [HR.out]; simp, HB0.out⟩
  all_goals
    (go_enter Tryd.func33, Tryd.ntmps33
     go_wp2_with fail
     refine (l28Jumps_any 7 _).mono ?_
     rintro e w' ⟨rfl, hw⟩
     obtain rfl := hw.symm
     rw [show isLab 7 = false from rfl]
     go_wp2_with fail
     refine (l1In_any _ _ _ _).mono ?_
     rintro e w' ⟨rfl, hw⟩
     obtain rfl := hw.symm
     rw [in_inB, hp]
     go_wp2_with fail
     go_ret
     exact ⟨by rw [HR.out]; simp, HB.out⟩)
set_option maxRecDepth 100000 in
set_option maxHeartbeats 8000000 in
theorem specIn_8 (nR nC nG nI : Nat) (A1 A2 A3 A4 : Option Addr) (c1 c2 c3 c4 : Nat) (m a b line : Int) (text : ByteArray) (w : World) (hR : nR ≤ 1048576) (hC : nC ≤ 1048576) (hG : nG ≤ 1048576) (hI : nI ≤ 1048576) (hts : text.size ≤ 1048576) (hl : 0 ≤ line) : Calls Tryd.prog 33 #[.agg #[.slice A1 nR c1, .slice A2 nC c2, .slice A3 nG c3, .int .i64 m, .slice A4 nI c4], .agg #[.int .i64 8, .int .i64 a, .int .i64 b, .int .i64 line, .string text]] w fun e w' => e = .returned (.bool (insOk nR nC nG nI 8 a b line text)) ∧ Below w.heap.size w w' := by
  have hl0 : decide (line < 0) = false := decide_eq_false (by omega)
  have hl1 : decide (0 ≤ line) = true := decide_eq_true hl
  have hR2 : insOk nR nC nG nI 8 a b line text = (aOk nR nC nG nI 8 a && (bOk 8 a b && tOk 8 text)) := by
    unfold insOk; rw [hl1]; rfl
  rw [show aOk nR nC nG nI 8 a = inB a (55 : Int) from rfl, show bOk 8 a b = (b == 0) from rfl, show tOk 8 text = (text.toList == []) from rfl] at hR2
  obtain ⟨p, hp⟩ : ∃ x : Bool, (inB a 55) = x := ⟨_, rfl⟩
  obtain ⟨q, hq⟩ : ∃ x : Bool, (b == 0) = x := ⟨_, rfl⟩
  obtain ⟨t, ht⟩ : ∃ x : Bool, (text.toList == []) = x := ⟨_, rfl⟩
  rw [hp, hq, ht] at hR2
  obtain ⟨R, hR0⟩ : ∃ R, insOk nR nC nG nI 8 a b line text = R := ⟨_, rfl⟩
  rw [hR0]
  rw [hR0] at hR2
  have HR := Lib.hid hR2
  clear hR0 hR2 hl1
  have HB0 := Lib.hid (((Below.refl w.heap.size w).alloc (Nat.le_refl _) (.cells #[.slice A1 nR c1, .slice A2 nC c2, .slice A3 nG c3, .int .i64 m, .slice A4 nI c4] 40)).alloc (by simp) (.cells #[.int .i64 8, .int .i64 a, .int .i64 b, .int .i64 line, .string text] 23))
  have HB := Lib.hid (HB0.out.alloc (by simp; omega) (.cells #[.int .i64 8, .int .i64 0, .int .i64 a, .int .i64 0, .string ⟨#[]⟩, .slice none 0 0] 91))
  cases t
  · skip
    go_enter Tryd.func33, Tryd.ntmps33
    go_wp2_with fail
    go_ret
    exact ⟨by rw [HR.out]; simp, HB0.out⟩
  cases q
  · skip
    go_enter Tryd.func33, Tryd.ntmps33
    go_wp2_with fail
    go_ret
    exact ⟨by rw [HR.out]; simp, HB0.out⟩
  all_goals
    (go_enter Tryd.func33, Tryd.ntmps33
     go_wp2_with fail
     refine (l28Jumps_any 8 _).mono ?_
     rintro e w' ⟨rfl, hw⟩
     obtain rfl := hw.symm
     rw [show isLab 8 = false from rfl]
     go_wp2_with fail
     refine (l1In_any _ _ _ _).mono ?_
     rintro e w' ⟨rfl, hw⟩
     obtain rfl := hw.symm
     rw [in_54, hp]
     go_wp2_with fail
     go_ret
     exact ⟨by rw [HR.out]; simp, HB.out⟩)
set_option maxRecDepth 100000 in
set_option maxHeartbeats 8000000 in
theorem specIn_9 (nR nC nG nI : Nat) (A1 A2 A3 A4 : Option Addr) (c1 c2 c3 c4 : Nat) (m a b line : Int) (text : ByteArray) (w : World) (hR : nR ≤ 1048576) (hC : nC ≤ 1048576) (hG : nG ≤ 1048576) (hI : nI ≤ 1048576) (hts : text.size ≤ 1048576) (hl : 0 ≤ line) : Calls Tryd.prog 33 #[.agg #[.slice A1 nR c1, .slice A2 nC c2, .slice A3 nG c3, .int .i64 m, .slice A4 nI c4], .agg #[.int .i64 9, .int .i64 a, .int .i64 b, .int .i64 line, .string text]] w fun e w' => e = .returned (.bool (insOk nR nC nG nI 9 a b line text)) ∧ Below w.heap.size w w' := by
  have hl0 : decide (line < 0) = false := decide_eq_false (by omega)
  have hl1 : decide (0 ≤ line) = true := decide_eq_true hl
  have hR2 : insOk nR nC nG nI 9 a b line text = (aOk nR nC nG nI 9 a && (bOk 9 a b && tOk 9 text)) := by
    unfold insOk; rw [hl1]; rfl
  rw [show aOk nR nC nG nI 9 a = inB a (nC : Int) from rfl, show bOk 9 a b = (b == 0) from rfl, show tOk 9 text = (text.toList == []) from rfl] at hR2
  obtain ⟨p, hp⟩ : ∃ x : Bool, (inB a (nC : Int)) = x := ⟨_, rfl⟩
  obtain ⟨q, hq⟩ : ∃ x : Bool, (b == 0) = x := ⟨_, rfl⟩
  obtain ⟨t, ht⟩ : ∃ x : Bool, (text.toList == []) = x := ⟨_, rfl⟩
  rw [hp, hq, ht] at hR2
  obtain ⟨R, hR0⟩ : ∃ R, insOk nR nC nG nI 9 a b line text = R := ⟨_, rfl⟩
  rw [hR0]
  rw [hR0] at hR2
  have HR := Lib.hid hR2
  clear hR0 hR2 hl1
  have HB0 := Lib.hid (((Below.refl w.heap.size w).alloc (Nat.le_refl _) (.cells #[.slice A1 nR c1, .slice A2 nC c2, .slice A3 nG c3, .int .i64 m, .slice A4 nI c4] 40)).alloc (by simp) (.cells #[.int .i64 9, .int .i64 a, .int .i64 b, .int .i64 line, .string text] 23))
  have HB := Lib.hid (HB0.out.alloc (by simp; omega) (.cells #[.int .i64 9, .int .i64 0, .int .i64 a, .int .i64 0, .string ⟨#[]⟩, .slice none 0 0] 91))
  cases t
  · skip
    go_enter Tryd.func33, Tryd.ntmps33
    go_wp2_with fail
    go_ret
    exact ⟨by rw [HR.out]; simp, HB0.out⟩
  cases q
  · skip
    go_enter Tryd.func33, Tryd.ntmps33
    go_wp2_with fail
    go_ret
    exact ⟨by rw [HR.out]; simp, HB0.out⟩
  all_goals
    (go_enter Tryd.func33, Tryd.ntmps33
     go_wp2_with fail
     refine (l28Jumps_any 9 _).mono ?_
     rintro e w' ⟨rfl, hw⟩
     obtain rfl := hw.symm
     rw [show isLab 9 = false from rfl]
     go_wp2_with fail
     refine (l1In_any _ _ _ _).mono ?_
     rintro e w' ⟨rfl, hw⟩
     obtain rfl := hw.symm
     rw [in_inB, hp]
     go_wp2_with fail
     go_ret
     exact ⟨by rw [HR.out]; simp, HB.out⟩)
set_option maxRecDepth 100000 in
set_option maxHeartbeats 8000000 in
theorem specIn_10 (nR nC nG nI : Nat) (A1 A2 A3 A4 : Option Addr) (c1 c2 c3 c4 : Nat) (m a b line : Int) (text : ByteArray) (w : World) (hR : nR ≤ 1048576) (hC : nC ≤ 1048576) (hG : nG ≤ 1048576) (hI : nI ≤ 1048576) (hts : text.size ≤ 1048576) (hl : 0 ≤ line) : Calls Tryd.prog 33 #[.agg #[.slice A1 nR c1, .slice A2 nC c2, .slice A3 nG c3, .int .i64 m, .slice A4 nI c4], .agg #[.int .i64 10, .int .i64 a, .int .i64 b, .int .i64 line, .string text]] w fun e w' => e = .returned (.bool (insOk nR nC nG nI 10 a b line text)) ∧ Below w.heap.size w w' := by
  have hl0 : decide (line < 0) = false := decide_eq_false (by omega)
  have hl1 : decide (0 ≤ line) = true := decide_eq_true hl
  have hR2 : insOk nR nC nG nI 10 a b line text = (aOk nR nC nG nI 10 a && (bOk 10 a b && tOk 10 text)) := by
    unfold insOk; rw [hl1]; rfl
  rw [show aOk nR nC nG nI 10 a = ((a == 1) || (a == 2)) from rfl, show bOk 10 a b = (b == 0) from rfl, show tOk 10 text = (text.toList == []) from rfl] at hR2
  obtain ⟨p, hp⟩ : ∃ x : Bool, (a == 1) = x := ⟨_, rfl⟩
  obtain ⟨p2, hp2⟩ : ∃ x : Bool, (a == 2) = x := ⟨_, rfl⟩
  obtain ⟨q, hq⟩ : ∃ x : Bool, (b == 0) = x := ⟨_, rfl⟩
  obtain ⟨t, ht⟩ : ∃ x : Bool, (text.toList == []) = x := ⟨_, rfl⟩
  rw [hp, hp2, hq, ht] at hR2
  obtain ⟨R, hR0⟩ : ∃ R, insOk nR nC nG nI 10 a b line text = R := ⟨_, rfl⟩
  rw [hR0]
  rw [hR0] at hR2
  have HR := Lib.hid hR2
  clear hR0 hR2 hl1
  have HB0 := Lib.hid (((Below.refl w.heap.size w).alloc (Nat.le_refl _) (.cells #[.slice A1 nR c1, .slice A2 nC c2, .slice A3 nG c3, .int .i64 m, .slice A4 nI c4] 40)).alloc (by simp) (.cells #[.int .i64 10, .int .i64 a, .int .i64 b, .int .i64 line, .string text] 23))
  have HB := Lib.hid (HB0.out.alloc (by simp; omega) (.cells #[.int .i64 10, .int .i64 0, .int .i64 a, .int .i64 0, .string ⟨#[]⟩, .slice none 0 0] 91))
  cases t
  · skip
    go_enter Tryd.func33, Tryd.ntmps33
    go_wp2_with fail
    go_ret
    exact ⟨by rw [HR.out]; simp, HB0.out⟩
  cases q
  · skip
    go_enter Tryd.func33, Tryd.ntmps33
    go_wp2_with fail
    go_ret
    exact ⟨by rw [HR.out]; simp, HB0.out⟩
  all_goals
    (go_enter Tryd.func33, Tryd.ntmps33
     go_wp2_with fail
     refine (l28Jumps_any 10 _).mono ?_
     rintro e w' ⟨rfl, hw⟩
     obtain rfl := hw.symm
     rw [show isLab 10 = false from rfl]
     go_wp2_with fail
     refine (l10Leaf_10 a _).mono ?_
     rintro e w1 ⟨rfl, hb1⟩
     have HB1 := Lib.hid (HB.out.trans (Below.mono hb1 HB.out.size))
     clear hb1
     rw [hp, hp2]
     go_wp2_with fail
     go_ret
     exact ⟨by rw [HR.out]; simp, HB1.out⟩)
end Go.Proofs.YtopaeiogbijppaaDoor
