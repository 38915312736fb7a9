/- The law FnExactIsValidCode walked: it returns true at every Code. Printed by gen_cdlaw.py. -/
import Derived.Test.YtopaeiogbijppaaDoorCdS
namespace Go.Proofs.YtopaeiogbijppaaDoor
open Go.RowKit

theorem El_later {α : Type} {El : Elem α} {size : Nat} {F : Nat → Prop} {w x : World} {a : α} {cs : List Value} (h : El F w a cs) (hE : IsEl El size) (hl : Later w x) : El F x a cs := hE.keep h (fun _ h => h) (Keeps.later hl)
set_option maxRecDepth 100000 in
set_option maxHeartbeats 4000000 in
theorem cdLaw_any (c : CodeD) (cs : List Value) (w : World) (h : codeEl (fun _ => True) w c cs) (ht : Spc w) :
    Calls Tryd.prog 4 #[.agg cs.toArray] w fun e w' => e = .returned (.bool true) ∧ Below w.heap.size w w' := by
  obtain ⟨vR, vC, vG, vI, rfl, hfacts⟩ := id h
  have HE := Lib.hid h
  have HT := Lib.hid ht
  clear h ht hfacts
  obtain ⟨N, hN⟩ : ∃ N, w.heap.size = N := ⟨_, rfl⟩
  have HA := Lib.hid (show (w.alloc (.cells #[vR, vC, vG, .int .i64 c.main, vI] 33)).heap[N]? = some (.cells #[vR, vC, vG, .int .i64 c.main, vI] 33) by rw [← hN]; exact heap_alloc_new w (.cells #[vR, vC, vG, .int .i64 c.main, vI] 33))
  have HB0 := Lib.hid ((Below.refl w.heap.size w).alloc (Nat.le_refl _) (.cells #[vR, vC, vG, .int .i64 c.main, vI] 33))
  have HSZ := Lib.hid (fun x (hl : Later w x) => szCode_any c _ (fun _ => True) x 1048576 (by decide) (by decide) (El_later HE.out codeEl_is hl))
  by_cases hbig : 1048576 < szCodeD c
  · have HL := Lib.hid (leftOf_no (n := szCodeD c) (l := 1048576) (by omega))
    go_enter Tryd.func4, Tryd.ntmps4
    go_wp2_with fail
    refine (HSZ.out _ ((Later.refl w).alloc _)).mono ?_
    rintro e w2 ⟨rfl, hb2⟩
    rw [HL.out]
    go_wp2_with fail
    go_ret
    exact ⟨rfl, HB0.out.trans (Below.mono hb2 HB0.out.size)⟩
  · have hsz : szCodeD c ≤ 1048576 := by omega
    have HL := Lib.hid (leftOf_yes (n := szCodeD c) (l := 1048576) (by omega))
    obtain ⟨d, hd⟩ : ∃ d : Int, (1048576 : Int) - (szCodeD c : Int) = d := ⟨_, rfl⟩
    have hd0 : decide (d < 0) = false := decide_eq_false (by omega)
    have HLD := Lib.hid (show leftOf (szCodeD c) 1048576 = d from HL.out.trans hd)
    have HTO := Lib.hid (fun x (hl : Later w x) => toCode_any c _ (fun _ => True) x hsz (El_later HE.out codeEl_is hl))
    have HSP := Lib.hid (fun (cs : List Value) (F : Nat → Prop) (x : World) (h : codeEl F x c cs) => specIsValidCode_any c cs F x hsz h)
    have HIM := Lib.hid (fun (cs : List Value) (F : Nat → Prop) (x : World) (h : codeEl F x c cs) (hl : Later w x) => implIsValidCode_any c cs F x hsz h (HT.out.below hl))
    obtain ⟨q, hq⟩ : ∃ q : Bool, cdOk c = q := ⟨_, rfl⟩
    rw [hq] at HSP HIM
    clear hbig hd hq HL
    go_enter Tryd.func4, Tryd.ntmps4
    go_wp2_with fail
    refine (HSZ.out _ ((Later.refl w).alloc _)).mono ?_
    rintro e w2 ⟨rfl, hb2⟩
    rw [HLD.out]
    have HL2 := Lib.hid (show Later w w2 from ((Later.refl w).alloc _).trans hb2)
    have HB2 := Lib.hid (HB0.out.trans (Below.mono hb2 HB0.out.size))
    have HA2 := Lib.hid ((Below.block hb2 _ (Array.getElem?_eq_some_iff.1 HA.out).1).trans HA.out)
    clear hb2
    obtain ⟨a0, a1, a2, a3, a4⟩ := five_cells HA2.out
    go_wp2_with fail
    refine (HTO.out w2 HL2.out).mono ?_
    rintro e w3 ⟨cs3, rfl, hE3, hb3⟩
    have HSP3 := Lib.hid (HSP.out cs3 _ w3 hE3)
    have HL3 := Lib.hid (show Later w w3 from HL2.out.trans hb3)
    have HB3 := Lib.hid (HB2.out.trans (Below.mono hb3 HB2.out.size))
    have HA3 := Lib.hid ((Below.block hb3 _ (Array.getElem?_eq_some_iff.1 HA2.out).1).trans HA2.out)
    obtain ⟨zR, zC, zG, zI, rfl, hz⟩ := hE3
    clear hz hb3 a0 a1 a2 a3 a4
    go_wp2_with fail
    refine HSP3.out.mono ?_
    rintro e w3 ⟨rfl, hb3⟩
    have HL3 := Lib.hid (show Later w w3 from HL3.out.trans hb3)
    have HB3 := Lib.hid (HB3.out.trans (Below.mono hb3 HB3.out.size))
    have HA3 := Lib.hid ((Below.block hb3 _ (Array.getElem?_eq_some_iff.1 HA3.out).1).trans HA3.out)
    obtain ⟨a0, a1, a2, a3, a4⟩ := five_cells HA3.out
    clear hb3 HSP3
    go_wp2_with fail
    refine (HTO.out w3 HL3.out).mono ?_
    rintro e w4 ⟨cs4, rfl, hE4, hb4⟩
    have HL4 := Lib.hid (show Later w w4 from HL3.out.trans hb4)
    have HB4 := Lib.hid (HB3.out.trans (Below.mono hb4 HB3.out.size))
    have HA4 := Lib.hid ((Below.block hb4 _ (Array.getElem?_eq_some_iff.1 HA3.out).1).trans HA3.out)
    have HE4 := Lib.hid hE4
    obtain ⟨xR, xC, xG, xI, rfl, hzR, hzC, hzG, _, hzI⟩ := hE4
    obtain ⟨XR, cR, rfl, _⟩ := hzR
    obtain ⟨XC, cC, rfl, _⟩ := hzC
    obtain ⟨XG, cG, rfl, _⟩ := hzG
    obtain ⟨XI, cI, rfl, _⟩ := hzI
    clear hb4 a0 a1 a2 a3 a4
    go_upto_region 7 with (fail)
    obtain ⟨wx, hwx⟩ : ∃ wx, wx = w4.alloc (.cells #[.slice XR c.routines.length cR, .slice XC c.records.length cC, .slice XG c.globals.length cG, .int .i64 c.main, .slice XI c.instrs.length cI] 40) := ⟨_, rfl⟩
    rw [show w4.alloc (.cells #[.slice XR c.routines.length cR, .slice XC c.records.length cC, .slice XG c.globals.length cG, .int .i64 c.main, .slice XI c.instrs.length cI] 40) = wx from hwx.symm]
    have hl4x : Later w4 wx := by rw [hwx]; exact (Later.refl _).alloc _
    have hxb := heap_alloc_new w4 (.cells #[.slice XR c.routines.length cR, .slice XC c.records.length cC, .slice XG c.globals.length cG, .int .i64 c.main, .slice XI c.instrs.length cI] 40)
    rw [← hwx] at hxb
    obtain ⟨X, hX⟩ : ∃ X, w4.heap.size = X := ⟨_, rfl⟩
    rw [hX] at hxb
    try rw [hX]
    have HXB := Lib.hid hxb
    have HLX := Lib.hid (HL4.out.trans hl4x)
    have HBX := Lib.hid (HB4.out.trans (Below.mono hl4x HB4.out.size))
    have HAX := Lib.hid ((hl4x.block _ (Array.getElem?_eq_some_iff.1 HA4.out).1).trans HA4.out)
    have HEX := Lib.hid (El_later HE4.out codeEl_is hl4x)
    have HIX := Lib.hid (HIM.out _ _ wx HEX.out HLX.out)
    obtain ⟨x0, x1, x2, x3, x4⟩ := five_cells HXB.out
    clear hl4x hxb hwx hX
    go_wp2_with fail
    refine HIX.out.mono ?_
    rintro e w5 ⟨rfl, hb5⟩
    have HL5 := Lib.hid (show Later w w5 from HLX.out.trans hb5)
    have HB5 := Lib.hid (HBX.out.trans (Below.mono hb5 HBX.out.size))
    have HA5 := Lib.hid ((Below.block hb5 _ (Array.getElem?_eq_some_iff.1 HAX.out).1).trans HAX.out)
    have HXB5 := Lib.hid ((Below.block hb5 _ (Array.getElem?_eq_some_iff.1 HXB.out).1).trans HXB.out)
    have HE5 := Lib.hid (El_later HEX.out codeEl_is hb5)
    have hN5 : N < w5.heap.size := (Array.getElem?_eq_some_iff.1 HA5.out).1
    have hX5 : X < w5.heap.size := (Array.getElem?_eq_some_iff.1 HXB5.out).1
    replace HXB := HXB5
    clear hb5 x0 x1 x2 x3 x4 HIX HXB5
    have hqq : (q != q) = false := by simp
    go_upto_region 10 with (fail)
    try rw [hN]
    -- region 10: 5 operations, the last []
    refine wpU_begin [] [] (by kernel_rfl) (fun W hW => ?_)
    have hWL : Later w5 W := by rw [hW]; exact (Later.refl _).drew
    have HLW := Lib.hid (HL5.out.trans hWL)
    have HEW := Lib.hid (El_later HE5.out codeEl_is hWL)
    have HBW := Lib.hid (HB5.out.trans (Below.mono hWL HB5.out.size))
    have HAW := Lib.hid ((hWL.block _ hN5).trans HA5.out)
    have HXW := Lib.hid ((hWL.block _ hX5).trans HXB.out)
    have hNW : N < W.heap.size := Nat.lt_of_lt_of_le hN5 hWL.size
    have hXW : X < W.heap.size := Nat.lt_of_lt_of_le hX5 hWL.size
    clear hW
    refine wpU_take 0 (some 22) (v := ?_) rfl rfl (by kernel_rfl) (fun _ _ _ h => h) rfl (fun x hx => ?_) ?_
    rotate_left 1
    · obtain ⟨a0, a1, a2, a3, a4⟩ := five_cells ((hx.block _ hNW).trans HAW.out); obtain ⟨x0, x1, x2, x3, x4⟩ := five_cells ((hx.block _ hXW).trans HXW.out); go_simp; first | done | with_reducible rfl | rw [if_neg (by omega)] | rw [if_pos (by omega)]
    simp only [Act.put, List.setIfInBounds_toArray, List.set_cons_zero, List.set_cons_succ]
    refine wpU_take 1 (some 23) (v := ?_) rfl rfl (by kernel_rfl) (fun _ _ _ h => h) rfl (fun x hx => ?_) ?_
    rotate_left 1
    · obtain ⟨a0, a1, a2, a3, a4⟩ := five_cells ((hx.block _ hNW).trans HAW.out); obtain ⟨x0, x1, x2, x3, x4⟩ := five_cells ((hx.block _ hXW).trans HXW.out); go_simp; first | done | with_reducible rfl | rw [if_neg (by omega)] | rw [if_pos (by omega)]
    simp only [Act.put, List.setIfInBounds_toArray, List.set_cons_zero, List.set_cons_succ]
    refine wpU_step 2 (by kernel_rfl) rfl rfl ?_  -- call value (Go.Operand.func 10)
    go_wp2_with fail
    refine (HTO.out W HLW.out).mono ?_
    rintro e x6 ⟨cs6, rfl, hE6, hb6⟩
    obtain ⟨yR, yC, yG, yI, rfl, hy⟩ := id hE6
    have HE6 := Lib.hid hE6
    have HX6 := Lib.hid (El_later HEW.out codeEl_is hb6)
    have HB6 := Lib.hid (HBW.out.trans (Below.mono hb6 HBW.out.size))
    clear hE6 hy
    go_wp2_with fail
    refine ⟨hb6, ?_⟩
    refine wpU_step 3 (by kernel_rfl) rfl rfl ?_  -- call value (Go.Operand.func 12)
    go_wp2_with fail
    refine (eqCode_same c _ _ _ _ x6 HX6.out HE6.out).mono ?_
    rintro e x7 ⟨rfl, hb7⟩
    have HB7 := Lib.hid (HB6.out.trans (Below.mono hb7 HB6.out.size))
    go_wp2_with fail
    refine ⟨hb7, ?_⟩
    refine wpU_take 4 (some 26) (v := ?_) rfl rfl (by kernel_rfl) (fun _ _ _ h => h) rfl (fun x hx => ?_) ?_
    rotate_left 1
    · go_simp; first | done | with_reducible rfl | rw [if_neg (by omega)] | rw [if_pos (by omega)]
    simp only [Act.put, List.setIfInBounds_toArray, List.set_cons_zero, List.set_cons_succ]
    refine wpU_last [] (by kernel_rfl) rfl rfl ?_
    go_wp2_with fail
    go_ret
    exact ⟨rfl, HB7.out⟩
end Go.Proofs.YtopaeiogbijppaaDoor
