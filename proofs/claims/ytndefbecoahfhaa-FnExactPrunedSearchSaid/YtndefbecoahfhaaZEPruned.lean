/- FnExactPrunedSearch returns true for every definitions, pattern, subject and fuel, and leaves its arguments as they were. No condition. -/
import Derived.Test.YtndefbecoahfhaaZF4
import Derived.Deep.CutRange
import Derived.Test.YtndefbecoahfhaaZC9
import Derived.Test.YtndefbecoahfhaaRows
import Derived.WalkKit
import Derived.ProofKit
import Derived.OpenShut
import Derived.ChangeMaps5

/- The walk of FnExactPrunedSearch. Printed by gen_law.py. -/
namespace Go.Proofs.Ytndefbecoahfhaa
open Go.RowKit

set_option maxRecDepth 100000 in
set_option maxHeartbeats 8000000 in
theorem prunedLaw_any (defs : List Pat) (A : Option Addr) (c : Nat) (p : Pat) (kv : Value) (s : ByteArray) (fuel : Int) (w : World) (hr : LRow w A 0 defs) (hk : LKids w p kv) (hc : defs.length ≤ c) (hcm : c ≤ maxLen) :
    Calls Try.prog 8 #[.slice A defs.length c, p.v kv, .string s, .int .i64 fuel] w fun e w' => e = .returned (.bool true) ∧ Below w.heap.size w w' := by
  obtain ⟨_, kA, kc, rfl, _, _, _⟩ := hk.form
  have HR := Lib.hid hr
  have HK := Lib.hid hk
  clear hr hk
  by_cases hs : s.size ≤ 1048576
  rotate_left 1
  · have t1 : decide ((1048576 : Int) < s.size) = true := by simp; omega
    go_enter Try.func8, Try.ntmps8
    go_wp2_with fail
    go_ret
    exact ⟨rfl, (Below.refl _ _).alloc (Nat.le_refl _) _⟩
  have t1 : decide ((1048576 : Int) < s.size) = false := by simp; omega
  go_enter Try.func8, Try.ntmps8
  go_wp2_with fail
  have HL0 := Lib.hid ((Later.refl w).alloc (Obj.cells #[.int .i64 p.op, .string p.text, .int .i64 p.num, .int .i64 p.lo, .int .i64 p.hi, .slice kA p.kids.length kc] 39))
  have HB0 := Lib.hid (heap_alloc_new w (Obj.cells #[.int .i64 p.op, .string p.text, .int .i64 p.num, .int .i64 p.lo, .int .i64 p.hi, .slice kA p.kids.length kc] 39))
  refine (szS_any defs A c _ 1048576 (by omega) (by omega) hc hcm (LRow.later HL0.out _ _ _ HR.out)).mono ?_
  rintro e w1 ⟨rfl, hb1⟩
  have HL1 := Lib.hid (HL0.out.trans hb1)
  have HB1 := Lib.hid (Later.has hb1 HB0.out)
  clear hb1
  by_cases hd : defs.length + szAll defs ≤ 1048576
  rotate_left 1
  · rw [leftOf_no (by omega)]
    go_wp2_with fail
    go_ret
    exact ⟨rfl, HL1.out⟩
  rw [leftOf_yes (by omega)]
  obtain ⟨l1, hl1⟩ : ∃ l1 : Int, (1048576 : Int) - ((defs.length + szAll defs : Nat) : Int) = l1 := ⟨_, rfl⟩
  rw [hl1]
  have l10 : 0 ≤ l1 := by omega
  have l11 : l1 ≤ 1048576 := by omega
  have t2 : decide (l1 < 0) = false := by simp; omega
  clear hl1
  obtain ⟨p0, p1, p2, p3, p4, p5⟩ := cells_p HB1.out
  go_wp2_with fail
  clear p0 p1 p2 p3 p4 p5
  refine (sz_any (count p) p _ _ l1 (Nat.le_refl _) l10 l11 (LKids.later HL1.out _ _ HK.out)).mono ?_
  rintro e w2 ⟨rfl, hb2⟩
  have HL2 := Lib.hid (HL1.out.trans hb2)
  have HB2 := Lib.hid (Later.has hb2 HB1.out)
  clear hb2
  by_cases hp : (szP p : Int) ≤ l1
  rotate_left 1
  · rw [leftOf_no (by omega)]
    go_wp2_with fail
    go_ret
    exact ⟨rfl, HL2.out⟩
  rw [leftOf_yes (by omega)]
  obtain ⟨l2, hl2⟩ : ∃ l2 : Int, l1 - (szP p : Int) = l2 := ⟨_, rfl⟩
  rw [hl2]
  have t3 : decide (l2 < 0) = false := by simp; omega
  have hpz : szP p ≤ 1048576 := by omega
  clear hl2 t1 t2
  have HSM := Lib.hid (smalls_of defs hd)
  have HSP := Lib.hid (small_of p hpz)
  have hdl : defs.length ≤ 1099511627776 := by omega
  have hsl : s.size ≤ 1099511627776 := by omega
  obtain ⟨R, hR⟩ : ∃ R, (prunedRes defs p s fuel).1 = R := ⟨_, rfl⟩
  obtain ⟨FR, hFR⟩ : ∃ FR : Int, (prunedRes defs p s fuel).2 = FR := ⟨_, rfl⟩
  have hRl : R.caps.length ≤ 4000 ∧ R.events.length ≤ 4000 := by rw [← hR]; exact prunedRes_len HSM.out HSP.out
  have HRE := Lib.hid hR
  have HFR := Lib.hid hFR
  have hRc : R.caps.length ≤ 1000000 := by omega
  have hRe : R.events.length ≤ 1000000 := by omega
  clear hR hFR hRl
  go_upto_region 10 with (fail)
  go_cut [10] from 31 to 37 (fun sv wr => CutM w2 R FR sv wr)
  case first =>
    refine wpU_begin [8] [] (by kernel_rfl) (fun wq hwq => ?_)
    have HJq := Lib.hid (drew_later hwq)
    clear hwq
    refine wpU_take 0 (some 31) (v := ?_) rfl rfl (by kernel_rfl) (fun _ _ _ h => h) rfl (fun x hx => ?_) ?_
    rotate_left 1
    · go_simp; first | done | with_reducible rfl | rw [if_neg (by omega)] | rw [if_pos (by omega)]
    simp only [Act.put, List.setIfInBounds_toArray, List.set_cons_zero, List.set_cons_succ]
    refine wpU_take 2 (some 33) (v := ?_) rfl rfl (by kernel_rfl) (fun _ _ _ h => h) rfl (fun x hx => ?_) ?_
    rotate_left 1
    · obtain ⟨p0, p1, p2, p3, p4, p5⟩ := cells_p (hx.has (HJq.out.has HB2.out)); go_simp; first | done | with_reducible rfl | rw [if_neg (by omega)] | rw [if_pos (by omega)]
    simp only [Act.put, List.setIfInBounds_toArray, List.set_cons_zero, List.set_cons_succ]
    refine wpU_take 4 (some 35) (v := ?_) rfl rfl (by kernel_rfl) (fun _ _ _ h => h) rfl (fun x hx => ?_) ?_
    rotate_left 1
    · go_simp; first | done | with_reducible rfl | rw [if_neg (by omega)] | rw [if_pos (by omega)]
    simp only [Act.put, List.setIfInBounds_toArray, List.set_cons_zero, List.set_cons_succ]
    refine wpU_take 5 (some 36) (v := ?_) rfl rfl (by kernel_rfl) (fun _ _ _ h => h) rfl (fun x hx => ?_) ?_
    rotate_left 1
    · go_simp; first | done | with_reducible rfl | rw [if_neg (by omega)] | rw [if_pos (by omega)]
    simp only [Act.put, List.setIfInBounds_toArray, List.set_cons_zero, List.set_cons_succ]
    refine wpU_two 1 7 (by kernel_rfl) rfl rfl rfl rfl ?_ ?_
    · go_wp2_with fail
      refine (toS_any defs A c _ hd (LRow.later (HL2.out.trans HJq.out) _ _ _ HR.out)).mono ?_
      rintro e wqc0 ⟨dA, dc, rfl, hdc, hrow, hb⟩
      go_wp2_with fail
      refine ⟨hb, ?_⟩
      have HJqc0 := Lib.hid (HJq.out.trans hb)
      have HRW := Lib.hid (RowB.in_ _ _ _ hrow)
      clear hb hrow
      refine wpU_two 3 7 (by kernel_rfl) rfl rfl rfl rfl ?_ ?_
      · go_wp2_with fail
        refine (toP_any p _ _ hpz (LKids.later (HL2.out.trans HJqc0.out) _ _ HK.out)).mono ?_
        rintro e wqc1 ⟨kv', rfl, hkb, hb⟩
        obtain ⟨kA', kc', rfl, _, _⟩ := hkb.form
        go_wp2_with fail
        refine ⟨hb, ?_⟩
        have HJqc1 := Lib.hid (HJqc0.out.trans hb)
        replace HRW := Lib.hid (RowIn.later hb _ _ _ HRW.out)
        have HKW := Lib.hid (KidsB.in_ _ _ hkb)
        clear hb hkb
        refine wpU_two 6 7 (by kernel_rfl) rfl rfl rfl rfl ?_ ?_
        · go_wp2_with fail
          refine (specPruned_any defs dA dc p _ s fuel _ HSM.out HSP.out HRW.out HKW.out hdl hsl).mono ?_
          rw [HRE.out, HFR.out]
          rintro e wqc2 ⟨cv, ev, rfl, h1, h2, h3, hb⟩
          obtain ⟨cA, cc, rfl, _, _⟩ := h1.form
          obtain ⟨eA, ec, rfl, _, _⟩ := h2.form
          go_wp2_with fail
          refine ⟨hb, ?_⟩
          have HJqc2 := Lib.hid (HJqc1.out.trans hb)
          have H1 := Lib.hid h1
          have H2 := Lib.hid h2
          have H3 := Lib.hid h3
          have HLO := Lib.hid HJqc1.out.size
          clear hb h1 h2 h3
          refine wpU_step 7 (by kernel_rfl) rfl rfl ?_
          go_wp2_with fail
          refine ⟨(Later.refl _).alloc _, ?_⟩
          refine wpU_last [_] (by kernel_rfl) rfl rfl ?_
          simp only [List.getElem_toArray, List.getElem_cons_succ, List.getElem_cons_zero]
          go_wp2_with fail
          go_meet
          exact ⟨_, _, _, _, rfl, MAt.made (fr := FR) H1.out H2.out H3.out, HJqc2.out.alloc _, HLO.out⟩
        · go_wp2_with fail
          refine ⟨(Later.refl _).alloc _, ?_⟩
          obtain ⟨wqz2, hw⟩ : ∃ x, x = wqc1.alloc (Obj.cells zeroM TR) := ⟨_, rfl⟩
          rw [← hw]
          have hb : Later wqc1 wqz2 := by rw [hw]; exact (Later.refl _).alloc _
          have HZqz2 : Hid (wqz2.heap[wqc1.heap.size]? = some (.cells zeroM TR (0, 0))) := Lib.hid (by rw [hw]; exact heap_alloc_new _ _)
          have HJqz2 := Lib.hid (HJqc1.out.trans hb)
          have HRB := Lib.hid HJqc1.out.size
          replace HRW := Lib.hid (RowIn.later hb _ _ _ HRW.out)
          replace HKW := Lib.hid (KidsIn.later hb _ _ HKW.out)
          clear hb hw
          refine wpU_step 6 (by kernel_rfl) rfl rfl ?_
          go_wp2_with fail
          refine (specPruned_any defs dA dc p _ s fuel _ HSM.out HSP.out HRW.out HKW.out hdl hsl).mono ?_
          rw [HRE.out, HFR.out]
          rintro e wqz2c2 ⟨cv, ev, rfl, h1, h2, h3, hb⟩
          obtain ⟨cA, cc, rfl, _, _⟩ := h1.form
          obtain ⟨eA, ec, rfl, _, _⟩ := h2.form
          go_wp2_with fail
          refine ⟨hb, ?_⟩
          have HJqz2c2 := Lib.hid (HJqz2.out.trans hb)
          have HZqz2c2 := Lib.hid (Later.has hb HZqz2.out)
          have H1 := Lib.hid h1
          have H2 := Lib.hid h2
          have H3 := Lib.hid h3
          have HLO := Lib.hid HJqz2.out.size
          clear hb h1 h2 h3
          refine wpU_last [_] (by kernel_rfl) rfl rfl ?_
          simp only [List.getElem_toArray, List.getElem_cons_succ, List.getElem_cons_zero]
          obtain ⟨r0, r1, r2, r3, r4, r5, r6, r7⟩ := cells_r HZqz2c2.out
          obtain ⟨f0, f1, f2, f3, f4, f5, f6, f7⟩ := frozen_r HZqz2c2.out
          go_wp2_with fail
          go_meet
          exact ⟨_, _, _, _, rfl, MAt.stored (fr := FR) H1.out H2.out H3.out HZqz2c2.out, HJqz2c2.out.trans_set (((((((((OnlyAt.refl _ _).set _ _).set _ _).set _ _).set _ _).set _ _).set _ _).set _ _).set _ _) HRB.out, HLO.out⟩
      · go_wp2_with fail
        refine ⟨(Later.refl _).alloc _, ?_⟩
        obtain ⟨wqz1, hw⟩ : ∃ x, x = wqc0.alloc (Obj.cells zeroM TR) := ⟨_, rfl⟩
        rw [← hw]
        have hb : Later wqc0 wqz1 := by rw [hw]; exact (Later.refl _).alloc _
        have HZqz1 : Hid (wqz1.heap[wqc0.heap.size]? = some (.cells zeroM TR (0, 0))) := Lib.hid (by rw [hw]; exact heap_alloc_new _ _)
        have HJqz1 := Lib.hid (HJqc0.out.trans hb)
        have HRB := Lib.hid HJqc0.out.size
        replace HRW := Lib.hid (RowIn.later hb _ _ _ HRW.out)
        clear hb hw
        refine wpU_step 3 (by kernel_rfl) rfl rfl ?_
        go_wp2_with fail
        refine (toP_any p _ _ hpz (LKids.later (HL2.out.trans HJqz1.out) _ _ HK.out)).mono ?_
        rintro e wqz1c1 ⟨kv', rfl, hkb, hb⟩
        obtain ⟨kA', kc', rfl, _, _⟩ := hkb.form
        go_wp2_with fail
        refine ⟨hb, ?_⟩
        have HJqz1c1 := Lib.hid (HJqz1.out.trans hb)
        have HZqz1c1 := Lib.hid (Later.has hb HZqz1.out)
        replace HRW := Lib.hid (RowIn.later hb _ _ _ HRW.out)
        have HKW := Lib.hid (KidsB.in_ _ _ hkb)
        clear hb hkb
        refine wpU_step 6 (by kernel_rfl) rfl rfl ?_
        go_wp2_with fail
        refine (specPruned_any defs dA dc p _ s fuel _ HSM.out HSP.out HRW.out HKW.out hdl hsl).mono ?_
        rw [HRE.out, HFR.out]
        rintro e wqz1c2 ⟨cv, ev, rfl, h1, h2, h3, hb⟩
        obtain ⟨cA, cc, rfl, _, _⟩ := h1.form
        obtain ⟨eA, ec, rfl, _, _⟩ := h2.form
        go_wp2_with fail
        refine ⟨hb, ?_⟩
        have HJqz1c2 := Lib.hid (HJqz1c1.out.trans hb)
        have HZqz1c2 := Lib.hid (Later.has hb HZqz1c1.out)
        have H1 := Lib.hid h1
        have H2 := Lib.hid h2
        have H3 := Lib.hid h3
        have HLO := Lib.hid HJqz1c1.out.size
        clear hb h1 h2 h3
        refine wpU_last [_] (by kernel_rfl) rfl rfl ?_
        simp only [List.getElem_toArray, List.getElem_cons_succ, List.getElem_cons_zero]
        obtain ⟨r0, r1, r2, r3, r4, r5, r6, r7⟩ := cells_r HZqz1c2.out
        obtain ⟨f0, f1, f2, f3, f4, f5, f6, f7⟩ := frozen_r HZqz1c2.out
        go_wp2_with fail
        go_meet
        exact ⟨_, _, _, _, rfl, MAt.stored (fr := FR) H1.out H2.out H3.out HZqz1c2.out, HJqz1c2.out.trans_set (((((((((OnlyAt.refl _ _).set _ _).set _ _).set _ _).set _ _).set _ _).set _ _).set _ _).set _ _) HRB.out, HLO.out⟩
    · go_wp2_with fail
      refine ⟨(Later.refl _).alloc _, ?_⟩
      obtain ⟨wqz0, hw⟩ : ∃ x, x = wq.alloc (Obj.cells zeroM TR) := ⟨_, rfl⟩
      rw [← hw]
      have hb : Later wq wqz0 := by rw [hw]; exact (Later.refl _).alloc _
      have HZqz0 : Hid (wqz0.heap[wq.heap.size]? = some (.cells zeroM TR (0, 0))) := Lib.hid (by rw [hw]; exact heap_alloc_new _ _)
      have HJqz0 := Lib.hid (HJq.out.trans hb)
      have HRB := Lib.hid HJq.out.size
      clear hb hw
      refine wpU_step 1 (by kernel_rfl) rfl rfl ?_
      go_wp2_with fail
      refine (toS_any defs A c _ hd (LRow.later (HL2.out.trans HJqz0.out) _ _ _ HR.out)).mono ?_
      rintro e wqz0c0 ⟨dA, dc, rfl, hdc, hrow, hb⟩
      go_wp2_with fail
      refine ⟨hb, ?_⟩
      have HJqz0c0 := Lib.hid (HJqz0.out.trans hb)
      have HZqz0c0 := Lib.hid (Later.has hb HZqz0.out)
      have HRW := Lib.hid (RowB.in_ _ _ _ hrow)
      clear hb hrow
      refine wpU_step 3 (by kernel_rfl) rfl rfl ?_
      go_wp2_with fail
      refine (toP_any p _ _ hpz (LKids.later (HL2.out.trans HJqz0c0.out) _ _ HK.out)).mono ?_
      rintro e wqz0c1 ⟨kv', rfl, hkb, hb⟩
      obtain ⟨kA', kc', rfl, _, _⟩ := hkb.form
      go_wp2_with fail
      refine ⟨hb, ?_⟩
      have HJqz0c1 := Lib.hid (HJqz0c0.out.trans hb)
      have HZqz0c1 := Lib.hid (Later.has hb HZqz0c0.out)
      replace HRW := Lib.hid (RowIn.later hb _ _ _ HRW.out)
      have HKW := Lib.hid (KidsB.in_ _ _ hkb)
      clear hb hkb
      refine wpU_step 6 (by kernel_rfl) rfl rfl ?_
      go_wp2_with fail
      refine (specPruned_any defs dA dc p _ s fuel _ HSM.out HSP.out HRW.out HKW.out hdl hsl).mono ?_
      rw [HRE.out, HFR.out]
      rintro e wqz0c2 ⟨cv, ev, rfl, h1, h2, h3, hb⟩
      obtain ⟨cA, cc, rfl, _, _⟩ := h1.form
      obtain ⟨eA, ec, rfl, _, _⟩ := h2.form
      go_wp2_with fail
      refine ⟨hb, ?_⟩
      have HJqz0c2 := Lib.hid (HJqz0c1.out.trans hb)
      have HZqz0c2 := Lib.hid (Later.has hb HZqz0c1.out)
      have H1 := Lib.hid h1
      have H2 := Lib.hid h2
      have H3 := Lib.hid h3
      have HLO := Lib.hid HJqz0c1.out.size
      clear hb h1 h2 h3
      refine wpU_last [_] (by kernel_rfl) rfl rfl ?_
      simp only [List.getElem_toArray, List.getElem_cons_succ, List.getElem_cons_zero]
      obtain ⟨r0, r1, r2, r3, r4, r5, r6, r7⟩ := cells_r HZqz0c2.out
      obtain ⟨f0, f1, f2, f3, f4, f5, f6, f7⟩ := frozen_r HZqz0c2.out
      go_wp2_with fail
      go_meet
      exact ⟨_, _, _, _, rfl, MAt.stored (fr := FR) H1.out H2.out H3.out HZqz0c2.out, HJqz0c2.out.trans_set (((((((((OnlyAt.refl _ _).set _ _).set _ _).set _ _).set _ _).set _ _).set _ _).set _ _).set _ _) HRB.out, HLO.out⟩
  case rest =>
  obtain ⟨B0, lo0, cv0, ev0, hs12, hm0, hl3, hlo0⟩ := hcut
  subst hs12
  obtain ⟨w3, hw3⟩ : ∃ x, x = wc := ⟨_, rfl⟩
  rw [← hw3] at hm0 hl3 ⊢
  clear hw3
  have HL3 := Lib.hid (HL2.out.trans hl3)
  have HB3 := Lib.hid (Later.has hl3 HB2.out)
  have HM03 := Lib.hid hm0
  clear hm0 hl3 hlo0 t3
  go_wp2_with fail
  refine (toS_any defs A c _ hd (LRow.later HL3.out _ _ _ HR.out)).mono ?_
  rintro e w4 ⟨dA, dc, rfl, hdc, hrow, hb4⟩
  have HL4 := Lib.hid (HL3.out.trans hb4)
  have HB4 := Lib.hid (Later.has hb4 HB3.out)
  have HM04 := Lib.hid (HM03.out.later hb4)
  have HX4 := Lib.hid hrow
  have HS4 := Lib.hid (SRow.of _ _ _ hrow)
  have z03 := HL3.out.size
  have z34 := hb4.size
  clear hb4 hrow
  obtain ⟨p0, p1, p2, p3, p4, p5⟩ := cells_p HB4.out
  go_wp2_with fail
  clear p0 p1 p2 p3 p4 p5
  refine (toP_any p _ _ hpz (LKids.later HL4.out _ _ HK.out)).mono ?_
  rintro e w5 ⟨kv1, rfl, hkb, hb5⟩
  obtain ⟨kA1, kc1, rfl, _, _⟩ := hkb.form
  have HL5 := Lib.hid (HL4.out.trans hb5)
  have HB5 := Lib.hid (Later.has hb5 HB4.out)
  have HM05 := Lib.hid (HM04.out.later hb5)
  have HX5 := Lib.hid (RowB.later hb5 _ _ _ HX4.out)
  have HS5 := Lib.hid (SRow.marked (Marked.later (base := 0) (top := 0) hb5 (Nat.zero_le _)) _ _ _ HS4.out)
  have HK5 := Lib.hid hkb
  have HT5 := Lib.hid (SKids.of _ _ hkb)
  have z45 := hb5.size
  clear hb5 hkb HX4 HS4
  go_wp2_with fail
  have hA5 := (Later.refl w5).alloc (Obj.cells #[.int .i64 p.op, .string p.text, .int .i64 p.num, .int .i64 p.lo, .int .i64 p.hi, .slice kA1 p.kids.length kc1] TP)
  refine (implPruned_any defs dA dc p _ s fuel _ HSM.out HSP.out (RowIn.later hA5 _ _ _ (RowB.in_ _ _ _ HX5.out)) (KidsIn.later hA5 _ _ (KidsB.in_ _ _ HK5.out)) hdl hsl).mono ?_
  rw [HRE.out, HFR.out]
  rintro e w6 ⟨cv1, ev1, rfl, h1, h2, h3, hb6⟩
  obtain ⟨cA1, cc1, rfl, _, _⟩ := h1.form
  obtain ⟨eA1, ec1, rfl, _, _⟩ := h2.form
  have hb56 : Later w5 w6 := Later.trans hA5 hb6
  have HL6 := Lib.hid (HL5.out.trans hb56)
  have HB6 := Lib.hid (Later.has hb56 HB5.out)
  have HM06 := Lib.hid (HM05.out.later hb56)
  have HX6 := Lib.hid (RowB.later hb56 _ _ _ HX5.out)
  have HK6 := Lib.hid (KidsB.later hb56 _ _ HK5.out)
  have HS6 := Lib.hid (SRow.marked (Marked.later (base := 0) (top := 0) hb56 (Nat.zero_le _)) _ _ _ HS5.out)
  have HT6 := Lib.hid (SKids.marked (Marked.later (base := 0) (top := 0) hb56 (Nat.zero_le _)) _ _ HT5.out)
  have H146 := Lib.hid (Later.has hb6 (heap_alloc_new w5 (Obj.cells #[.int .i64 p.op, .string p.text, .int .i64 p.num, .int .i64 p.lo, .int .i64 p.hi, .slice kA1 p.kids.length kc1] TP)))
  have HSZ6 := Lib.hid hb6.size
  have HM1 := Lib.hid (MAt.made (fr := FR) h1 h2 h3)
  simp only [World.size_alloc] at HM1 HSZ6
  clear hA5 hb6 hb56 h1 h2 h3 HX5 HK5 HS5 HT5
  have hB06 := has_lt HM06.out.blk
  obtain ⟨a0, a1, a2, a3, a4, a5, a6, a7⟩ := cells_r HM06.out.blk
  go_wp2_with fail
  clear a0 a1 a2 a3 a4 a5 a6 a7
  have hA6 := (Later.refl w6).alloc (Obj.cells #[.bool R.found, .bool R.stopped, .bool R.exhausted, .int .i64 FR, .int .i64 R.at_, .int .i64 R.steps, .slice cA1 R.caps.length cc1, .slice eA1 R.events.length ec1] TR)
  have HM06' := Lib.hid (HM06.out.later hA6)
  refine (eqMatch_any R FR _ _ _ _ _ _ _ HM1.out.caps HM1.out.evs HM06'.out.caps HM06'.out.evs hRc hRe).mono ?_
  rintro e w7 ⟨rfl, hb7⟩
  have hb67 : Later w6 w7 := Later.trans hA6 hb7
  have HL7 := Lib.hid (HL6.out.trans hb67)
  have HB7 := Lib.hid (Later.has hb67 HB6.out)
  have HM07 := Lib.hid (HM06.out.later hb67)
  have HX7 := Lib.hid (RowB.later hb67 _ _ _ HX6.out)
  have HK7 := Lib.hid (KidsB.later hb67 _ _ HK6.out)
  have HS7 := Lib.hid (SRow.marked (Marked.later (base := 0) (top := 0) hb67 (Nat.zero_le _)) _ _ _ HS6.out)
  have HT7 := Lib.hid (SKids.marked (Marked.later (base := 0) (top := 0) hb67 (Nat.zero_le _)) _ _ HT6.out)
  have H147 := Lib.hid (Later.has hb67 H146.out)
  have HM17 := Lib.hid (HM1.out.later hb7)
  have HSZ7 := Lib.hid (Nat.le_trans HSZ6.out hb67.size)
  clear hA6 hb7 hb67 HM06' HM1 HX6 HK6 HS6 HT6 hB06
  go_wp2_with fail
  refine (toS_any defs A c _ hd (LRow.later HL7.out _ _ _ HR.out)).mono ?_
  rintro e w8 ⟨dA8, dc8, rfl, hdc8, hrow8, hb8⟩
  have HL8 := Lib.hid (HL7.out.trans hb8)
  have HB8 := Lib.hid (Later.has hb8 HB7.out)
  have HM08 := Lib.hid (HM07.out.later hb8)
  have HM18 := Lib.hid (HM17.out.later hb8)
  have HX8 := Lib.hid (RowB.later hb8 _ _ _ HX7.out)
  have HY8 := Lib.hid hrow8
  have HB78 := Lib.hid hb8
  clear hb8 hrow8
  go_wp2_with fail
  refine (eqS_any defs _ _ _ _ _ hd (RowB.in_ _ _ _ HX8.out) (RowB.in_ _ _ _ HY8.out)).mono ?_
  rintro e w9 ⟨rfl, hb9⟩
  have hb79 : Later w7 w9 := Later.trans HB78.out hb9
  have HL9 := Lib.hid (HL7.out.trans hb79)
  have HB9 := Lib.hid (Later.has hb79 HB7.out)
  have HM09 := Lib.hid (HM07.out.later hb79)
  have HM19 := Lib.hid (HM17.out.later hb79)
  have HK9 := Lib.hid (KidsB.later hb79 _ _ HK7.out)
  have HS9 := Lib.hid (SRow.marked (Marked.later (base := 0) (top := 0) hb79 (Nat.zero_le _)) _ _ _ HS7.out)
  have HT9 := Lib.hid (SKids.marked (Marked.later (base := 0) (top := 0) hb79 (Nat.zero_le _)) _ _ HT7.out)
  have H149 := Lib.hid (Later.has hb79 H147.out)
  have HSZ9 := Lib.hid (Nat.le_trans HSZ7.out hb79.size)
  clear hb9 hb79 HX8 HY8 HB78 HX7 HK7 HS7 HT7 HL8 HB8 HM08 HM18
  go_wp2_with fail
  -- region 18: 5 operations, the last []
  refine wpU_begin [] [] (by kernel_rfl) (fun w10 hw10 => ?_)
  have hb := drew_later hw10
  have HL10 := Lib.hid (HL9.out.trans hb)
  have HB10 := Lib.hid (Later.has hb HB9.out)
  have HM010 := Lib.hid (HM09.out.later hb)
  have HM110 := Lib.hid (HM19.out.later hb)
  have HK10 := Lib.hid (KidsB.later hb _ _ HK9.out)
  have HS10 := Lib.hid (SRow.marked (Marked.later (base := 0) (top := 0) hb (Nat.zero_le _)) _ _ _ HS9.out)
  have HT10 := Lib.hid (SKids.marked (Marked.later (base := 0) (top := 0) hb (Nat.zero_le _)) _ _ HT9.out)
  have H1410 := Lib.hid (Later.has hb H149.out)
  have HSZ10 := Lib.hid (Nat.le_trans HSZ9.out hb.size)
  clear hw10 hb HK9 HS9 HT9
  refine wpU_take 0 (some 56) (v := ?_) rfl rfl (by kernel_rfl) (fun _ _ _ h => h) rfl (fun x hx => ?_) ?_
  rotate_left 1
  · obtain ⟨p0, p1, p2, p3, p4, p5⟩ := cells_p (hx.has HB10.out); obtain ⟨q0, q1, q2, q3, q4, q5⟩ := cells_p (hx.has H1410.out); go_simp; first | done | with_reducible rfl | rw [if_neg (by omega)] | rw [if_pos (by omega)]
  simp only [Act.put, List.setIfInBounds_toArray, List.set_cons_zero, List.set_cons_succ]
  refine wpU_take 1 (some 57) (v := ?_) rfl rfl (by kernel_rfl) (fun _ _ _ h => h) rfl (fun x hx => ?_) ?_
  rotate_left 1
  · obtain ⟨p0, p1, p2, p3, p4, p5⟩ := cells_p (hx.has HB10.out); obtain ⟨q0, q1, q2, q3, q4, q5⟩ := cells_p (hx.has H1410.out); go_simp; first | done | with_reducible rfl | rw [if_neg (by omega)] | rw [if_pos (by omega)]
  simp only [Act.put, List.setIfInBounds_toArray, List.set_cons_zero, List.set_cons_succ]
  refine wpU_step 2 (by kernel_rfl) rfl rfl ?_  -- call value (Go.Operand.func 17)
  go_wp2_with fail
  refine (toP_any p _ _ hpz (LKids.later HL10.out _ _ HK.out)).mono ?_
  rintro e w11 ⟨kv2, rfl, hkb, hb11⟩
  obtain ⟨kA2, kc2, rfl, _, _⟩ := hkb.form
  go_wp2_with fail
  refine ⟨hb11, ?_⟩
  have HK11 := Lib.hid (KidsB.in_ _ _ hkb)
  have HK10' := Lib.hid (KidsB.in_ _ _ (KidsB.later hb11 _ _ HK10.out))
  have HB1011 := Lib.hid hb11
  clear hb11 hkb
  refine wpU_step 3 (by kernel_rfl) rfl rfl ?_  -- call value (Go.Operand.func 20)
  go_wp2_with fail
  refine (eqP_any p _ _ _ hpz HK10'.out HK11.out).mono ?_
  rintro e w12 ⟨rfl, hb12⟩
  go_wp2_with fail
  refine ⟨hb12, ?_⟩
  have hb : Later w10 w12 := Later.trans HB1011.out hb12
  have HL12 := Lib.hid (HL10.out.trans hb)
  have HB12 := Lib.hid (Later.has hb HB10.out)
  have HM012 := Lib.hid (HM010.out.later hb)
  have HM112 := Lib.hid (HM110.out.later hb)
  have HS12 := Lib.hid (SRow.marked (Marked.later (base := 0) (top := 0) hb (Nat.zero_le _)) _ _ _ HS10.out)
  have HT12 := Lib.hid (SKids.marked (Marked.later (base := 0) (top := 0) hb (Nat.zero_le _)) _ _ HT10.out)
  have H1412 := Lib.hid (Later.has hb H1410.out)
  have HSZ12 := Lib.hid (Nat.le_trans HSZ10.out hb.size)
  clear hb hb12 HB1011 HK11 HK10' HK10 HS10 HT10
  refine wpU_take 4 (some 60) (v := ?_) rfl rfl (by kernel_rfl) (fun _ _ _ h => h) rfl (fun x hx => ?_) ?_
  rotate_left 1
  · go_simp; first | done | with_reducible rfl | rw [if_neg (by omega)] | rw [if_pos (by omega)]
  simp only [Act.put, List.setIfInBounds_toArray, List.set_cons_zero, List.set_cons_succ]
  refine wpU_last [] (by kernel_rfl) rfl rfl ?_
  go_wp2_with fail
  have HCA := Lib.hid (countAll_sz defs)
  have HCP := Lib.hid (count_sz p)
  have z12 := HSZ12.out
  refine (markS_any w3.heap.size w4.heap.size (countAll defs) defs dA dc _ 1 (Nat.le_refl _) (by have := HCA.out; omega) (by omega) (by have := HCA.out; omega) (by omega) HS12.out).mono ?_
  rintro e w13 ⟨rfl, hm13⟩
  have HL13 := Lib.hid (show Later w w13 from Below.trans HL12.out (hm13.below.mono z03))
  have HB13 := Lib.hid (hm13.keep 39 (by decide) _ _ HB12.out)
  have HM013 := Lib.hid (HM012.out.marked hm13)
  have HM113 := Lib.hid (HM112.out.marked hm13)
  have H1413 := Lib.hid ((hm13.rest w5.heap.size z45 (has_lt H1412.out)).trans H1412.out)
  have HT13 := Lib.hid (SKids.marked hm13 _ _ HT12.out)
  have z13 := hm13.size
  obtain ⟨k1, hk1⟩ : ∃ k1 : Int, 1 + 5 * (countAll defs : Int) = k1 := ⟨_, rfl⟩
  rw [hk1]
  have k10 : 1 ≤ k1 := by omega
  have k11 : k1 ≤ 10000000 := by have := HCA.out; omega
  clear hm13 hk1
  obtain ⟨q0, q1, q2, q3, q4, q5⟩ := cells_p H1413.out
  go_wp2_with fail
  clear q0 q1 q2 q3 q4 q5
  refine (mark_any w4.heap.size w5.heap.size p _ _ k1 (by have := HCP.out; omega) k10 (by have := HCP.out; omega) (by omega) HT13.out).mono ?_
  rintro e w14 ⟨rfl, hm14⟩
  have HL14 := Lib.hid (show Later w w14 from Below.trans HL13.out (hm14.below.mono (by omega)))
  have HB14 := Lib.hid (hm14.keep 39 (by decide) _ _ HB13.out)
  have HM014 := Lib.hid (HM013.out.marked hm14)
  have HM114 := Lib.hid (HM113.out.marked hm14)
  obtain ⟨k2, hk2⟩ : ∃ k2 : Int, k1 + 5 * (countAll p.kids : Int) = k2 := ⟨_, rfl⟩
  rw [hk2]
  have k20 : decide (k2 < 0) = false := by simp; omega
  have z14 := hm14.size
  clear hm14 hk2
  obtain ⟨a0, a1, a2, a3, a4, a5, a6, a7⟩ := cells_r HM014.out.blk
  obtain ⟨b0, b1, b2, b3, b4, b5, b6, b7⟩ := cells_r HM114.out.blk
  go_wp2_with fail
  clear a0 a1 a2 a3 a4 a5 a6 a7
  clear b0 b1 b2 b3 b4 b5 b6 b7
  refine (eqMatch_any R FR _ _ _ _ _ _ _ HM114.out.caps HM114.out.evs HM014.out.caps HM014.out.evs hRc hRe).mono ?_
  rintro e w15 ⟨rfl, hb15⟩
  have HL15 := Lib.hid (HL14.out.trans hb15)
  have HB15 := Lib.hid (Later.has hb15 HB14.out)
  have HM015 := Lib.hid (HM014.out.later hb15)
  have HM115 := Lib.hid (HM114.out.later hb15)
  have z15 := hb15.size
  clear hb15
  obtain ⟨b0, b1, b2, b3, b4, b5, b6, b7⟩ := cells_r HM115.out.blk
  go_wp2_with fail
  clear b0 b1 b2 b3 b4 b5 b6 b7
  refine (markMatch_any R FR _ _ (w5.heap.size + 1) _ HM115.out.caps HM115.out.evs HM115.out.apart (by omega) hRc hRe).mono ?_
  rintro e w16 ⟨rfl, hh1, hh2, hk16, hb16⟩
  have HL16 := Lib.hid (show Later w w16 from Below.trans HL15.out (hb16.mono (by omega)))
  have HB16 := Lib.hid ((hb16.block w.heap.size (by omega)).trans HB15.out)
  have HM016 := Lib.hid (MAt.apart_from (top := w5.heap.size) HM015.out HM115.out (has_lt HM05.out.blk) (fun k hk => (by have := (HM05.out.caps.lt k hk).2.1; omega)) (fun k hk => (by have := (HM05.out.evs.lt k hk).2.1; omega)) (by omega) hk16)
  have H1516 := Lib.hid ((hk16 w6.heap.size (has_lt HM115.out.blk) (row_ne_blk HM115.out.caps HM115.out.blk (by decide)) (row_ne_blk HM115.out.evs HM115.out.blk (by decide))).trans HM115.out.blk)
  have HH116 := Lib.hid hh1
  have HH216 := Lib.hid hh2
  clear hh1 hh2 hk16 hb16
  have HNY := Lib.hid (show (0 : Int) ≤ 1 + 3 * (R.caps.length : Int) + 3 * (R.events.length : Int) by omega)
  obtain ⟨y, hy⟩ : ∃ y : Int, 1 + 3 * (R.caps.length : Int) + 3 * (R.events.length : Int) = y := ⟨_, rfl⟩
  rw [hy] at HNY ⊢
  have HY := Lib.hid hy
  have ty : decide (y < 0) = false := by have := HNY.out; simp; omega
  clear hy
  obtain ⟨b0, b1, b2, b3, b4, b5, b6, b7⟩ := cells_r H1516.out
  go_wp2_with fail
  clear b0 b1 b2 b3 b4 b5 b6 b7
  refine (heldMatch_any R FR _ _ _ HH116.out HH216.out hRc hRe).mono ?_
  rw [HY.out]
  rintro e w17 ⟨rfl, hb17⟩
  have HL17 := Lib.hid (HL16.out.trans hb17)
  have HB17 := Lib.hid (Later.has hb17 HB16.out)
  have HM017 := Lib.hid (HM016.out.later hb17)
  have HH117 := Lib.hid (HH116.out.later hb17)
  have HH217 := Lib.hid (HH216.out.later hb17)
  have H1517 := Lib.hid (Later.has hb17 H1516.out)
  clear hb17
  go_upto_region 33 with (fail)
  go_cut [17] from 86 to 92 (fun sv wr => CutM w17 R FR sv wr)
  case first =>
    refine wpU_begin [8] [] (by kernel_rfl) (fun wr hwr => ?_)
    have HJr := Lib.hid (drew_later hwr)
    clear hwr
    refine wpU_take 0 (some 86) (v := ?_) rfl rfl (by kernel_rfl) (fun _ _ _ h => h) rfl (fun x hx => ?_) ?_
    rotate_left 1
    · go_simp; first | done | with_reducible rfl | rw [if_neg (by omega)] | rw [if_pos (by omega)]
    simp only [Act.put, List.setIfInBounds_toArray, List.set_cons_zero, List.set_cons_succ]
    refine wpU_take 2 (some 88) (v := ?_) rfl rfl (by kernel_rfl) (fun _ _ _ h => h) rfl (fun x hx => ?_) ?_
    rotate_left 1
    · obtain ⟨p0, p1, p2, p3, p4, p5⟩ := cells_p (hx.has (HJr.out.has HB17.out)); go_simp; first | done | with_reducible rfl | rw [if_neg (by omega)] | rw [if_pos (by omega)]
    simp only [Act.put, List.setIfInBounds_toArray, List.set_cons_zero, List.set_cons_succ]
    refine wpU_take 4 (some 90) (v := ?_) rfl rfl (by kernel_rfl) (fun _ _ _ h => h) rfl (fun x hx => ?_) ?_
    rotate_left 1
    · go_simp; first | done | with_reducible rfl | rw [if_neg (by omega)] | rw [if_pos (by omega)]
    simp only [Act.put, List.setIfInBounds_toArray, List.set_cons_zero, List.set_cons_succ]
    refine wpU_take 5 (some 91) (v := ?_) rfl rfl (by kernel_rfl) (fun _ _ _ h => h) rfl (fun x hx => ?_) ?_
    rotate_left 1
    · go_simp; first | done | with_reducible rfl | rw [if_neg (by omega)] | rw [if_pos (by omega)]
    simp only [Act.put, List.setIfInBounds_toArray, List.set_cons_zero, List.set_cons_succ]
    refine wpU_two 1 7 (by kernel_rfl) rfl rfl rfl rfl ?_ ?_
    · go_wp2_with fail
      refine (toS_any defs A c _ hd (LRow.later (HL17.out.trans HJr.out) _ _ _ HR.out)).mono ?_
      rintro e wrc0 ⟨dA, dc, rfl, hdc, hrow, hb⟩
      go_wp2_with fail
      refine ⟨hb, ?_⟩
      have HJrc0 := Lib.hid (HJr.out.trans hb)
      have HRW := Lib.hid (RowB.in_ _ _ _ hrow)
      clear hb hrow
      refine wpU_two 3 7 (by kernel_rfl) rfl rfl rfl rfl ?_ ?_
      · go_wp2_with fail
        refine (toP_any p _ _ hpz (LKids.later (HL17.out.trans HJrc0.out) _ _ HK.out)).mono ?_
        rintro e wrc1 ⟨kv', rfl, hkb, hb⟩
        obtain ⟨kA', kc', rfl, _, _⟩ := hkb.form
        go_wp2_with fail
        refine ⟨hb, ?_⟩
        have HJrc1 := Lib.hid (HJrc0.out.trans hb)
        replace HRW := Lib.hid (RowIn.later hb _ _ _ HRW.out)
        have HKW := Lib.hid (KidsB.in_ _ _ hkb)
        clear hb hkb
        refine wpU_two 6 7 (by kernel_rfl) rfl rfl rfl rfl ?_ ?_
        · go_wp2_with fail
          refine (implPruned_any defs dA dc p _ s fuel _ HSM.out HSP.out HRW.out HKW.out hdl hsl).mono ?_
          rw [HRE.out, HFR.out]
          rintro e wrc2 ⟨cv, ev, rfl, h1, h2, h3, hb⟩
          obtain ⟨cA, cc, rfl, _, _⟩ := h1.form
          obtain ⟨eA, ec, rfl, _, _⟩ := h2.form
          go_wp2_with fail
          refine ⟨hb, ?_⟩
          have HJrc2 := Lib.hid (HJrc1.out.trans hb)
          have H1 := Lib.hid h1
          have H2 := Lib.hid h2
          have H3 := Lib.hid h3
          have HLO := Lib.hid HJrc1.out.size
          clear hb h1 h2 h3
          refine wpU_step 7 (by kernel_rfl) rfl rfl ?_
          go_wp2_with fail
          refine ⟨(Later.refl _).alloc _, ?_⟩
          refine wpU_last [_] (by kernel_rfl) rfl rfl ?_
          simp only [List.getElem_toArray, List.getElem_cons_succ, List.getElem_cons_zero]
          go_wp2_with fail
          go_meet
          exact ⟨_, _, _, _, rfl, MAt.made (fr := FR) H1.out H2.out H3.out, HJrc2.out.alloc _, HLO.out⟩
        · go_wp2_with fail
          refine ⟨(Later.refl _).alloc _, ?_⟩
          obtain ⟨wrz2, hw⟩ : ∃ x, x = wrc1.alloc (Obj.cells zeroM TR) := ⟨_, rfl⟩
          rw [← hw]
          have hb : Later wrc1 wrz2 := by rw [hw]; exact (Later.refl _).alloc _
          have HZrz2 : Hid (wrz2.heap[wrc1.heap.size]? = some (.cells zeroM TR (0, 0))) := Lib.hid (by rw [hw]; exact heap_alloc_new _ _)
          have HJrz2 := Lib.hid (HJrc1.out.trans hb)
          have HRB := Lib.hid HJrc1.out.size
          replace HRW := Lib.hid (RowIn.later hb _ _ _ HRW.out)
          replace HKW := Lib.hid (KidsIn.later hb _ _ HKW.out)
          clear hb hw
          refine wpU_step 6 (by kernel_rfl) rfl rfl ?_
          go_wp2_with fail
          refine (implPruned_any defs dA dc p _ s fuel _ HSM.out HSP.out HRW.out HKW.out hdl hsl).mono ?_
          rw [HRE.out, HFR.out]
          rintro e wrz2c2 ⟨cv, ev, rfl, h1, h2, h3, hb⟩
          obtain ⟨cA, cc, rfl, _, _⟩ := h1.form
          obtain ⟨eA, ec, rfl, _, _⟩ := h2.form
          go_wp2_with fail
          refine ⟨hb, ?_⟩
          have HJrz2c2 := Lib.hid (HJrz2.out.trans hb)
          have HZrz2c2 := Lib.hid (Later.has hb HZrz2.out)
          have H1 := Lib.hid h1
          have H2 := Lib.hid h2
          have H3 := Lib.hid h3
          have HLO := Lib.hid HJrz2.out.size
          clear hb h1 h2 h3
          refine wpU_last [_] (by kernel_rfl) rfl rfl ?_
          simp only [List.getElem_toArray, List.getElem_cons_succ, List.getElem_cons_zero]
          obtain ⟨r0, r1, r2, r3, r4, r5, r6, r7⟩ := cells_r HZrz2c2.out
          obtain ⟨f0, f1, f2, f3, f4, f5, f6, f7⟩ := frozen_r HZrz2c2.out
          go_wp2_with fail
          go_meet
          exact ⟨_, _, _, _, rfl, MAt.stored (fr := FR) H1.out H2.out H3.out HZrz2c2.out, HJrz2c2.out.trans_set (((((((((OnlyAt.refl _ _).set _ _).set _ _).set _ _).set _ _).set _ _).set _ _).set _ _).set _ _) HRB.out, HLO.out⟩
      · go_wp2_with fail
        refine ⟨(Later.refl _).alloc _, ?_⟩
        obtain ⟨wrz1, hw⟩ : ∃ x, x = wrc0.alloc (Obj.cells zeroM TR) := ⟨_, rfl⟩
        rw [← hw]
        have hb : Later wrc0 wrz1 := by rw [hw]; exact (Later.refl _).alloc _
        have HZrz1 : Hid (wrz1.heap[wrc0.heap.size]? = some (.cells zeroM TR (0, 0))) := Lib.hid (by rw [hw]; exact heap_alloc_new _ _)
        have HJrz1 := Lib.hid (HJrc0.out.trans hb)
        have HRB := Lib.hid HJrc0.out.size
        replace HRW := Lib.hid (RowIn.later hb _ _ _ HRW.out)
        clear hb hw
        refine wpU_step 3 (by kernel_rfl) rfl rfl ?_
        go_wp2_with fail
        refine (toP_any p _ _ hpz (LKids.later (HL17.out.trans HJrz1.out) _ _ HK.out)).mono ?_
        rintro e wrz1c1 ⟨kv', rfl, hkb, hb⟩
        obtain ⟨kA', kc', rfl, _, _⟩ := hkb.form
        go_wp2_with fail
        refine ⟨hb, ?_⟩
        have HJrz1c1 := Lib.hid (HJrz1.out.trans hb)
        have HZrz1c1 := Lib.hid (Later.has hb HZrz1.out)
        replace HRW := Lib.hid (RowIn.later hb _ _ _ HRW.out)
        have HKW := Lib.hid (KidsB.in_ _ _ hkb)
        clear hb hkb
        refine wpU_step 6 (by kernel_rfl) rfl rfl ?_
        go_wp2_with fail
        refine (implPruned_any defs dA dc p _ s fuel _ HSM.out HSP.out HRW.out HKW.out hdl hsl).mono ?_
        rw [HRE.out, HFR.out]
        rintro e wrz1c2 ⟨cv, ev, rfl, h1, h2, h3, hb⟩
        obtain ⟨cA, cc, rfl, _, _⟩ := h1.form
        obtain ⟨eA, ec, rfl, _, _⟩ := h2.form
        go_wp2_with fail
        refine ⟨hb, ?_⟩
        have HJrz1c2 := Lib.hid (HJrz1c1.out.trans hb)
        have HZrz1c2 := Lib.hid (Later.has hb HZrz1c1.out)
        have H1 := Lib.hid h1
        have H2 := Lib.hid h2
        have H3 := Lib.hid h3
        have HLO := Lib.hid HJrz1c1.out.size
        clear hb h1 h2 h3
        refine wpU_last [_] (by kernel_rfl) rfl rfl ?_
        simp only [List.getElem_toArray, List.getElem_cons_succ, List.getElem_cons_zero]
        obtain ⟨r0, r1, r2, r3, r4, r5, r6, r7⟩ := cells_r HZrz1c2.out
        obtain ⟨f0, f1, f2, f3, f4, f5, f6, f7⟩ := frozen_r HZrz1c2.out
        go_wp2_with fail
        go_meet
        exact ⟨_, _, _, _, rfl, MAt.stored (fr := FR) H1.out H2.out H3.out HZrz1c2.out, HJrz1c2.out.trans_set (((((((((OnlyAt.refl _ _).set _ _).set _ _).set _ _).set _ _).set _ _).set _ _).set _ _).set _ _) HRB.out, HLO.out⟩
    · go_wp2_with fail
      refine ⟨(Later.refl _).alloc _, ?_⟩
      obtain ⟨wrz0, hw⟩ : ∃ x, x = wr.alloc (Obj.cells zeroM TR) := ⟨_, rfl⟩
      rw [← hw]
      have hb : Later wr wrz0 := by rw [hw]; exact (Later.refl _).alloc _
      have HZrz0 : Hid (wrz0.heap[wr.heap.size]? = some (.cells zeroM TR (0, 0))) := Lib.hid (by rw [hw]; exact heap_alloc_new _ _)
      have HJrz0 := Lib.hid (HJr.out.trans hb)
      have HRB := Lib.hid HJr.out.size
      clear hb hw
      refine wpU_step 1 (by kernel_rfl) rfl rfl ?_
      go_wp2_with fail
      refine (toS_any defs A c _ hd (LRow.later (HL17.out.trans HJrz0.out) _ _ _ HR.out)).mono ?_
      rintro e wrz0c0 ⟨dA, dc, rfl, hdc, hrow, hb⟩
      go_wp2_with fail
      refine ⟨hb, ?_⟩
      have HJrz0c0 := Lib.hid (HJrz0.out.trans hb)
      have HZrz0c0 := Lib.hid (Later.has hb HZrz0.out)
      have HRW := Lib.hid (RowB.in_ _ _ _ hrow)
      clear hb hrow
      refine wpU_step 3 (by kernel_rfl) rfl rfl ?_
      go_wp2_with fail
      refine (toP_any p _ _ hpz (LKids.later (HL17.out.trans HJrz0c0.out) _ _ HK.out)).mono ?_
      rintro e wrz0c1 ⟨kv', rfl, hkb, hb⟩
      obtain ⟨kA', kc', rfl, _, _⟩ := hkb.form
      go_wp2_with fail
      refine ⟨hb, ?_⟩
      have HJrz0c1 := Lib.hid (HJrz0c0.out.trans hb)
      have HZrz0c1 := Lib.hid (Later.has hb HZrz0c0.out)
      replace HRW := Lib.hid (RowIn.later hb _ _ _ HRW.out)
      have HKW := Lib.hid (KidsB.in_ _ _ hkb)
      clear hb hkb
      refine wpU_step 6 (by kernel_rfl) rfl rfl ?_
      go_wp2_with fail
      refine (implPruned_any defs dA dc p _ s fuel _ HSM.out HSP.out HRW.out HKW.out hdl hsl).mono ?_
      rw [HRE.out, HFR.out]
      rintro e wrz0c2 ⟨cv, ev, rfl, h1, h2, h3, hb⟩
      obtain ⟨cA, cc, rfl, _, _⟩ := h1.form
      obtain ⟨eA, ec, rfl, _, _⟩ := h2.form
      go_wp2_with fail
      refine ⟨hb, ?_⟩
      have HJrz0c2 := Lib.hid (HJrz0c1.out.trans hb)
      have HZrz0c2 := Lib.hid (Later.has hb HZrz0c1.out)
      have H1 := Lib.hid h1
      have H2 := Lib.hid h2
      have H3 := Lib.hid h3
      have HLO := Lib.hid HJrz0c1.out.size
      clear hb h1 h2 h3
      refine wpU_last [_] (by kernel_rfl) rfl rfl ?_
      simp only [List.getElem_toArray, List.getElem_cons_succ, List.getElem_cons_zero]
      obtain ⟨r0, r1, r2, r3, r4, r5, r6, r7⟩ := cells_r HZrz0c2.out
      obtain ⟨f0, f1, f2, f3, f4, f5, f6, f7⟩ := frozen_r HZrz0c2.out
      go_wp2_with fail
      go_meet
      exact ⟨_, _, _, _, rfl, MAt.stored (fr := FR) H1.out H2.out H3.out HZrz0c2.out, HJrz0c2.out.trans_set (((((((((OnlyAt.refl _ _).set _ _).set _ _).set _ _).set _ _).set _ _).set _ _).set _ _).set _ _) HRB.out, HLO.out⟩
  case rest =>
  obtain ⟨B2, lo2, cv2, ev2, hs19, hm2, hl18, hlo2⟩ := hcut
  subst hs19
  obtain ⟨w18, hw18⟩ : ∃ x, x = wc := ⟨_, rfl⟩
  rw [← hw18] at hm2 hl18 ⊢
  clear hw18 hlo2
  have HL18 := Lib.hid (HL17.out.trans hl18)
  have HB18 := Lib.hid (Later.has hl18 HB17.out)
  have HM018 := Lib.hid (HM017.out.later hl18)
  have HH118 := Lib.hid (HH117.out.later hl18)
  have HH218 := Lib.hid (HH217.out.later hl18)
  have H1518 := Lib.hid (Later.has hl18 H1517.out)
  have HM218 := Lib.hid hm2
  clear hl18 hm2
  obtain ⟨a0, a1, a2, a3, a4, a5, a6, a7⟩ := cells_r HM018.out.blk
  obtain ⟨b0, b1, b2, b3, b4, b5, b6, b7⟩ := cells_r HM218.out.blk
  go_wp2_with fail
  clear a0 a1 a2 a3 a4 a5 a6 a7
  clear b0 b1 b2 b3 b4 b5 b6 b7
  refine (eqMatch_any R FR _ _ _ _ _ _ _ HM218.out.caps HM218.out.evs HM018.out.caps HM018.out.evs hRc hRe).mono ?_
  rintro e w19 ⟨rfl, hb19⟩
  have HL19 := Lib.hid (HL18.out.trans hb19)
  have HB19 := Lib.hid (Later.has hb19 HB18.out)
  have HH119 := Lib.hid (HH118.out.later hb19)
  have HH219 := Lib.hid (HH218.out.later hb19)
  have H1519 := Lib.hid (Later.has hb19 H1518.out)
  clear hb19
  obtain ⟨b0, b1, b2, b3, b4, b5, b6, b7⟩ := cells_r H1519.out
  go_wp2_with fail
  clear b0 b1 b2 b3 b4 b5 b6 b7
  refine (heldMatch_any R FR _ _ _ HH119.out HH219.out hRc hRe).mono ?_
  rw [HY.out]
  rintro e w20 ⟨rfl, hb20⟩
  have HL20 := Lib.hid (HL19.out.trans hb20)
  clear hb20
  go_wp2_with fail
  go_ret
  exact ⟨rfl, HL20.out⟩

end Go.Proofs.Ytndefbecoahfhaa

/- FnExactPrunedSearch returns true for every definitions, pattern, subject and fuel, and leaves its arguments as they were. No condition. -/
namespace Go.Proofs.Ytndefbecoahfhaa
open Go.ChangeShapes Go.WideShapes Go.ChangeAt Go.RowKit Go.ChangeMaps

set_option maxRecDepth 100000 in
theorem exactPruned_lifted (os : Os) (started : os.Started) (H : Type) (enc : TypeId × Value → H) :
    ReturnsInHanded {} Try.checked os 8 .any (Rows.fnExactPrunedSearchSpec.pre6 enc Try.prog Try.f8 Rows.fnExactPrunedSearchRow.domain false) (Rows.fnExactPrunedSearchSpec.post enc Try.prog Try.f8 false true false false) := by
  refine returnsInHanded_of_change (C := Try.checked) own started (by kernel_rfl) Try.func8
    (ChangeSpec.witness6 (enc := enc) (C := Try.checked) false ⟨#[], #[.slice none 0 0, .agg #[.int .i64 0, .string ⟨#[]⟩, .int .i64 0, .int .i64 0, .int .i64 0, .slice none 0 0], .string ⟨#[]⟩, .int .i64 0], []⟩ 7 (by kernel_rfl) (by kernel_rfl) (by kernel_rfl) (by kernel_rfl)) ?_
  intro W base args ds gs before hval0 hW hcnd _
  have hval : ∀ (j : Nat) t v, Try.f8.params[j]? = some t → args[j]? = some v → Value.okWide Try.prog W .any base t v := hval0
  have hW' := hW
  obtain ⟨p, q, hA0, hV, rfl, hfz, hnd⟩ := hW
  have hA : DataW.TrodAll enc Try.prog W 0 (fun _ => true) true Try.f8.params.toList args.toList ds p := hA0
  rw [Try.params8] at hA hval
  obtain ⟨v0, vs0, d0, ds0, p0, q0, hargs, rfl, rfl, h0, r0⟩ := trodAll_cons hA
  obtain ⟨v1, vs1, d1, ds1, p1, q1, rfl, rfl, rfl, h1, r1⟩ := trodAll_cons r0
  obtain ⟨v2, vs2, d2, ds2, p2, q2, rfl, rfl, rfl, h2, r2⟩ := trodAll_cons r1
  obtain ⟨v3, vs3, d3, ds3, p3, q3, rfl, rfl, rfl, h3, r3⟩ := trodAll_cons r2
  obtain ⟨rfl, rfl, rfl⟩ := trodAll_nil r3
  obtain rfl : args = #[v0, v1, v2, v3] := by cases args; simp_all
  obtain ⟨defs, A, c, rfl, hc, hcm, hrow⟩ := open_ls (hval 0 _ v0 rfl rfl) h0
  obtain ⟨pat, kv, rfl, hkid⟩ := open_lp (hval 1 _ v1 rfl rfl) h1
  obtain ⟨s, rfl, rfl, rfl, ws⟩ := open_string Try.underlying9 (hval 2 9 v2 rfl rfl) h2
  obtain ⟨fuel, rfl, rfl, rfl, w3⟩ := open_int Try.underlying3 (hval 3 3 v3 rfl rfl) h3
  refine (prunedLaw_any defs A c pat kv s fuel W hrow hkid hc hcm).mono fun e W' ⟨he, hb⟩ => ?_
  subst he
  exact ⟨_, rfl, law_post laidOut hW' rfl rfl (by kernel_rfl) Try.underlying4 (by kernel_rfl) hb⟩

theorem exactPrunedSearch_holds : Rows.FnExactPrunedSearchSaid :=
  OpenClaim.holds_of_wide 8 Try.f8 rfl rfl rfl rfl rfl rfl rfl ⟨rfl, rfl, rfl, rfl, rfl⟩ rfl rfl rfl rfl rfl (by kernel_rfl) Try.func8 (by kernel_rfl)
    (of_decide_eq_true (by kernel_rfl)) (by unfold Func.isWrapper; first | (rw [if_pos (by decide +kernel)]; kernel_rfl) | (rw [if_neg (by decide +kernel)]; exact ⟨rfl, rfl⟩))
    (fun os started H enc _ => exactPruned_lifted os started H enc)
#print axioms exactPrunedSearch_holds

end Go.Proofs.Ytndefbecoahfhaa
