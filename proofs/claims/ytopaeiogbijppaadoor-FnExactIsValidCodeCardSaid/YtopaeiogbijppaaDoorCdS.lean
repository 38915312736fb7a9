/- spec.IsValidCode. Printed by gen_cd.py. -/
import Derived.Test.YtopaeiogbijppaaDoorCdI
namespace Go.Proofs.YtopaeiogbijppaaDoor
open Go.RowKit

set_option maxRecDepth 100000 in
set_option maxHeartbeats 8000000 in
theorem specIsValidCode_any (c : CodeD) (cs : List Value) (F : Nat → Prop) (w : World) (hsz : szCodeD c ≤ 1048576) (h : codeEl F w c cs) :
    Calls Tryd.prog 9 #[.agg cs.toArray] w fun e w' => e = .returned (.bool (cdOk c)) ∧ Below w.heap.size w w' := by
  obtain ⟨vR, vC, vG, vI, rfl, hR, hC, hG, hM, hI⟩ := h
  obtain ⟨AR, cR, rfl, hRc, hRm, hRel⟩ := id hR
  obtain ⟨AC, cC, rfl, hCc, hCm, hCel⟩ := id hC
  obtain ⟨AG, cG, rfl, hGc, hGm, hGel⟩ := id hG
  obtain ⟨AI, cI, rfl, hIc, hIm, hIel⟩ := id hI
  unfold szCodeD at hsz
  have lR : c.routines.length ≤ 1048576 := by unfold szRow at hsz; omega
  have lC : c.records.length ≤ 1048576 := by unfold szRow at hsz; omega
  have lG : c.globals.length ≤ 1048576 := by unfold szRow at hsz; omega
  have lI : c.instrs.length ≤ 1048576 := by unfold szRow at hsz; omega
  have HTX := Lib.hid (show ∀ x ∈ c.instrs, x.text.size ≤ 1048576 from fun x hx => by
    have := szAll_mem szInstrD c.instrs x hx
    unfold szRow at hsz
    unfold szInstrD at this hsz
    omega)
  have HR := Lib.hid hR
  have HC := Lib.hid hC
  have HG := Lib.hid hG
  have HI := Lib.hid hI
  have HRE := Lib.hid hRel
  have HIE := Lib.hid hIel
  have HCE := Lib.hid hCel
  skip
  unfold maxLen at hRm hCm hGm hIm
  obtain ⟨R, hRR⟩ : ∃ R, cdOk c = R := ⟨_, rfl⟩
  rw [hRR]
  have HV := Lib.hid hRR
  have HNO := Lib.hid (cdOk_no (c := c))
  have HYES := Lib.hid (cdOk_yes (c := c))
  clear hsz hR hC hG hI hRel hCel hGel hIel hRR hM
  obtain ⟨w1, hw1⟩ : ∃ w1, w1 = w.alloc (.cells #[.slice AR c.routines.length cR, .slice AC c.records.length cC, .slice AG c.globals.length cG, .int .i64 c.main, .slice AI c.instrs.length cI] 40) := ⟨_, rfl⟩
  have HB01 := Lib.hid (show Below w.heap.size w w1 by rw [hw1]; exact (Below.refl _ _).alloc (Nat.le_refl _) _)
  have HL01 := Lib.hid (show Later w w1 by rw [hw1]; exact (Later.refl _).alloc _)
  have hbox := heap_alloc_new w (.cells #[.slice AR c.routines.length cR, .slice AC c.records.length cC, .slice AG c.globals.length cG, .int .i64 c.main, .slice AI c.instrs.length cI] 40)
  rw [← hw1] at hbox
  obtain ⟨N, hN⟩ : ∃ N, w.heap.size = N := ⟨_, rfl⟩
  rw [hN] at hbox
  have HBX := Lib.hid hbox
  have hN1 : N < w1.heap.size := (Array.getElem?_eq_some_iff.1 hbox).1
  go_enter Tryd.func9, Tryd.ntmps9
  go_upto_region 1 with (fail)
  rw [← hw1]
  try rw [hN]
  have HN := Lib.hid hN
  clear hw1 hN hbox
  obtain ⟨x0, x1, x2, x3, x4⟩ := five_cells HBX.out
  obtain ⟨p1, hp1⟩ : ∃ q : Bool, (decide ((c.routines.length : Int) < 1)) = q := ⟨_, rfl⟩
  obtain ⟨p2, hp2⟩ : ∃ q : Bool, (decide ((12 : Int) < (c.routines.length : Int))) = q := ⟨_, rfl⟩
  obtain ⟨p6, hp6⟩ : ∃ q : Bool, (decide ((8 : Int) < (c.records.length : Int))) = q := ⟨_, rfl⟩
  obtain ⟨p4, hp4⟩ : ∃ q : Bool, (decide ((c.instrs.length : Int) < 1)) = q := ⟨_, rfl⟩
  obtain ⟨p5, hp5⟩ : ∃ q : Bool, (decide ((60000 : Int) < (c.instrs.length : Int))) = q := ⟨_, rfl⟩
  cases p1
  rotate_left 1
  · skip
    have hR0 : R = false := by rw [← HV.out]; exact HNO.out (.inl (by have := of_decide_eq_true hp1; omega))
    subst hR0
    go_wp2_with fail
    go_ret
    exact ⟨rfl, HB01.out.trans (Below.mono (Below.refl _ _) HB01.out.size)⟩
  cases p2
  rotate_left 1
  · skip
    have hR0 : R = false := by rw [← HV.out]; exact HNO.out (.inr (.inl (by have := of_decide_eq_true hp2; omega)))
    subst hR0
    go_wp2_with fail
    go_ret
    exact ⟨rfl, HB01.out.trans (Below.mono (Below.refl _ _) HB01.out.size)⟩
  cases p6
  rotate_left 1
  · skip
    have hR0 : R = false := by rw [← HV.out]; exact HNO.out (.inr (.inr (.inl (by have := of_decide_eq_true hp6; omega))))
    subst hR0
    go_wp2_with fail
    go_ret
    exact ⟨rfl, HB01.out.trans (Below.mono (Below.refl _ _) HB01.out.size)⟩
  have HQ1 := Lib.hid (show ¬ c.routines.length < 1 by have := of_decide_eq_false hp1; omega)
  have HQ2 := Lib.hid (show ¬ 12 < c.routines.length by have := of_decide_eq_false hp2; omega)
  have HQ3 := Lib.hid (show ¬ 8 < c.records.length by have := of_decide_eq_false hp6; omega)
  have HAN := Lib.hid (l7NamesOk_any c.globals _ 12 F w1 (HG.out.later strEl_is HL01.out))
  obtain ⟨v3, hv3⟩ : ∃ q : Bool, c.globals.all isNm = q := ⟨_, rfl⟩
  obtain ⟨p3, hp3⟩ : ∃ q : Bool, decide ((c.globals.length : Int) ≤ 12) = q := ⟨_, rfl⟩
  rw [hv3, hp3] at HAN
  go_wp2_with fail
  refine HAN.out.mono ?_
  rintro e y1 ⟨rfl, hb1⟩
  have HX1 := Lib.hid (show Later w1 y1 from hb1)
  clear hb1 x0 x1 x2 x3 x4 HAN
  obtain ⟨x0, x1, x2, x3, x4⟩ := five_cells ((HX1.out.block _ hN1).trans HBX.out)
  cases v3
  · skip
    have hR0 : R = false := by rw [← HV.out]; exact HNO.out (.inr (.inr (.inr (.inr (.inr (.inl (hv3)))))))
    subst hR0
    go_wp2_with fail
    go_ret
    exact ⟨rfl, HB01.out.trans (Below.mono HX1.out HB01.out.size)⟩
  cases p3
  · skip
    have hR0 : R = false := by rw [← HV.out]; exact HNO.out (.inr (.inr (.inr (.inr (.inl (by have := of_decide_eq_false hp3; omega))))))
    subst hR0
    go_wp2_with fail
    go_ret
    exact ⟨rfl, HB01.out.trans (Below.mono HX1.out HB01.out.size)⟩
  have HQ6 := Lib.hid hv3
  have HQ5 := Lib.hid (show ¬ 12 < c.globals.length by have := of_decide_eq_true hp3; omega)
  obtain ⟨q1, hq1⟩ : ∃ q : Bool, decide (0 ≤ c.main) = q := ⟨_, rfl⟩
  obtain ⟨q2, hq2⟩ : ∃ q : Bool, decide (c.main < (c.routines.length : Int)) = q := ⟨_, rfl⟩
  go_wp2_with fail
  refine (l1In_any _ _ _ _).mono ?_
  rintro e w' ⟨rfl, hw⟩
  obtain rfl := hw.symm
  rw [in_inB, inB, hq1, hq2]
  cases q1
  · skip
    have hR0 : R = false := by rw [← HV.out]; exact HNO.out (.inr (.inr (.inr (.inr (.inr (.inr (.inr (.inr (.inr (.inl (main_no (.inl (by have := of_decide_eq_false hq1; omega)))))))))))))
    subst hR0
    go_wp2_with fail
    go_ret
    exact ⟨rfl, HB01.out.trans (Below.mono HX1.out HB01.out.size)⟩
  cases q2
  · skip
    have hR0 : R = false := by rw [← HV.out]; exact HNO.out (.inr (.inr (.inr (.inr (.inr (.inr (.inr (.inr (.inr (.inl (main_no (.inr (by have := of_decide_eq_false hq2; omega)))))))))))))
    subst hR0
    go_wp2_with fail
    go_ret
    exact ⟨rfl, HB01.out.trans (Below.mono HX1.out HB01.out.size)⟩
  have hm0 := of_decide_eq_true hq1
  have hm1 := of_decide_eq_true hq2
  obtain ⟨k, hk⟩ : ∃ k : Nat, c.main = (k : Int) := ⟨c.main.toNat, by omega⟩
  have hkl : k < c.routines.length := by omega
  have hkl' : (k : Int) < c.routines.length := by omega
  obtain ⟨b, o, cs, rfl, hF, hbl, hE, hcell⟩ := HRE.out k hkl
  obtain ⟨rfl, _, _, _, _⟩ := hE
  have hl0 : Later w y1 := HL01.out.trans HX1.out
  have e1 := (hl0.cell ⟨b, o + k * 4 + 1, none⟩ hbl).trans (hcell 1 _ rfl)
  have HMA := Lib.hid (main_at hk hkl)
  obtain ⟨pm, hpm⟩ : ∃ pm, c.routines[k].params = pm := ⟨_, rfl⟩
  rw [hpm] at e1 HMA
  obtain ⟨q3, hq3⟩ : ∃ q : Bool, (pm != 0) = q := ⟨_, rfl⟩
  rw [show (pm == 0) = !q3 by rw [← hq3]; simp [bne]] at HMA
  clear hcell hpm hl0
  cases q3
  rotate_left 1
  · skip
    have hR0 : R = false := by rw [← HV.out]; exact HNO.out (.inr (.inr (.inr (.inr (.inr (.inr (.inr (.inr (.inr (.inl (HMA.out)))))))))))
    subst hR0
    go_wp2_with fail
    go_ret
    exact ⟨rfl, HB01.out.trans (Below.mono HX1.out HB01.out.size)⟩
  have HMN := Lib.hid HMA.out
  cases p4
  rotate_left 1
  · skip
    have hR0 : R = false := by rw [← HV.out]; exact HNO.out (.inr (.inr (.inr (.inr (.inr (.inr (.inl (by have := of_decide_eq_true hp4; omega))))))))
    subst hR0
    go_wp2_with fail
    go_ret
    exact ⟨rfl, HB01.out.trans (Below.mono HX1.out HB01.out.size)⟩
  cases p5
  rotate_left 1
  · skip
    have hR0 : R = false := by rw [← HV.out]; exact HNO.out (.inr (.inr (.inr (.inr (.inr (.inr (.inr (.inl (by have := of_decide_eq_true hp5; omega)))))))))
    subst hR0
    go_wp2_with fail
    go_ret
    exact ⟨rfl, HB01.out.trans (Below.mono HX1.out HB01.out.size)⟩
  have HQ7 := Lib.hid (show ¬ c.instrs.length < 1 by have := of_decide_eq_false hp4; omega)
  have HQ8 := Lib.hid (show ¬ 60000 < c.instrs.length by have := of_decide_eq_false hp5; omega)
  clear HC HG HI hv3 hbl hF
  go_wp2_with fail
  go_loopw [3] (fun i wr => ∃ j : Nat, i = .int .i64 j ∧ j ≤ c.records.length ∧ Hid (∀ k (h : k < c.records.length), k < j → recOk c.records[k] = true) ∧ Below w1.heap.size w1 wr) (fun i _ => c.records.length - (intOf i).toNat)
  case atStart => exact ⟨0, rfl, Nat.zero_le _, Lib.hid (fun k _ h => by omega), HX1.out⟩
  case round =>
  clear x0 x1 x2 x3 x4 e1
  obtain ⟨j, rfl, hj, HD, hbel⟩ := hrel
  obtain ⟨x0, x1, x2, x3, x4⟩ := five_cells ((hbel.block _ hN1).trans HBX.out)
  by_cases hlt : j < c.records.length
  · obtain ⟨b, o, cs, rfl, hF, hbl, hE, hcell⟩ := HCE.out j hlt
    have hl0 : Later w wr := HL01.out.trans hbel
    have hE2 := recordTypeEl_is.keep (G := F) hE (fun _ h => h) (Keeps.later hl0)
    obtain ⟨vf, rfl, hnm, hfl, hln⟩ := hE
    obtain ⟨vf', e, hnm', hfl', hln'⟩ := hE2
    simp only [List.cons.injEq, true_and, and_true] at e
    subst e
    obtain ⟨AF, cF, rfl, hfc, hfm, _⟩ := id hfl
    unfold maxLen at hfm
    have t1 : decide ((j : Int) < c.records.length) = true := decide_eq_true (by omega)
    have hlt' : (j : Int) < c.records.length := by omega
    have e0 := (hl0.cell ⟨b, o + j * 3 + 0, none⟩ hbl).trans (hcell 0 _ rfl)
    have e1 := (hl0.cell ⟨b, o + j * 3 + 1, none⟩ hbl).trans (hcell 1 _ rfl)
    have e2 := (hl0.cell ⟨b, o + j * 3 + 2, none⟩ hbl).trans (hcell 2 _ rfl)
    simp only [Nat.add_zero] at e0
    have HNO1 := Lib.hid (fun h => HNO.out (.inr (.inr (.inr (.inl (all_not (p := recOk) hlt h))))))
    have HYES1 := Lib.hid (fun (h : recOk c.records[j] = true) => all_step HD.out (fun _ => h))
    have HREC := Lib.hid (show ∀ r, c.records[j] = r → recOk r = (isNm r.name && (decide (r.fields.length ≤ 6) && (r.fields.all isNm && (!twB r.fields && decide (0 ≤ r.line))))) from fun _ _ => rfl)
    obtain ⟨r, hrj⟩ : ∃ r, c.records[j] = r := ⟨_, rfl⟩
    have hrec := HREC.out r hrj
    rw [hrj] at e0 e1 e2 HNO1 HYES1 hnm hfl' hfc
    clear hcell hnm' hfl hln hln' hrj HREC hfm hl0
    have hx := Below.alloc hbel hbel.size (.cells #[.string r.name, .slice AF r.fields.length cF, .int .i64 r.line] 63)
    have hD := heap_alloc_new wr (.cells #[.string r.name, .slice AF r.fields.length cF, .int .i64 r.line] 63)
    obtain ⟨x, hxw⟩ : ∃ x, x = wr.alloc (.cells #[.string r.name, .slice AF r.fields.length cF, .int .i64 r.line] 63) := ⟨_, rfl⟩
    have HFL := Lib.hid (hfl'.later strEl_is (show Later wr x by rw [hxw]; exact (Later.refl _).alloc _))
    rw [← hxw] at hx hD
    have HX := Lib.hid (show Later w1 x from hx)
    have HDB := Lib.hid hD
    have HN0 := Lib.hid (specIsName_any r.name x hnm)
    obtain ⟨D, hDD⟩ : ∃ D, wr.heap.size = D := ⟨_, rfl⟩
    rw [hDD] at HDB
    obtain ⟨n0, hn0⟩ : ∃ q : Bool, isNm r.name = q := ⟨_, rfl⟩
    obtain ⟨n1, hn1⟩ : ∃ q : Bool, decide (r.fields.length ≤ 6) = q := ⟨_, rfl⟩
    obtain ⟨n2, hn2⟩ : ∃ q : Bool, r.fields.all isNm = q := ⟨_, rfl⟩
    obtain ⟨n3, hn3⟩ : ∃ q : Bool, twB r.fields = q := ⟨_, rfl⟩
    obtain ⟨n4, hn4⟩ : ∃ q : Bool, decide (r.line < 0) = q := ⟨_, rfl⟩
    rw [hn0, hn1, hn2, hn3, show decide (0 ≤ r.line) = !n4 by rw [← hn4]; exact not_neg_dec] at hrec
    rw [hn0] at HN0
    have hn1' : decide ((r.fields.length : Int) ≤ 6) = n1 := by rw [← hn1]; exact decide_eq_decide.2 (by omega)
    have HN1 := Lib.hid hn1'
    have HREC := Lib.hid hrec
    clear hx hD hnm hfl' hrec hn1 hn1'
    go_upto_region 7 with (fail)
    rw [← hxw]
    try rw [hDD]
    clear e0 e1 e2 hxw hDD
    obtain ⟨d0, d1, d2⟩ := rc_cells HDB.out
    go_wp2_with fail
    refine HN0.out.mono ?_
    rintro e y5 ⟨rfl, hb5⟩
    have HF1 := Lib.hid (HFL.out.later strEl_is hb5)
    have HX5 := Lib.hid (show Later w1 y5 from HX.out.trans hb5)
    have HD5 := Lib.hid ((Below.block hb5 _ (Array.getElem?_eq_some_iff.1 HDB.out).1).trans HDB.out)
    clear hb5 d0 d1 d2
    obtain ⟨d0, d1, d2⟩ := rc_cells HD5.out
    obtain ⟨x0, x1, x2, x3, x4⟩ := five_cells ((HX5.out.block _ hN1).trans HBX.out)
    cases n0
    · skip
      have hR0 : R = false := by rw [← HV.out]; exact HNO1.out (by rw [HREC.out]; simp)
      subst hR0
      go_wp2_with fail
      go_ret
      exact ⟨rfl, HB01.out.trans (Below.mono HX5.out HB01.out.size)⟩
    have HA := Lib.hid (l7NamesOk_any r.fields _ 6 F y5 HF1.out)
    rw [hn2, HN1.out] at HA
    go_wp2_with fail
    refine HA.out.mono ?_
    rintro e y6 ⟨rfl, hb6⟩
    have HF2 := Lib.hid (HF1.out.later strEl_is hb6)
    have HX6 := Lib.hid (show Later w1 y6 from HX5.out.trans hb6)
    have HD6 := Lib.hid ((Below.block hb6 _ (Array.getElem?_eq_some_iff.1 HD5.out).1).trans HD5.out)
    clear hb6 d0 d1 d2
    obtain ⟨d0, d1, d2⟩ := rc_cells HD6.out
    obtain ⟨x0, x1, x2, x3, x4⟩ := five_cells ((HX6.out.block _ hN1).trans HBX.out)
    clear HA
    cases n2
    · skip
      have hR0 : R = false := by rw [← HV.out]; exact HNO1.out (by rw [HREC.out]; simp)
      subst hR0
      go_wp2_with fail
      go_ret
      exact ⟨rfl, HB01.out.trans (Below.mono HX6.out HB01.out.size)⟩
    cases n1
    · skip
      have hR0 : R = false := by rw [← HV.out]; exact HNO1.out (by rw [HREC.out]; simp)
      subst hR0
      go_wp2_with fail
      go_ret
      exact ⟨rfl, HB01.out.trans (Below.mono HX6.out HB01.out.size)⟩
    have HA := Lib.hid (l9Twice_any r.fields _ F y6 HF2.out)
    rw [hn3] at HA
    go_wp2_with fail
    refine HA.out.mono ?_
    rintro e y7 ⟨rfl, hw7⟩
    obtain rfl := hw7.symm
    clear HA
    cases n3
    rotate_left 1
    · skip
      have hR0 : R = false := by rw [← HV.out]; exact HNO1.out (by rw [HREC.out]; simp)
      subst hR0
      go_wp2_with fail
      go_ret
      exact ⟨rfl, HB01.out.trans (Below.mono HX6.out HB01.out.size)⟩
    cases n4
    rotate_left 1
    · skip
      have hR0 : R = false := by rw [← HV.out]; exact HNO1.out (by rw [HREC.out]; simp)
      subst hR0
      go_wp2_with fail
      go_ret
      exact ⟨rfl, HB01.out.trans (Below.mono HX6.out HB01.out.size)⟩
    have HD4 := Lib.hid (HYES1.out (by rw [HREC.out]; rfl))
    have hbel6 := HX6.out
    go_wp2_with fail
    go_roundw
    case rel => exact ⟨j + 1, by go_num, by omega, HD4, hbel6⟩
    case measure => simp [intOf]; omega
  · have t1 : decide ((j : Int) < c.records.length) = false := decide_eq_false (by omega)
    have HQ4 := Lib.hid (all_of (p := recOk) (l := c.records) (fun k hk => HD.out k hk (by omega)))
    clear HD hj
    have hbel0 := hbel
    go_wp2_with fail
    go_loopw [5] (fun i wr => ∃ j : Nat, i = .int .i64 j ∧ j ≤ c.routines.length ∧ Hid (∀ k (h : k < c.routines.length), k < j → rtOk c.instrs.length c.routines[k] = true) ∧ Below w1.heap.size w1 wr) (fun i _ => c.routines.length - (intOf i).toNat)
    case atStart => exact ⟨0, rfl, Nat.zero_le _, Lib.hid (fun k _ h => by omega), hbel0⟩
    case round =>
    clear x0 x1 x2 x3 x4 hlt t1 hbel hbel0
    obtain ⟨j, rfl, hj, HD, hbel⟩ := hrel
    obtain ⟨x0, x1, x2, x3, x4⟩ := five_cells ((hbel.block _ hN1).trans HBX.out)
    by_cases hlt : j < c.routines.length
    · obtain ⟨b, o, cs, eA, hF, hbl, hE, hcell⟩ := HRE.out j hlt
      cases eA
      obtain ⟨rfl, hnm, _, _, _⟩ := hE
      have t1 : decide ((j : Int) < c.routines.length) = true := decide_eq_true (by omega)
      have hlt' : (j : Int) < c.routines.length := by omega
      have hl0 : Later w wr := HL01.out.trans hbel
      have e0 := (hl0.cell ⟨b, o + j * 4 + 0, none⟩ hbl).trans (hcell 0 _ rfl)
      have e1 := (hl0.cell ⟨b, o + j * 4 + 1, none⟩ hbl).trans (hcell 1 _ rfl)
      have e2 := (hl0.cell ⟨b, o + j * 4 + 2, none⟩ hbl).trans (hcell 2 _ rfl)
      have e3 := (hl0.cell ⟨b, o + j * 4 + 3, none⟩ hbl).trans (hcell 3 _ rfl)
      simp only [Nat.add_zero] at e0
      have HNO1 := Lib.hid (fun h => HNO.out (.inr (.inr (.inr (.inr (.inr (.inr (.inr (.inr (.inl (all_not (p := rtOk c.instrs.length) hlt h)))))))))))
      have HYES1 := Lib.hid (fun (h : rtOk c.instrs.length c.routines[j] = true) => all_step HD.out (fun _ => h))
      have HREC := Lib.hid (show ∀ r, c.routines[j] = r → rtOk c.instrs.length r = (isNm r.name && (decide (0 ≤ r.slots) && (decide (r.slots ≤ 24) && (decide (0 ≤ r.params) && (decide (r.params ≤ r.slots) && (decide (0 ≤ r.entry) && decide (r.entry < (c.instrs.length : Int)))))))) from fun _ _ => rfl)
      obtain ⟨r, hrj⟩ : ∃ r, c.routines[j] = r := ⟨_, rfl⟩
      have hrec := HREC.out r hrj
      rw [hrj] at e0 e1 e2 e3 HNO1 HYES1 hnm
      clear hcell hrj HREC hl0
      have hx := Below.alloc hbel hbel.size (.cells #[.string r.name, .int .i64 r.params, .int .i64 r.slots, .int .i64 r.entry] 61)
      have hD := heap_alloc_new wr (.cells #[.string r.name, .int .i64 r.params, .int .i64 r.slots, .int .i64 r.entry] 61)
      obtain ⟨x, hxw⟩ : ∃ x, x = wr.alloc (.cells #[.string r.name, .int .i64 r.params, .int .i64 r.slots, .int .i64 r.entry] 61) := ⟨_, rfl⟩
      rw [← hxw] at hx hD
      have HX := Lib.hid hx
      have HDB := Lib.hid hD
      have HN0 := Lib.hid (specIsName_any r.name x hnm)
      obtain ⟨D, hDD⟩ : ∃ D, wr.heap.size = D := ⟨_, rfl⟩
      rw [hDD] at HDB
      obtain ⟨n0, hn0⟩ : ∃ q : Bool, isNm r.name = q := ⟨_, rfl⟩
      obtain ⟨s1, hs1⟩ : ∃ q : Bool, decide (0 ≤ r.slots) = q := ⟨_, rfl⟩
      obtain ⟨s2, hs2⟩ : ∃ q : Bool, decide (r.slots ≤ 24) = q := ⟨_, rfl⟩
      obtain ⟨s3, hs3⟩ : ∃ q : Bool, decide (0 ≤ r.params) = q := ⟨_, rfl⟩
      obtain ⟨s4, hs4⟩ : ∃ q : Bool, decide (r.params ≤ r.slots) = q := ⟨_, rfl⟩
      obtain ⟨s5, hs5⟩ : ∃ q : Bool, decide (0 ≤ r.entry) = q := ⟨_, rfl⟩
      obtain ⟨s6, hs6⟩ : ∃ q : Bool, decide (r.entry < (c.instrs.length : Int)) = q := ⟨_, rfl⟩
      rw [hn0, hs1, hs2, hs3, hs4, hs5, hs6] at hrec
      rw [hn0] at HN0
      have HREC := Lib.hid hrec
      clear hx hD hnm hrec
      go_upto_region 13 with (fail)
      rw [← hxw]
      try rw [hDD]
      clear e0 e1 e2 e3 hxw hDD
      obtain ⟨d0, d1, d2, d3⟩ := rt_cells HDB.out
      go_wp2_with fail
      refine HN0.out.mono ?_
      rintro e x1 ⟨rfl, hb1⟩
      have HX1 := Lib.hid (show Later w1 x1 from HX.out.trans (Below.mono hb1 HX.out.size))
      have HD1 := Lib.hid ((Below.block hb1 _ (Array.getElem?_eq_some_iff.1 HDB.out).1).trans HDB.out)
      clear hb1 d0 d1 d2 d3 HN0
      obtain ⟨d0, d1, d2, d3⟩ := rt_cells HD1.out
      obtain ⟨x0, x1, x2, x3, x4⟩ := five_cells ((HX1.out.block _ hN1).trans HBX.out)
      cases n0
      · skip
        have hR0 : R = false := by rw [← HV.out]; exact HNO1.out (by rw [HREC.out]; simp)
        subst hR0
        go_wp2_with fail
        go_ret
        exact ⟨rfl, HB01.out.trans (Below.mono HX1.out HB01.out.size)⟩
      go_wp2_with fail
      refine (l1In_any _ _ _ _).mono ?_
      rintro e w' ⟨rfl, hw⟩
      obtain rfl := hw.symm
      rw [hs1, hs2]
      cases s1
      · skip
        have hR0 : R = false := by rw [← HV.out]; exact HNO1.out (by rw [HREC.out]; simp)
        subst hR0
        go_wp2_with fail
        go_ret
        exact ⟨rfl, HB01.out.trans (Below.mono HX1.out HB01.out.size)⟩
      cases s2
      · skip
        have hR0 : R = false := by rw [← HV.out]; exact HNO1.out (by rw [HREC.out]; simp)
        subst hR0
        go_wp2_with fail
        go_ret
        exact ⟨rfl, HB01.out.trans (Below.mono HX1.out HB01.out.size)⟩
      go_wp2_with fail
      refine (l1In_any _ _ _ _).mono ?_
      rintro e w' ⟨rfl, hw⟩
      obtain rfl := hw.symm
      rw [hs3, hs4]
      cases s3
      · skip
        have hR0 : R = false := by rw [← HV.out]; exact HNO1.out (by rw [HREC.out]; simp)
        subst hR0
        go_wp2_with fail
        go_ret
        exact ⟨rfl, HB01.out.trans (Below.mono HX1.out HB01.out.size)⟩
      cases s4
      · skip
        have hR0 : R = false := by rw [← HV.out]; exact HNO1.out (by rw [HREC.out]; simp)
        subst hR0
        go_wp2_with fail
        go_ret
        exact ⟨rfl, HB01.out.trans (Below.mono HX1.out HB01.out.size)⟩
      go_wp2_with fail
      refine (l1In_any _ _ _ _).mono ?_
      rintro e w' ⟨rfl, hw⟩
      obtain rfl := hw.symm
      rw [in_inB, inB, hs5, hs6]
      cases s5
      · skip
        have hR0 : R = false := by rw [← HV.out]; exact HNO1.out (by rw [HREC.out]; simp)
        subst hR0
        go_wp2_with fail
        go_ret
        exact ⟨rfl, HB01.out.trans (Below.mono HX1.out HB01.out.size)⟩
      cases s6
      · skip
        have hR0 : R = false := by rw [← HV.out]; exact HNO1.out (by rw [HREC.out]; simp)
        subst hR0
        go_wp2_with fail
        go_ret
        exact ⟨rfl, HB01.out.trans (Below.mono HX1.out HB01.out.size)⟩
      have HD4 := Lib.hid (HYES1.out (by rw [HREC.out]; rfl))
      have hbel1 := HX1.out
      go_wp2_with fail
      go_roundw
      case rel => exact ⟨j + 1, by go_num, by omega, HD4, hbel1⟩
      case measure => simp [intOf]; omega
    · have t1 : decide ((j : Int) < c.routines.length) = false := decide_eq_false (by omega)
      have HRT := Lib.hid (all_of (p := rtOk c.instrs.length) (l := c.routines) (fun k hk => HD.out k hk (by omega)))
      clear HD hj
      have hbel0 := hbel
      go_wp2_with fail
      go_loopw [7] (fun i wr => ∃ j : Nat, i = .int .i64 j ∧ j ≤ c.instrs.length ∧ Hid (∀ k (h : k < c.instrs.length), k < j → inOk c c.instrs[k] = true) ∧ Below w1.heap.size w1 wr) (fun i _ => c.instrs.length - (intOf i).toNat)
      case atStart => exact ⟨0, rfl, Nat.zero_le _, Lib.hid (fun k _ h => by omega), hbel0⟩
      case round =>
      clear x0 x1 x2 x3 x4 hlt t1 hbel hbel0
      obtain ⟨j, rfl, hj, HD, hbel⟩ := hrel
      obtain ⟨x0, x1, x2, x3, x4⟩ := five_cells ((hbel.block _ hN1).trans HBX.out)
      by_cases hlt : j < c.instrs.length
      · obtain ⟨b, o, cs, rfl, hF, hbl, hE, hcell⟩ := HIE.out j hlt
        obtain ⟨rfl, _, _, _, _, _⟩ := hE
        have t1 : decide ((j : Int) < c.instrs.length) = true := decide_eq_true (by omega)
        have hlt' : (j : Int) < c.instrs.length := by omega
        have hl0 : Later w wr := HL01.out.trans hbel
        have e0 := (hl0.cell ⟨b, o + j * 5 + 0, none⟩ hbl).trans (hcell 0 _ rfl)
        have e1 := (hl0.cell ⟨b, o + j * 5 + 1, none⟩ hbl).trans (hcell 1 _ rfl)
        have e2 := (hl0.cell ⟨b, o + j * 5 + 2, none⟩ hbl).trans (hcell 2 _ rfl)
        have e3 := (hl0.cell ⟨b, o + j * 5 + 3, none⟩ hbl).trans (hcell 3 _ rfl)
        have e4 := (hl0.cell ⟨b, o + j * 5 + 4, none⟩ hbl).trans (hcell 4 _ rfl)
        simp only [Nat.add_zero] at e0
        have HNO1 := Lib.hid (fun h => HNO.out (.inr (.inr (.inr (.inr (.inr (.inr (.inr (.inr (.inr (.inr (all_not (p := inOk c) hlt h))))))))))))
        have HYES1 := Lib.hid (fun (h : inOk c c.instrs[j] = true) => all_step HD.out (fun _ => h))
        have HTJ := Lib.hid (HTX.out c.instrs[j] (List.getElem_mem hlt))
        obtain ⟨r, hrj⟩ : ∃ r, c.instrs[j] = r := ⟨_, rfl⟩
        obtain ⟨q, hq⟩ : ∃ q : Bool, inOk c r = q := ⟨_, rfl⟩
        rw [hrj] at e0 e1 e2 e3 e4 HNO1 HYES1 HTJ
        rw [hq] at HNO1 HYES1
        have HQ := Lib.hid (show insOk c.routines.length c.records.length c.globals.length c.instrs.length r.op r.a r.b r.line r.text = q from hq)
        clear hcell hrj hq
        have hbr : b < wr.heap.size := Nat.lt_of_lt_of_le hbl hl0.size
        clear hl0
        obtain ⟨x0, x1, x2, x3, x4⟩ := five_cells ((hbel.block _ hN1).trans HBX.out)
        go_upto_region 18 with (fail)
        clear x0 x1 x2 x3 x4
        -- region 18: 8 operations, the last [6, 7]
        refine wpU_begin [6, 7] [] (by kernel_rfl) (fun W hW => ?_)
        have hWL : Later wr W := by rw [hW]; exact (Later.refl _).drew
        have eW0 := (hWL.cell ⟨b, o + j * 5, none⟩ hbr).trans e0
        have eW1 := (hWL.cell ⟨b, o + j * 5 + 1, none⟩ hbr).trans e1
        have eW2 := (hWL.cell ⟨b, o + j * 5 + 2, none⟩ hbr).trans e2
        have eW3 := (hWL.cell ⟨b, o + j * 5 + 3, none⟩ hbr).trans e3
        have eW4 := (hWL.cell ⟨b, o + j * 5 + 4, none⟩ hbr).trans e4
        have hbW : b < W.heap.size := Nat.lt_of_lt_of_le hbr hWL.size
        have HXW := Lib.hid (show Later w1 W from Later.trans hbel hWL)
        clear hW
        refine wpU_take 0 (some 141) (v := ?_) rfl rfl (by kernel_rfl) (fun _ _ _ h => h) rfl (fun x hx => ?_) ?_
        rotate_left 1
        · have y0 := (hx.cell ⟨b, o + j * 5, none⟩ hbW).trans eW0; have y1 := (hx.cell ⟨b, o + j * 5 + 1, none⟩ hbW).trans eW1; have y2 := (hx.cell ⟨b, o + j * 5 + 2, none⟩ hbW).trans eW2; have y3 := (hx.cell ⟨b, o + j * 5 + 3, none⟩ hbW).trans eW3; have y4 := (hx.cell ⟨b, o + j * 5 + 4, none⟩ hbW).trans eW4; obtain ⟨x0, x1, x2, x3, x4⟩ := five_cells (((HXW.out.trans hx).block _ hN1).trans HBX.out); go_simp; first | done | with_reducible rfl | rw [if_neg (by omega)] | rw [if_pos (by omega)]
        simp only [Act.put, List.setIfInBounds_toArray, List.set_cons_zero, List.set_cons_succ]
        refine wpU_take 1 (some 142) (v := ?_) rfl rfl (by kernel_rfl) (fun _ _ _ h => h) rfl (fun x hx => ?_) ?_
        rotate_left 1
        · go_simp; first | done | with_reducible rfl | rw [if_neg (by omega)] | rw [if_pos (by omega)]
        simp only [Act.put, List.setIfInBounds_toArray, List.set_cons_zero, List.set_cons_succ]
        refine wpU_take 2 (some 143) (v := ?_) rfl rfl (by kernel_rfl) (fun _ _ _ h => h) rfl (fun x hx => ?_) ?_
        rotate_left 1
        · have y0 := (hx.cell ⟨b, o + j * 5, none⟩ hbW).trans eW0; have y1 := (hx.cell ⟨b, o + j * 5 + 1, none⟩ hbW).trans eW1; have y2 := (hx.cell ⟨b, o + j * 5 + 2, none⟩ hbW).trans eW2; have y3 := (hx.cell ⟨b, o + j * 5 + 3, none⟩ hbW).trans eW3; have y4 := (hx.cell ⟨b, o + j * 5 + 4, none⟩ hbW).trans eW4; obtain ⟨x0, x1, x2, x3, x4⟩ := five_cells (((HXW.out.trans hx).block _ hN1).trans HBX.out); go_simp; first | done | with_reducible rfl | rw [if_neg (by omega)] | rw [if_pos (by omega)]
        simp only [Act.put, List.setIfInBounds_toArray, List.set_cons_zero, List.set_cons_succ]
        refine wpU_take 3 (some 144) (v := ?_) rfl rfl (by kernel_rfl) (fun _ _ _ h => h) rfl (fun x hx => ?_) ?_
        rotate_left 1
        · go_simp; first | done | with_reducible rfl | rw [if_neg (by omega)] | rw [if_pos (by omega)]
        simp only [Act.put, List.setIfInBounds_toArray, List.set_cons_zero, List.set_cons_succ]
        refine wpU_take 4 (some 145) (v := ?_) rfl rfl (by kernel_rfl) (fun _ _ _ h => h) rfl (fun x hx => ?_) ?_
        rotate_left 1
        · go_simp; first | done | with_reducible rfl | rw [if_neg (by omega)] | rw [if_pos (by omega)]
        simp only [Act.put, List.setIfInBounds_toArray, List.set_cons_zero, List.set_cons_succ]
        refine wpU_take 5 (some 146) (v := ?_) rfl rfl (by kernel_rfl) (fun _ _ _ h => h) rfl (fun x hx => ?_) ?_
        rotate_left 1
        · have y0 := (hx.cell ⟨b, o + j * 5, none⟩ hbW).trans eW0; have y1 := (hx.cell ⟨b, o + j * 5 + 1, none⟩ hbW).trans eW1; have y2 := (hx.cell ⟨b, o + j * 5 + 2, none⟩ hbW).trans eW2; have y3 := (hx.cell ⟨b, o + j * 5 + 3, none⟩ hbW).trans eW3; have y4 := (hx.cell ⟨b, o + j * 5 + 4, none⟩ hbW).trans eW4; obtain ⟨x0, x1, x2, x3, x4⟩ := five_cells (((HXW.out.trans hx).block _ hN1).trans HBX.out); go_simp; first | done | with_reducible rfl | rw [if_neg (by omega)] | rw [if_pos (by omega)]
        simp only [Act.put, List.setIfInBounds_toArray, List.set_cons_zero, List.set_cons_succ]
        refine wpU_last [_, _] (by kernel_rfl) rfl rfl ?_
        simp only [List.getElem_toArray, List.getElem_cons_succ, List.getElem_cons_zero]
        clear e0 e1 e2 e3 e4 eW0 eW1 eW2 eW3 eW4 hWL hbW hbr hbel
        go_wp2_with fail
        refine (specIn_any r.op c.routines.length c.records.length c.globals.length c.instrs.length _ _ _ _ cR cC cG cI _ r.a r.b r.line r.text W lR lC lG lI HTJ.out).mono ?_
        rintro e x1 ⟨rfl, hb1⟩
        rw [HQ.out]
        have HX1 := Lib.hid (show Later w1 x1 from HXW.out.trans hb1)
        clear hb1 HQ
        cases q
        · skip
          have hR0 : R = false := by rw [← HV.out]; exact HNO1.out rfl
          subst hR0
          go_wp2_with fail
          go_ret
          exact ⟨rfl, HB01.out.trans (Below.mono HX1.out HB01.out.size)⟩
        have HD4 := Lib.hid (HYES1.out rfl)
        have hbel1 := HX1.out
        go_wp2_with fail
        go_roundw
        case rel => exact ⟨j + 1, by go_num, by omega, HD4, hbel1⟩
        case measure => simp [intOf]; omega
      · have t1 : decide ((j : Int) < c.instrs.length) = false := decide_eq_false (by omega)
        have HIN := Lib.hid (all_of (p := inOk c) (l := c.instrs) (fun k hk => HD.out k hk (by omega)))
        have hR0 : R = true := by rw [← HV.out]; exact HYES.out HQ1.out HQ2.out HQ3.out HQ4.out HQ5.out HQ6.out HQ7.out HQ8.out HRT.out HMN.out HIN.out
        subst hR0
        go_wp2_with fail
        go_ret
        exact ⟨rfl, HB01.out.trans (Below.mono hbel HB01.out.size)⟩
      
    
end Go.Proofs.YtopaeiogbijppaaDoor
