/- impl.IsValidCode. Printed by gen_cd.py. -/
import Derived.Test.YtopaeiogbijppaaDoorCdRec
namespace Go.Proofs.YtopaeiogbijppaaDoor
open Go.RowKit

theorem five_cells {x : World} {b : Nat} {v0 v1 v2 v3 v4 : Value} {t : TypeId} (h : x.heap[b]? = some (.cells #[v0, v1, v2, v3, v4] t (0, 0))) :
    x.cell? ⟨b, 0, none⟩ = some v0 ∧ x.cell? ⟨b, 1, none⟩ = some v1 ∧ x.cell? ⟨b, 2, none⟩ = some v2 ∧ x.cell? ⟨b, 3, none⟩ = some v3 ∧ x.cell? ⟨b, 4, none⟩ = some v4 :=
  ⟨cell_of_row x b 0 _ _ _ h, cell_of_row x b 1 _ _ _ h, cell_of_row x b 2 _ _ _ h, cell_of_row x b 3 _ _ _ h, cell_of_row x b 4 _ _ _ h⟩
theorem dec_flip {a b : Prop} [Decidable a] [Decidable b] (h : a ↔ ¬ b) : decide a = !decide b := by
  by_cases hb : b
  · rw [decide_eq_true hb, decide_eq_false (fun ha => (h.1 ha) hb)]; rfl
  · rw [decide_eq_false hb, decide_eq_true (h.2 hb)]; rfl
theorem rt_cells {x : World} {b : Nat} {v0 v1 v2 v3 : Value} {t : TypeId} (h : x.heap[b]? = some (.cells #[v0, v1, v2, v3] t (0, 0))) : x.cell? ⟨b, 0, none⟩ = some v0 ∧ x.cell? ⟨b, 1, none⟩ = some v1 ∧ x.cell? ⟨b, 2, none⟩ = some v2 ∧ x.cell? ⟨b, 3, none⟩ = some v3 :=
  ⟨cell_of_row x b 0 _ _ _ h, cell_of_row x b 1 _ _ _ h, cell_of_row x b 2 _ _ _ h, cell_of_row x b 3 _ _ _ h⟩
theorem main_at {c : CodeD} {k : Nat} (hm : c.main = (k : Int)) (hk : k < c.routines.length) : mainOk c = (c.routines[k].params == 0) := by
  unfold mainOk
  rw [hm, decide_eq_true (show (0 : Int) ≤ (k : Int) by omega), decide_eq_true (show (k : Int) < c.routines.length by omega), Int.toNat_natCast, List.getD_eq_getElem?_getD, List.getElem?_map, List.getElem?_eq_getElem hk]
  rfl
theorem main_no {c : CodeD} (h : c.main < 0 ∨ (c.routines.length : Int) ≤ c.main) : mainOk c = false := by
  unfold mainOk
  rcases h with h | h
  · rw [decide_eq_false (by omega)]; rfl
  · rw [decide_eq_false (show ¬ c.main < (c.routines.length : Int) by omega), Bool.false_and, Bool.and_false]
set_option maxRecDepth 100000 in
set_option maxHeartbeats 8000000 in
theorem implIsValidCode_any (c : CodeD) (cs : List Value) (F : Nat → Prop) (w : World) (hsz : szCodeD c ≤ 1048576) (h : codeEl F w c cs) (ht : Spc w) :
    Calls Tryd.prog 11 #[.agg cs.toArray] w fun e w' => e = .returned (.bool (cdOk c)) ∧ Below w.heap.size w w' := by
  obtain ⟨vR, vC, vG, vI, rfl, hR, hC, hG, hM, hI⟩ := h
  obtain ⟨AR, cR, rfl, hRc, hRm, hRel⟩ := id hR
  obtain ⟨AC, cC, rfl, hCc, hCm, hCel⟩ := id hC
  obtain ⟨AG, cG, rfl, hGc, hGm, hGel⟩ := id hG
  obtain ⟨AI, cI, rfl, hIc, hIm, hIel⟩ := id hI
  unfold szCodeD at hsz
  have lR : c.routines.length ≤ 1048576 := by unfold szRow at hsz; omega
  have lC : c.records.length ≤ 1048576 := by unfold szRow at hsz; omega
  have lG : c.globals.length ≤ 1048576 := by unfold szRow at hsz; omega
  have lI : c.instrs.length ≤ 1048576 := by unfold szRow at hsz; omega
  have HTX := Lib.hid (show ∀ x ∈ c.instrs, x.text.size ≤ 1048576 from fun x hx => by
    have := szAll_mem szInstrD c.instrs x hx
    unfold szRow at hsz
    unfold szInstrD at this hsz
    omega)
  have HR := Lib.hid hR
  have HC := Lib.hid hC
  have HG := Lib.hid hG
  have HI := Lib.hid hI
  have HRE := Lib.hid hRel
  have HIE := Lib.hid hIel
  skip
  have HT := Lib.hid ht
  unfold maxLen at hRm hCm hGm hIm
  obtain ⟨R, hRR⟩ : ∃ R, cdOk c = R := ⟨_, rfl⟩
  rw [hRR]
  have HV := Lib.hid hRR
  have HNO := Lib.hid (cdOk_no (c := c))
  have HYES := Lib.hid (cdOk_yes (c := c))
  clear hsz hR hC hG hI hRel hCel hGel hIel hRR hM ht
  obtain ⟨w1, hw1⟩ : ∃ w1, w1 = w.alloc (.cells #[.slice AR c.routines.length cR, .slice AC c.records.length cC, .slice AG c.globals.length cG, .int .i64 c.main, .slice AI c.instrs.length cI] 40) := ⟨_, rfl⟩
  have HB01 := Lib.hid (show Below w.heap.size w w1 by rw [hw1]; exact (Below.refl _ _).alloc (Nat.le_refl _) _)
  have HL01 := Lib.hid (show Later w w1 by rw [hw1]; exact (Later.refl _).alloc _)
  have hbox := heap_alloc_new w (.cells #[.slice AR c.routines.length cR, .slice AC c.records.length cC, .slice AG c.globals.length cG, .int .i64 c.main, .slice AI c.instrs.length cI] 40)
  rw [← hw1] at hbox
  obtain ⟨N, hN⟩ : ∃ N, w.heap.size = N := ⟨_, rfl⟩
  rw [hN] at hbox
  have HBX := Lib.hid hbox
  have hN1 : N < w1.heap.size := (Array.getElem?_eq_some_iff.1 hbox).1
  go_enter Tryd.func11, Tryd.ntmps11
  go_upto_region 1 with (fail)
  rw [← hw1]
  try rw [hN]
  have HN := Lib.hid hN
  clear hw1 hN hbox
  obtain ⟨x0, x1, x2, x3, x4⟩ := five_cells HBX.out
  obtain ⟨p1, hp1⟩ : ∃ q : Bool, (decide ((c.routines.length : Int) < 1)) = q := ⟨_, rfl⟩
  obtain ⟨p2, hp2⟩ : ∃ q : Bool, (decide ((12 : Int) < (c.routines.length : Int))) = q := ⟨_, rfl⟩
  obtain ⟨p3, hp3⟩ : ∃ q : Bool, (decide ((12 : Int) < (c.globals.length : Int))) = q := ⟨_, rfl⟩
  obtain ⟨p4, hp4⟩ : ∃ q : Bool, (decide ((c.instrs.length : Int) < 1)) = q := ⟨_, rfl⟩
  obtain ⟨p5, hp5⟩ : ∃ q : Bool, (decide ((60000 : Int) < (c.instrs.length : Int))) = q := ⟨_, rfl⟩
  cases p1
  rotate_left 1
  · skip
    have hR0 : R = false := by rw [← HV.out]; exact HNO.out (.inl (by have := of_decide_eq_true hp1; omega))
    subst hR0
    go_wp2_with fail
    go_ret
    exact ⟨rfl, HB01.out.trans (Below.mono (Below.refl _ _) HB01.out.size)⟩
  cases p2
  rotate_left 1
  · skip
    have hR0 : R = false := by rw [← HV.out]; exact HNO.out (.inr (.inl (by have := of_decide_eq_true hp2; omega)))
    subst hR0
    go_wp2_with fail
    go_ret
    exact ⟨rfl, HB01.out.trans (Below.mono (Below.refl _ _) HB01.out.size)⟩
  have HQ1 := Lib.hid (show ¬ c.routines.length < 1 by have := of_decide_eq_false hp1; omega)
  have HQ2 := Lib.hid (show ¬ 12 < c.routines.length by have := of_decide_eq_false hp2; omega)
  have HVR := Lib.hid (validRecords_any c.records _ F w1 (HC.out.later recordTypeEl_is HL01.out) (HT.out.below HB01.out))
  obtain ⟨v1, hv1⟩ : ∃ q : Bool, c.records.all recOk = q := ⟨_, rfl⟩
  obtain ⟨v2, hv2⟩ : ∃ q : Bool, decide (c.records.length ≤ 8) = q := ⟨_, rfl⟩
  rw [hv1, hv2] at HVR
  go_wp2_with fail
  refine HVR.out.mono ?_
  rintro e y1 ⟨rfl, hb1⟩
  have HX1 := Lib.hid (show Later w1 y1 from hb1)
  clear hb1 x0 x1 x2 x3 x4 HVR
  obtain ⟨x0, x1, x2, x3, x4⟩ := five_cells ((HX1.out.block _ hN1).trans HBX.out)
  cases v1
  · skip
    have hR0 : R = false := by rw [← HV.out]; exact HNO.out (.inr (.inr (.inr (.inl (hv1)))))
    subst hR0
    go_wp2_with fail
    go_ret
    exact ⟨rfl, HB01.out.trans (Below.mono HX1.out HB01.out.size)⟩
  cases v2
  · skip
    have hR0 : R = false := by rw [← HV.out]; exact HNO.out (.inr (.inr (.inl (by have := of_decide_eq_false hv2; omega))))
    subst hR0
    go_wp2_with fail
    go_ret
    exact ⟨rfl, HB01.out.trans (Below.mono HX1.out HB01.out.size)⟩
  have HQ4 := Lib.hid hv1
  have HQ3 := Lib.hid (show ¬ 8 < c.records.length by have := of_decide_eq_true hv2; omega)
  cases p3
  rotate_left 1
  · skip
    have hR0 : R = false := by rw [← HV.out]; exact HNO.out (.inr (.inr (.inr (.inr (.inl (by have := of_decide_eq_true hp3; omega))))))
    subst hR0
    go_wp2_with fail
    go_ret
    exact ⟨rfl, HB01.out.trans (Below.mono HX1.out HB01.out.size)⟩
  have HQ5 := Lib.hid (show ¬ 12 < c.globals.length by have := of_decide_eq_false hp3; omega)
  have HAN := Lib.hid (allNames_any c.globals _ F y1 (HG.out.later strEl_is (HL01.out.trans HX1.out)) (HT.out.below (HB01.out.trans (Below.mono HX1.out HB01.out.size))))
  obtain ⟨v3, hv3⟩ : ∃ q : Bool, c.globals.all isNm = q := ⟨_, rfl⟩
  rw [hv3] at HAN
  go_wp2_with fail
  refine HAN.out.mono ?_
  rintro e y2 ⟨rfl, hb2⟩
  have HX2 := Lib.hid (show Later w1 y2 from HX1.out.trans hb2)
  clear hb2 x0 x1 x2 x3 x4 HAN
  obtain ⟨x0, x1, x2, x3, x4⟩ := five_cells ((HX2.out.block _ hN1).trans HBX.out)
  cases v3
  · skip
    have hR0 : R = false := by rw [← HV.out]; exact HNO.out (.inr (.inr (.inr (.inr (.inr (.inl (hv3)))))))
    subst hR0
    go_wp2_with fail
    go_ret
    exact ⟨rfl, HB01.out.trans (Below.mono HX2.out HB01.out.size)⟩
  have HQ6 := Lib.hid hv3
  cases p4
  rotate_left 1
  · skip
    have hR0 : R = false := by rw [← HV.out]; exact HNO.out (.inr (.inr (.inr (.inr (.inr (.inr (.inl (by have := of_decide_eq_true hp4; omega))))))))
    subst hR0
    go_wp2_with fail
    go_ret
    exact ⟨rfl, HB01.out.trans (Below.mono HX2.out HB01.out.size)⟩
  cases p5
  rotate_left 1
  · skip
    have hR0 : R = false := by rw [← HV.out]; exact HNO.out (.inr (.inr (.inr (.inr (.inr (.inr (.inr (.inl (by have := of_decide_eq_true hp5; omega)))))))))
    subst hR0
    go_wp2_with fail
    go_ret
    exact ⟨rfl, HB01.out.trans (Below.mono HX2.out HB01.out.size)⟩
  have HQ7 := Lib.hid (show ¬ c.instrs.length < 1 by have := of_decide_eq_false hp4; omega)
  have HQ8 := Lib.hid (show ¬ 60000 < c.instrs.length by have := of_decide_eq_false hp5; omega)
  clear HC HG HI hv1 hv2 hv3
  go_wp2_with fail
  go_loopw [50] (fun i wr => ∃ j : Nat, i = .int .i64 j ∧ j ≤ c.routines.length ∧ Hid (∀ k (h : k < c.routines.length), k < j → rtOk c.instrs.length c.routines[k] = true) ∧ Below w1.heap.size w1 wr) (fun i _ => c.routines.length - (intOf i).toNat)
  case atStart => exact ⟨0, rfl, Nat.zero_le _, Lib.hid (fun k _ h => by omega), HX2.out⟩
  case round =>
  obtain ⟨j, rfl, hj, HD, hbel⟩ := hrel
  by_cases hlt : j < c.routines.length
  · obtain ⟨b, o, cs, eA, hF, hbl, hE, hcell⟩ := HRE.out j hlt
    cases eA
    obtain ⟨rfl, hnm, _, _, _⟩ := hE
    have t1 : decide ((j : Int) < c.routines.length) = true := decide_eq_true (by omega)
    have hlt' : (j : Int) < c.routines.length := by omega
    have hl0 : Later w wr := HL01.out.trans hbel
    have e0 := (hl0.cell ⟨b, o + j * 4 + 0, none⟩ hbl).trans (hcell 0 _ rfl)
    have e1 := (hl0.cell ⟨b, o + j * 4 + 1, none⟩ hbl).trans (hcell 1 _ rfl)
    have e2 := (hl0.cell ⟨b, o + j * 4 + 2, none⟩ hbl).trans (hcell 2 _ rfl)
    have e3 := (hl0.cell ⟨b, o + j * 4 + 3, none⟩ hbl).trans (hcell 3 _ rfl)
    simp only [Nat.add_zero] at e0
    have HNO1 := Lib.hid (fun h => HNO.out (.inr (.inr (.inr (.inr (.inr (.inr (.inr (.inr (.inl (all_not (p := rtOk c.instrs.length) hlt h)))))))))))
    have HYES1 := Lib.hid (fun (h : rtOk c.instrs.length c.routines[j] = true) => all_step HD.out (fun _ => h))
    have HREC := Lib.hid (show ∀ r, c.routines[j] = r → rtOk c.instrs.length r = (isNm r.name && (decide (0 ≤ r.slots) && (decide (r.slots ≤ 24) && (decide (0 ≤ r.params) && (decide (r.params ≤ r.slots) && (decide (0 ≤ r.entry) && decide (r.entry < (c.instrs.length : Int)))))))) from fun _ _ => rfl)
    obtain ⟨r, hrj⟩ : ∃ r, c.routines[j] = r := ⟨_, rfl⟩
    have hrec := HREC.out r hrj
    rw [hrj] at e0 e1 e2 e3 HNO1 HYES1 hnm
    clear hcell hrj HREC hl0
    have hx := Below.alloc hbel hbel.size (.cells #[.string r.name, .int .i64 r.params, .int .i64 r.slots, .int .i64 r.entry] 61)
    have hD := heap_alloc_new wr (.cells #[.string r.name, .int .i64 r.params, .int .i64 r.slots, .int .i64 r.entry] 61)
    obtain ⟨x, hxw⟩ : ∃ x, x = wr.alloc (.cells #[.string r.name, .int .i64 r.params, .int .i64 r.slots, .int .i64 r.entry] 61) := ⟨_, rfl⟩
    rw [← hxw] at hx hD
    have HX := Lib.hid hx
    have HDB := Lib.hid hD
    have HN0 := Lib.hid (implIsName_any r.name x hnm (HT.out.below (HB01.out.trans (Below.mono hx HB01.out.size))))
    obtain ⟨D, hDD⟩ : ∃ D, wr.heap.size = D := ⟨_, rfl⟩
    rw [hDD] at HDB
    obtain ⟨n0, hn0⟩ : ∃ q : Bool, isNm r.name = q := ⟨_, rfl⟩
    obtain ⟨s1, hs1⟩ : ∃ q : Bool, decide (r.slots < 0) = q := ⟨_, rfl⟩
    obtain ⟨s2, hs2⟩ : ∃ q : Bool, decide (24 < r.slots) = q := ⟨_, rfl⟩
    obtain ⟨s3, hs3⟩ : ∃ q : Bool, decide (r.params < 0) = q := ⟨_, rfl⟩
    obtain ⟨s4, hs4⟩ : ∃ q : Bool, decide (r.slots < r.params) = q := ⟨_, rfl⟩
    obtain ⟨s5, hs5⟩ : ∃ q : Bool, decide (r.entry < 0) = q := ⟨_, rfl⟩
    obtain ⟨s6, hs6⟩ : ∃ q : Bool, decide ((c.instrs.length : Int) ≤ r.entry) = q := ⟨_, rfl⟩
    rw [hn0, show decide (0 ≤ r.slots) = !s1 by rw [← hs1]; exact dec_flip (by omega), show decide (r.slots ≤ 24) = !s2 by rw [← hs2]; exact dec_flip (by omega), show decide (0 ≤ r.params) = !s3 by rw [← hs3]; exact dec_flip (by omega), show decide (r.params ≤ r.slots) = !s4 by rw [← hs4]; exact dec_flip (by omega), show decide (0 ≤ r.entry) = !s5 by rw [← hs5]; exact dec_flip (by omega), show decide (r.entry < (c.instrs.length : Int)) = !s6 by rw [← hs6]; exact dec_flip (by omega)] at hrec
    rw [hn0] at HN0
    have HREC := Lib.hid hrec
    clear hx hD hnm hrec
    go_upto_region 6 with (fail)
    rw [← hxw]
    try rw [hDD]
    clear e0 e1 e2 e3 hxw hDD
    obtain ⟨d0, d1, d2, d3⟩ := rt_cells HDB.out
    go_wp2_with fail
    refine HN0.out.mono ?_
    rintro e x1 ⟨rfl, hb1⟩
    have HX1 := Lib.hid (show Later w1 x1 from HX.out.trans (Below.mono hb1 HX.out.size))
    have HD1 := Lib.hid ((Below.block hb1 _ (Array.getElem?_eq_some_iff.1 HDB.out).1).trans HDB.out)
    clear hb1 d0 d1 d2 d3 HN0
    obtain ⟨d0, d1, d2, d3⟩ := rt_cells HD1.out
    obtain ⟨x0, x1, x2, x3, x4⟩ := five_cells ((HX1.out.block _ hN1).trans HBX.out)
    cases n0
    · skip
      have hR0 : R = false := by rw [← HV.out]; exact HNO1.out (by rw [HREC.out]; simp)
      subst hR0
      go_wp2_with fail
      go_ret
      exact ⟨rfl, HB01.out.trans (Below.mono HX1.out HB01.out.size)⟩
    cases s1
    rotate_left 1
    · skip
      have hR0 : R = false := by rw [← HV.out]; exact HNO1.out (by rw [HREC.out]; simp)
      subst hR0
      go_wp2_with fail
      go_ret
      exact ⟨rfl, HB01.out.trans (Below.mono HX1.out HB01.out.size)⟩
    cases s2
    rotate_left 1
    · skip
      have hR0 : R = false := by rw [← HV.out]; exact HNO1.out (by rw [HREC.out]; simp)
      subst hR0
      go_wp2_with fail
      go_ret
      exact ⟨rfl, HB01.out.trans (Below.mono HX1.out HB01.out.size)⟩
    cases s3
    rotate_left 1
    · skip
      have hR0 : R = false := by rw [← HV.out]; exact HNO1.out (by rw [HREC.out]; simp)
      subst hR0
      go_wp2_with fail
      go_ret
      exact ⟨rfl, HB01.out.trans (Below.mono HX1.out HB01.out.size)⟩
    cases s4
    rotate_left 1
    · skip
      have hR0 : R = false := by rw [← HV.out]; exact HNO1.out (by rw [HREC.out]; simp)
      subst hR0
      go_wp2_with fail
      go_ret
      exact ⟨rfl, HB01.out.trans (Below.mono HX1.out HB01.out.size)⟩
    cases s5
    rotate_left 1
    · skip
      have hR0 : R = false := by rw [← HV.out]; exact HNO1.out (by rw [HREC.out]; simp)
      subst hR0
      go_wp2_with fail
      go_ret
      exact ⟨rfl, HB01.out.trans (Below.mono HX1.out HB01.out.size)⟩
    cases s6
    rotate_left 1
    · skip
      have hR0 : R = false := by rw [← HV.out]; exact HNO1.out (by rw [HREC.out]; simp)
      subst hR0
      go_wp2_with fail
      go_ret
      exact ⟨rfl, HB01.out.trans (Below.mono HX1.out HB01.out.size)⟩
    have HD4 := Lib.hid (HYES1.out (by rw [HREC.out]; rfl))
    have hbel1 := HX1.out
    go_wp2_with fail
    go_roundw
    case rel => exact ⟨j + 1, by go_num, by omega, HD4, hbel1⟩
    case measure => simp [intOf]; omega
  · have t1 : decide ((j : Int) < c.routines.length) = false := decide_eq_false (by omega)
    have HRT := Lib.hid (all_of (p := rtOk c.instrs.length) (l := c.routines) (fun k hk => HD.out k hk (by omega)))
    clear HD hj
    obtain ⟨x0, x1, x2, x3, x4⟩ := five_cells ((hbel.block _ hN1).trans HBX.out)
    obtain ⟨q1, hq1⟩ : ∃ q : Bool, decide (c.main < 0) = q := ⟨_, rfl⟩
    obtain ⟨q2, hq2⟩ : ∃ q : Bool, decide ((c.routines.length : Int) ≤ c.main) = q := ⟨_, rfl⟩
    cases q1
    rotate_left 1
    · skip
      have hR0 : R = false := by rw [← HV.out]; exact HNO.out (.inr (.inr (.inr (.inr (.inr (.inr (.inr (.inr (.inr (.inl (main_no (.inl (of_decide_eq_true hq1)))))))))))))
      subst hR0
      go_wp2_with fail
      go_ret
      exact ⟨rfl, HB01.out.trans (Below.mono hbel HB01.out.size)⟩
    cases q2
    rotate_left 1
    · skip
      have hR0 : R = false := by rw [← HV.out]; exact HNO.out (.inr (.inr (.inr (.inr (.inr (.inr (.inr (.inr (.inr (.inl (main_no (.inr (of_decide_eq_true hq2)))))))))))))
      subst hR0
      go_wp2_with fail
      go_ret
      exact ⟨rfl, HB01.out.trans (Below.mono hbel HB01.out.size)⟩
    have hm0 := of_decide_eq_false hq1
    have hm1 := of_decide_eq_false hq2
    obtain ⟨k, hk⟩ : ∃ k : Nat, c.main = (k : Int) := ⟨c.main.toNat, by omega⟩
    have hkl : k < c.routines.length := by omega
    have hkl' : (k : Int) < c.routines.length := by omega
    obtain ⟨b, o, cs, rfl, hF, hbl, hE, hcell⟩ := HRE.out k hkl
    obtain ⟨rfl, _, _, _, _⟩ := hE
    have hl0 : Later w wr := HL01.out.trans hbel
    have e1 := (hl0.cell ⟨b, o + k * 4 + 1, none⟩ hbl).trans (hcell 1 _ rfl)
    have HMA := Lib.hid (main_at hk hkl)
    obtain ⟨pm, hpm⟩ : ∃ pm, c.routines[k].params = pm := ⟨_, rfl⟩
    rw [hpm] at e1 HMA
    obtain ⟨q3, hq3⟩ : ∃ q : Bool, (pm != 0) = q := ⟨_, rfl⟩
    rw [show (pm == 0) = !q3 by rw [← hq3]; simp [bne]] at HMA
    clear hcell hpm hl0
    cases q3
    rotate_left 1
    · skip
      have hR0 : R = false := by rw [← HV.out]; exact HNO.out (.inr (.inr (.inr (.inr (.inr (.inr (.inr (.inr (.inr (.inl (HMA.out)))))))))))
      subst hR0
      go_wp2_with fail
      go_ret
      exact ⟨rfl, HB01.out.trans (Below.mono hbel HB01.out.size)⟩
    have HMN := Lib.hid HMA.out
    have hbel0 := hbel
    go_upto_region 12 with (fail)
    clear x0 x1 x2 x3 x4 e1
    go_loopw [118] (fun i wr => ∃ j : Nat, i = .int .i64 j ∧ j ≤ c.instrs.length ∧ Hid (∀ k (h : k < c.instrs.length), k < j → inOk c c.instrs[k] = true) ∧ Below w1.heap.size w1 wr) (fun i _ => c.instrs.length - (intOf i).toNat)
    case atStart => exact ⟨0, rfl, Nat.zero_le _, Lib.hid (fun k _ h => by omega), hbel0⟩
    case round =>
    obtain ⟨j, rfl, hj, HD, hbel⟩ := hrel
    by_cases hlt : j < c.instrs.length
    · obtain ⟨b, o, cs, rfl, hF, hbl, hE, hcell⟩ := HIE.out j hlt
      obtain ⟨rfl, _, _, _, _, _⟩ := hE
      have t1 : decide ((j : Int) < c.instrs.length) = true := decide_eq_true (by omega)
      have hlt' : (j : Int) < c.instrs.length := by omega
      have hl0 : Later w wr := HL01.out.trans hbel
      have e0 := (hl0.cell ⟨b, o + j * 5 + 0, none⟩ hbl).trans (hcell 0 _ rfl)
      have e1 := (hl0.cell ⟨b, o + j * 5 + 1, none⟩ hbl).trans (hcell 1 _ rfl)
      have e2 := (hl0.cell ⟨b, o + j * 5 + 2, none⟩ hbl).trans (hcell 2 _ rfl)
      have e3 := (hl0.cell ⟨b, o + j * 5 + 3, none⟩ hbl).trans (hcell 3 _ rfl)
      have e4 := (hl0.cell ⟨b, o + j * 5 + 4, none⟩ hbl).trans (hcell 4 _ rfl)
      simp only [Nat.add_zero] at e0
      have HNO1 := Lib.hid (fun h => HNO.out (.inr (.inr (.inr (.inr (.inr (.inr (.inr (.inr (.inr (.inr (all_not (p := inOk c) hlt h))))))))))))
      have HYES1 := Lib.hid (fun (h : inOk c c.instrs[j] = true) => all_step HD.out (fun _ => h))
      have HTJ := Lib.hid (HTX.out c.instrs[j] (List.getElem_mem hlt))
      obtain ⟨r, hrj⟩ : ∃ r, c.instrs[j] = r := ⟨_, rfl⟩
      obtain ⟨q, hq⟩ : ∃ q : Bool, inOk c r = q := ⟨_, rfl⟩
      rw [hrj] at e0 e1 e2 e3 e4 HNO1 HYES1 HTJ
      rw [hq] at HNO1 HYES1
      have HQ := Lib.hid (show insOk c.routines.length c.records.length c.globals.length c.instrs.length r.op r.a r.b r.line r.text = q from hq)
      clear hcell hrj hq
      have hx := Below.alloc hbel hbel.size (.cells #[.int .i64 r.op, .int .i64 r.a, .int .i64 r.b, .int .i64 r.line, .string r.text] 23)
      have hD := heap_alloc_new wr (.cells #[.int .i64 r.op, .int .i64 r.a, .int .i64 r.b, .int .i64 r.line, .string r.text] 23)
      obtain ⟨x, hxw⟩ : ∃ x, x = wr.alloc (.cells #[.int .i64 r.op, .int .i64 r.a, .int .i64 r.b, .int .i64 r.line, .string r.text] 23) := ⟨_, rfl⟩
      rw [← hxw] at hx hD
      have HX := Lib.hid (show Later w1 x from hx)
      have HDB := Lib.hid hD
      obtain ⟨D, hDD⟩ : ∃ D, wr.heap.size = D := ⟨_, rfl⟩
      rw [hDD] at HDB
      clear hx hD hl0
      go_upto_region 14 with (fail)
      rw [← hxw]
      try rw [hDD]
      clear e0 e1 e2 e3 e4 hxw hDD
      obtain ⟨d0, d1, d2, d3, d4⟩ := five_cells HDB.out
      obtain ⟨x0, x1, x2, x3, x4⟩ := five_cells ((HX.out.block _ hN1).trans HBX.out)
      go_wp2_with fail
      refine (implIn_any r.op c.routines.length c.records.length c.globals.length c.instrs.length _ _ _ _ cR cC cG cI _ r.a r.b r.line r.text x lR lC lG lI HTJ.out (HT.out.below (HB01.out.trans (Below.mono HX.out HB01.out.size)))).mono ?_
      rintro e x1 ⟨rfl, hb1⟩
      rw [HQ.out]
      have HX1 := Lib.hid (show Later w1 x1 from HX.out.trans hb1)
      clear hb1 d0 d1 d2 d3 d4 HQ
      cases q
      · skip
        have hR0 : R = false := by rw [← HV.out]; exact HNO1.out rfl
        subst hR0
        go_wp2_with fail
        go_ret
        exact ⟨rfl, HB01.out.trans (Below.mono HX1.out HB01.out.size)⟩
      have HD4 := Lib.hid (HYES1.out rfl)
      have hbel1 := HX1.out
      go_wp2_with fail
      go_roundw
      case rel => exact ⟨j + 1, by go_num, by omega, HD4, hbel1⟩
      case measure => simp [intOf]; omega
    · have t1 : decide ((j : Int) < c.instrs.length) = false := decide_eq_false (by omega)
      have HIN := Lib.hid (all_of (p := inOk c) (l := c.instrs) (fun k hk => HD.out k hk (by omega)))
      have hR0 : R = true := by rw [← HV.out]; exact HYES.out HQ1.out HQ2.out HQ3.out HQ4.out HQ5.out HQ6.out HQ7.out HQ8.out HRT.out HMN.out HIN.out
      subst hR0
      go_wp2_with fail
      go_ret
      exact ⟨rfl, HB01.out.trans (Below.mono hbel HB01.out.size)⟩
    
end Go.Proofs.YtopaeiogbijppaaDoor
