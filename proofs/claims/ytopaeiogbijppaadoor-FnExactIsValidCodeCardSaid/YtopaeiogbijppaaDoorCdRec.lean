/- impl.validRecords. Printed by gen_cd.py. -/
import Derived.Test.YtopaeiogbijppaaDoorCdOk
namespace Go.Proofs.YtopaeiogbijppaaDoor
open Go.RowKit

theorem not_lt_dec {n : Nat} : decide (n ≤ 6) = !decide ((6 : Int) < (n : Int)) := by
  by_cases h : n ≤ 6
  · rw [decide_eq_true h, decide_eq_false (by omega)]; rfl
  · rw [decide_eq_false h, decide_eq_true (by omega)]; rfl
theorem not_neg_dec {n : Int} : decide (0 ≤ n) = !decide (n < 0) := by
  by_cases h : 0 ≤ n
  · rw [decide_eq_true h, decide_eq_false (by omega)]; rfl
  · rw [decide_eq_false h, decide_eq_true (by omega)]; rfl
theorem rc_cells {x : World} {b : Nat} {v0 v1 v2 : Value} {t : TypeId} (h : x.heap[b]? = some (.cells #[v0, v1, v2] t (0, 0))) : x.cell? ⟨b, 0, none⟩ = some v0 ∧ x.cell? ⟨b, 1, none⟩ = some v1 ∧ x.cell? ⟨b, 2, none⟩ = some v2 :=
  ⟨cell_of_row x b 0 _ _ _ h, cell_of_row x b 1 _ _ _ h, cell_of_row x b 2 _ _ _ h⟩
set_option maxRecDepth 100000 in
set_option maxHeartbeats 4000000 in
theorem validRecords_any (l : List RecordTypeD) (v : Value) (F : Nat → Prop) (w : World) (hr : RowIs recordTypeEl 3 F w l v) (ht : Spc w) : Calls Tryd.prog 38 #[v] w fun e w' => e = .returned (.bool (l.all recOk && decide (l.length ≤ 8))) ∧ Below w.heap.size w w' := by
  obtain ⟨A, c, rfl, hc, hcm, hel⟩ := hr
  unfold maxLen at hcm
  have HEL := Lib.hid hel
  obtain ⟨R, hR⟩ : ∃ R, (l.all recOk && decide (l.length ≤ 8)) = R := ⟨_, rfl⟩
  rw [hR]
  have HR := Lib.hid hR
  have HT := Lib.hid ht
  clear hR hel ht
  go_enter Tryd.func38, Tryd.ntmps38
  go_wp2_with fail
  go_loopw [7] (fun i wr => ∃ j : Nat, i = .int .i64 j ∧ j ≤ l.length ∧ Hid (∀ k (h : k < l.length), k < j → recOk l[k] = true) ∧ Below w.heap.size w wr) (fun i _ => l.length - (intOf i).toNat)
  case atStart => exact ⟨0, rfl, Nat.zero_le _, Lib.hid (fun k _ h => by omega), Below.refl _ _⟩
  case round =>
    obtain ⟨j, rfl, hj, HD, hbel⟩ := hrel
    have hsz := hbel.size
    by_cases hlt : j < l.length
    · obtain ⟨b, o, cs, rfl, hF, hbl, hE, hcell⟩ := HEL.out j hlt
      have hE2 := recordTypeEl_is.keep (G := F) hE (fun _ h => h) (Keeps.later hbel)
      obtain ⟨vf, rfl, hnm, hfl, hln⟩ := hE
      obtain ⟨vf', e, hnm', hfl', hln'⟩ := hE2
      simp only [List.cons.injEq, true_and, and_true] at e
      subst e
      obtain ⟨AF, cF, rfl, hfc, hfm, _⟩ := id hfl
      unfold maxLen at hfm
      have t1 : decide ((j : Int) < l.length) = true := decide_eq_true (by omega)
      have hlt' : (j : Int) < l.length := by omega
      have e0 := (hbel.cell (p := ⟨b, o + j * 3 + 0, none⟩) hbl).trans (hcell 0 _ rfl)
      have e1 := (hbel.cell (p := ⟨b, o + j * 3 + 1, none⟩) hbl).trans (hcell 1 _ rfl)
      have e2 := (hbel.cell (p := ⟨b, o + j * 3 + 2, none⟩) hbl).trans (hcell 2 _ rfl)
      simp only [Nat.add_zero] at e0
      have HNO := Lib.hid (fun h => all_not (p := recOk) hlt h)
      have HYES := Lib.hid (fun (h : recOk l[j] = true) => all_step HD.out (fun _ => h))
      have HREC := Lib.hid (show ∀ r, l[j] = r → recOk r = (isNm r.name && (decide (r.fields.length ≤ 6) && (r.fields.all isNm && (!twB r.fields && decide (0 ≤ r.line))))) from fun _ _ => rfl)
      obtain ⟨r, hrj⟩ : ∃ r, l[j] = r := ⟨_, rfl⟩
      have hrec := HREC.out r hrj
      rw [hrj] at e0 e1 e2 HNO HYES hnm hfl' hfc
      clear hcell hnm' hfl hln hln' hrj HREC hfm
      have hx := hbel.alloc hsz (.cells #[.string r.name, .slice AF r.fields.length cF, .int .i64 r.line] 63)
      have hD := heap_alloc_new wr (.cells #[.string r.name, .slice AF r.fields.length cF, .int .i64 r.line] 63)
      obtain ⟨x, hxw⟩ : ∃ x, x = wr.alloc (.cells #[.string r.name, .slice AF r.fields.length cF, .int .i64 r.line] 63) := ⟨_, rfl⟩
      rw [← hxw] at hx hD
      have HX := Lib.hid hx
      have HDB := Lib.hid hD
      have HFL := Lib.hid (hfl'.later strEl_is (show Later wr x by rw [hxw]; exact (Later.refl _).alloc _))
      have HN := Lib.hid (implIsName_any r.name x hnm (HT.out.below hx))
      obtain ⟨D, hDD⟩ : ∃ D, wr.heap.size = D := ⟨_, rfl⟩
      rw [hDD] at HDB
      obtain ⟨n0, hn0⟩ : ∃ q : Bool, isNm r.name = q := ⟨_, rfl⟩
      obtain ⟨n1, hn1⟩ : ∃ q : Bool, decide ((6 : Int) < (r.fields.length : Int)) = q := ⟨_, rfl⟩
      obtain ⟨n2, hn2⟩ : ∃ q : Bool, r.fields.all isNm = q := ⟨_, rfl⟩
      obtain ⟨n3, hn3⟩ : ∃ q : Bool, twB r.fields = q := ⟨_, rfl⟩
      obtain ⟨n4, hn4⟩ : ∃ q : Bool, decide (r.line < 0) = q := ⟨_, rfl⟩
      rw [hn0, hn2, hn3, show decide (r.fields.length ≤ 6) = !n1 by rw [← hn1]; exact not_lt_dec, show decide (0 ≤ r.line) = !n4 by rw [← hn4]; exact not_neg_dec] at hrec
      rw [hn0] at HN
      have HREC := Lib.hid hrec
      clear hx hD hnm hfl' hrec
      go_upto_region 4 with (fail)
      rw [← hxw]
      try rw [hDD]
      clear e0 e1 e2 hxw hDD
      obtain ⟨d0, d1, d2⟩ := rc_cells HDB.out
      go_wp2_with fail
      refine HN.out.mono ?_
      rintro e x1 ⟨rfl, hb1⟩
      have HX1 := Lib.hid (HX.out.trans (Below.mono hb1 HX.out.size))
      have HD1 := Lib.hid ((Below.block hb1 _ (Array.getElem?_eq_some_iff.1 HDB.out).1).trans HDB.out)
      have HF1 := Lib.hid (HFL.out.later strEl_is hb1)
      clear hb1 d0 d1 d2
      obtain ⟨d0, d1, d2⟩ := rc_cells HD1.out
      cases n0
      · have hR0 : R = false := by rw [← HR.out, HNO.out (by rw [HREC.out]; rfl)]; rfl
        subst hR0
        go_wp2_with fail
        go_ret
        exact ⟨rfl, HX1.out⟩
      cases n1
      rotate_left 1
      · have hR0 : R = false := by rw [← HR.out, HNO.out (by rw [HREC.out]; rfl)]; rfl
        subst hR0
        go_wp2_with fail
        go_ret
        exact ⟨rfl, HX1.out⟩
      have HA := Lib.hid (allNames_any r.fields _ F x1 HF1.out (HT.out.below HX1.out))
      rw [hn2] at HA
      go_wp2_with fail
      refine HA.out.mono ?_
      rintro e x2 ⟨rfl, hb2⟩
      have HX2 := Lib.hid (HX1.out.trans (Below.mono hb2 HX1.out.size))
      have HD2 := Lib.hid ((Below.block hb2 _ (Array.getElem?_eq_some_iff.1 HD1.out).1).trans HD1.out)
      have HF2 := Lib.hid (HF1.out.later strEl_is hb2)
      clear hb2 d0 d1 d2 HA
      obtain ⟨d0, d1, d2⟩ := rc_cells HD2.out
      cases n2
      · have hR0 : R = false := by rw [← HR.out, HNO.out (by rw [HREC.out]; rfl)]; rfl
        subst hR0
        go_wp2_with fail
        go_ret
        exact ⟨rfl, HX2.out⟩
      have HA := Lib.hid (repeated_any r.fields _ F x2 HF2.out)
      rw [hn3] at HA
      go_wp2_with fail
      refine HA.out.mono ?_
      rintro e x3 ⟨rfl, hb3⟩
      have HX3 := Lib.hid (HX2.out.trans (Below.mono hb3 HX2.out.size))
      have HD3 := Lib.hid ((Below.block hb3 _ (Array.getElem?_eq_some_iff.1 HD2.out).1).trans HD2.out)
      clear hb3 d0 d1 d2 HA
      obtain ⟨d0, d1, d2⟩ := rc_cells HD3.out
      cases n3
      rotate_left 1
      · have hR0 : R = false := by rw [← HR.out, HNO.out (by rw [HREC.out]; rfl)]; rfl
        subst hR0
        go_wp2_with fail
        go_ret
        exact ⟨rfl, HX3.out⟩
      cases n4
      rotate_left 1
      · have hR0 : R = false := by rw [← HR.out, HNO.out (by rw [HREC.out]; rfl)]; rfl
        subst hR0
        go_wp2_with fail
        go_ret
        exact ⟨rfl, HX3.out⟩
      have HD4 := Lib.hid (HYES.out (by rw [HREC.out]; rfl))
      have hbel3 := HX3.out
      go_wp2_with fail
      go_roundw
      case rel => exact ⟨j + 1, by go_num, by omega, HD4, hbel3⟩
      case measure => simp [intOf]; omega
    · have t1 : decide ((j : Int) < l.length) = false := decide_eq_false (by omega)
      have hR0 : R = decide ((l.length : Int) ≤ 8) := by rw [← HR.out, all_of (fun k hk => HD.out k hk (by omega)), Bool.true_and]; exact decide_eq_decide.2 (by omega)
      subst hR0
      go_wp2_with fail
      go_ret
      exact ⟨rfl, hbel⟩
end Go.Proofs.YtopaeiogbijppaaDoor
