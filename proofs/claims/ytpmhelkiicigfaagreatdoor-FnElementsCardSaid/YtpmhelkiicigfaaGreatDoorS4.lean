/- Part of the walks that the claim stands on. -/
import Derived.Test.YtpmhelkiicigfaaGreatDoorS3
import Derived.Test.YtpmhelkiicigfaaGreatDoorS1
import Derived.Test.YtpmhelkiicigfaaGreatDoorChecked
import Derived.Lib.Hide
import Derived.WalkKit
import Derived.WalkSpells
import Derived.WalkLawsBesides
import Derived.Outline
import Derived.Laws.IdiomStrings
import Derived.Test.YtpmhelkiicigfaaGreatDoorS2
set_option maxRecDepth 100000
set_option maxHeartbeats 40000000
namespace Go.Proofs.YtpmhelkiicigfaaGreatDoor
open Go.RowKit
theorem Zq7 (r : Zf) (B : Nat) (cs : List Value) (F : Nat → Prop) (w : World) (tag aI : Int) (aJ aK : List Ze) (vi vk : Value) (h : Z1 F w B r cs) (hi : Zp Zd 6 F w aJ vi) (hk : Zp Zd 6 F w aK vk) (hkz : aK.length ≤ 1048576) :
  Calls Tryz.prog 100 #[.pointer (some ⟨B, 0, none⟩), .agg #[.int .i64 8, .int .i64 tag, .int .i64 aI, vi, vk]] w fun e w' => e = .returned (.bool (Zaa r ⟨8, tag, aI, aJ, aK⟩)) ∧ Below w.heap.size w w' := by
 obtain ⟨R, hR⟩ : ∃ R, Zaa r ⟨8, tag, aI, aJ, aK⟩ = R := ⟨_, rfl⟩;rw [hR];have HR0 := zh hR;clear hR;obtain ⟨Ai, ci, rfl, hci, hcmi, _⟩ := id hi;obtain ⟨Ak, ck, rfl, hck, hcmk, _⟩ := id hk;unfold maxLen at hcmi hcmk;have hl1 := (Za.refl w).alloc (.cells #[.int .i64 8, .int .i64 tag, .int .i64 aI, .slice Ai aJ.length ci, .slice Ak aK.length ck] 94);have HS := zh (h.later hl1);have HI := zh (hi.later Zc hl1);have HK := zh (hk.later Zc hl1);have HM := zh (heap_alloc_new w (.cells #[.int .i64 8, .int .i64 tag, .int .i64 aI, .slice Ai aJ.length ci, .slice Ak aK.length ck] 94));have HB := zh hl1;obtain ⟨w1, hw1⟩ : ∃ x, x = w.alloc (.cells #[.int .i64 8, .int .i64 tag, .int .i64 aI, .slice Ai aJ.length ci, .slice Ak aK.length ck] 94) := ⟨_, rfl⟩;rw [← hw1] at HS HI HK HM HB;have HLC := zh (Za.refl w1);clear h hi hk hl1;obtain ⟨s0, hs0⟩ : ∃ q, (aI == 0) = q := ⟨_, rfl⟩;have W0s0 : (aI != 0) = !s0 := by rw [← hs0]; exact (by rw [Bool.eq_iff_iff]; simp only [nJ, nK, nL, ne_eq, nM, nI, nH] <;> omega)
 obtain ⟨tg, htg⟩ : ∃ q, (tag == 0) = q := ⟨_, rfl⟩;have W0tg : (tag != 0) = !tg := by rw [← htg]; exact (by rw [Bool.eq_iff_iff]; simp only [nJ, nK, nL, ne_eq, nM, nI, nH] <;> omega)
 have W1tg : (tag == 0) = tg := htg;obtain ⟨ky, hky⟩ : ∃ q, (decide (aK.length = 0)) = q := ⟨_, rfl⟩;have W0ky : ((aK.length : Int) != 0) = !ky := by rw [← hky]; exact (by rw [Bool.eq_iff_iff]; simp only [nJ, nK, nL, ne_eq, nM, nI, nH] <;> omega)
 have W1ky : ((aK.length : Int) == 0) = ky := by rw [← hky]; exact (by rw [Bool.eq_iff_iff]; simp only [nJ, nK, nL, ne_eq, nM, nI, nH] <;> omega)
 obtain ⟨b1, hb1⟩ : ∃ q, (decide (aJ.length = 2)) = q := ⟨_, rfl⟩;have W0b1 : ((aJ.length : Int) == 2) = b1 := by rw [← hb1]; exact (by rw [Bool.eq_iff_iff]; simp only [nJ, nK, nL, ne_eq, nM, nI, nH] <;> omega)
 obtain ⟨X, hX⟩ : ∃ X, Z9 r ⟨8, tag, aI, aJ, aK⟩ = X := ⟨_, rfl⟩;have HR := zh (show R = (s0 && (tg && (ky && (X)))) by rw [← HR0.o, ← hs0, ← htg, ← hky, ← hX]; try rfl);have Hs0 := zh hs0;clear hs0;have Htg := zh htg;clear htg;have Hky := zh hky;clear hky;have Hb1 := zh hb1;clear hb1;have HX := zh hX;clear hX;go_enter Tryz.func100, Tryz.ntmps100;go_upto_region 4 with (fail);rw [← hw1];clear hw1;have HMC := zB HLC HM;have m0 := cz5 HMC.o
 cases s0 with
 | false =>
  simp only [Bool.not_false] at W0s0;have hR0 : R = false := by rw [HR.o]; simp
  subst hR0;go_wp2_with fail;go_ret;exact ⟨rfl, HB.o.trans HLC.o⟩
 | true =>
  simp only [Bool.not_true] at W0s0
  cases tg with
  | false =>
   simp only [Bool.not_false] at W0tg;have hR0 : R = false := by rw [HR.o]; simp
   subst hR0;go_wp2_with fail;go_ret;exact ⟨rfl, HB.o.trans HLC.o⟩
  | true =>
   simp only [Bool.not_true] at W0tg
   cases ky with
   | false =>
    simp only [Bool.not_false] at W0ky;have hR0 : R = false := by rw [HR.o]; simp
    subst hR0;go_wp2_with fail;go_ret;exact ⟨rfl, HB.o.trans HLC.o⟩
   | true =>
    simp only [Bool.not_true] at W0ky
    cases b1 with
    | false =>
     have hX0 : X = false := by
      rw [← HX.o]
      match aJ, of_decide_eq_false Hb1.o with
      | [], _ => first | rfl | simp [Z9]
      | [_], _ => first | rfl | simp [Z9]
      | _ :: _ :: _ :: _, _ => first | rfl | simp [Z9]
      | [_, _], h => exact absurd rfl h
     have hR0 : R = false := by rw [HR.o, hX0]; simp
     subst hR0;go_wp2_with fail;go_ret;exact ⟨rfl, HB.o.trans HLC.o⟩
    | true =>
     have hlen : aJ.length = 2 := of_decide_eq_true Hb1.o;clear W0b1 Hb1;obtain ⟨a, b, rfl⟩ : ∃ a b, aJ = [a, b] := by
      match aJ, hlen with
      | [a0, b0], _ => exact ⟨a0, b0, rfl⟩
     clear hlen;obtain ⟨b0, o0, e0, hb0, hat0, hel0⟩ := (HI.o.later Zc HLC.o).vat (j := 0) (by simp);cases e0;simp only [List.getElem_cons_succ, List.getElem_cons_zero, Nat.reduceMul, Nat.add_zero] at hat0 hel0;obtain ⟨i00, i01, i02, i03, i04, i05⟩ := hat0;obtain ⟨b1, o1, e1, hb1, hat1, hel1⟩ := (HI.o.later Zc HLC.o).vat (j := 1) (by simp);cases e1;simp only [List.getElem_cons_succ, List.getElem_cons_zero, Nat.reduceMul, Nat.add_zero] at hat1 hel1;obtain ⟨i10, i11, i12, i13, i14, i15⟩ := hat1;obtain ⟨k0, hk0⟩ : ∃ q, (a.kind == 5) = q := ⟨_, rfl⟩;have W0k0 : (a.kind == 5) = k0 := hk0;obtain ⟨q0, hq0⟩ : ∃ q, (Zi r a) = q := ⟨_, rfl⟩;obtain ⟨q1, hq1⟩ : ∃ q, (Zaw r b) = q := ⟨_, rfl⟩;replace HR := zh (show R = (true && (true && (true && (k0 && (q0 && (q1)))))) by rw [HR.o, ← HX.o, ← hk0, ← hq0, ← hq1]; cases e : (a.kind == 5) with | false => simp [Z9, e] | true => have e3 := beq_iff_eq.1 e; simp [Z9, Zaw, e3]);have Hk0 := zh hk0;clear hk0;have Hq0 := zh hq0;clear hq0;have Hq1 := zh hq1;clear hq1
     cases k0 with
     | false =>
      have hR0 : R = false := by rw [HR.o]; simp
      subst hR0;go_wp2_with fail;go_ret;exact ⟨rfl, HB.o.trans HLC.o⟩
     | true =>
      go_wp2_with fail;refine (Za3 r B cs F _ a _ (HS.o.later HLC.o) hel0).mono ?_;rw [Hq0.o];rintro e w5 ⟨rfl, hcl⟩;clear HMC m0;clear hel0 hb0 i00 i01 i02 i03 i04 i05 hel1 hb1 i10 i11 i12 i13 i14 i15;replace HLC := zh (HLC.o.trans hcl);clear hcl;have HMC := zB HLC HM;have m0 := cz5 HMC.o;obtain ⟨b0, o0, e0, hb0, hat0, hel0⟩ := (HI.o.later Zc HLC.o).vat (j := 0) (by simp);cases e0;simp only [List.getElem_cons_succ, List.getElem_cons_zero, Nat.reduceMul, Nat.add_zero] at hat0 hel0;obtain ⟨i00, i01, i02, i03, i04, i05⟩ := hat0;obtain ⟨b1, o1, e1, hb1, hat1, hel1⟩ := (HI.o.later Zc HLC.o).vat (j := 1) (by simp);cases e1;simp only [List.getElem_cons_succ, List.getElem_cons_zero, Nat.reduceMul, Nat.add_zero] at hat1 hel1;obtain ⟨i10, i11, i12, i13, i14, i15⟩ := hat1
      cases q0 with
      | false =>
       have hR0 : R = false := by rw [HR.o]; simp
       subst hR0;go_wp2_with fail;go_ret;exact ⟨rfl, HB.o.trans HLC.o⟩
      | true =>
       go_wp2_with fail;refine (Zcu r B cs F _ b _ (HS.o.later HLC.o) hel1).mono ?_;rw [Hq1.o];rintro e w6 ⟨rfl, hcl⟩;clear HMC m0;clear hel0 hb0 i00 i01 i02 i03 i04 i05 hel1 hb1 i10 i11 i12 i13 i14 i15;replace HLC := zh (HLC.o.trans hcl);clear hcl;have hR0 : R = q1 := by rw [HR.o]; simp
       subst hR0;go_wp2_with fail;go_ret;exact ⟨rfl, HB.o.trans HLC.o⟩
theorem Zq8 (r : Zf) (B : Nat) (cs : List Value) (F : Nat → Prop) (w : World) (tag aI : Int) (aJ aK : List Ze) (vi vk : Value) (h : Z1 F w B r cs) (hi : Zp Zd 6 F w aJ vi) (hk : Zp Zd 6 F w aK vk) (hkz : aK.length ≤ 1048576) :
  Calls Tryz.prog 100 #[.pointer (some ⟨B, 0, none⟩), .agg #[.int .i64 5, .int .i64 tag, .int .i64 aI, vi, vk]] w fun e w' => e = .returned (.bool (Zaa r ⟨5, tag, aI, aJ, aK⟩)) ∧ Below w.heap.size w w' := by
 obtain ⟨R, hR⟩ : ∃ R, Zaa r ⟨5, tag, aI, aJ, aK⟩ = R := ⟨_, rfl⟩;rw [hR];have HR0 := zh hR;clear hR;obtain ⟨Ai, ci, rfl, hci, hcmi, _⟩ := id hi;obtain ⟨Ak, ck, rfl, hck, hcmk, _⟩ := id hk;unfold maxLen at hcmi hcmk;have hl1 := (Za.refl w).alloc (.cells #[.int .i64 5, .int .i64 tag, .int .i64 aI, .slice Ai aJ.length ci, .slice Ak aK.length ck] 94);have HS := zh (h.later hl1);have HI := zh (hi.later Zc hl1);have HK := zh (hk.later Zc hl1);have HM := zh (heap_alloc_new w (.cells #[.int .i64 5, .int .i64 tag, .int .i64 aI, .slice Ai aJ.length ci, .slice Ak aK.length ck] 94));have HB := zh hl1;obtain ⟨w1, hw1⟩ : ∃ x, x = w.alloc (.cells #[.int .i64 5, .int .i64 tag, .int .i64 aI, .slice Ai aJ.length ci, .slice Ak aK.length ck] 94) := ⟨_, rfl⟩;rw [← hw1] at HS HI HK HM HB;have HLC := zh (Za.refl w1);clear h hi hk hl1;obtain ⟨s1, hs1⟩ : ∃ q, (decide (1 ≤ aI)) = q := ⟨_, rfl⟩;have W0s1 : (decide (aI < 1)) = !s1 := by rw [← hs1]; exact (by rw [Bool.eq_iff_iff]; simp only [nJ, nK, nL, ne_eq, nM, nI, nH] <;> omega)
 obtain ⟨s2, hs2⟩ : ∃ q, (decide (aI ≤ r.made)) = q := ⟨_, rfl⟩;have W0s2 : (decide (r.made < aI)) = !s2 := by rw [← hs2]; exact (by rw [Bool.eq_iff_iff]; simp only [nJ, nK, nL, ne_eq, nM, nI, nH] <;> omega)
 obtain ⟨ky, hky⟩ : ∃ q, (decide (aK.length = 0)) = q := ⟨_, rfl⟩;have W0ky : ((aK.length : Int) != 0) = !ky := by rw [← hky]; exact (by rw [Bool.eq_iff_iff]; simp only [nJ, nK, nL, ne_eq, nM, nI, nH] <;> omega)
 have W1ky : ((aK.length : Int) == 0) = ky := by rw [← hky]; exact (by rw [Bool.eq_iff_iff]; simp only [nJ, nK, nL, ne_eq, nM, nI, nH] <;> omega)
 obtain ⟨t1, ht1⟩ : ∃ q, (decide (0 ≤ tag)) = q := ⟨_, rfl⟩;have W0t1 : (decide (0 ≤ tag)) = t1 := ht1;obtain ⟨X, hX⟩ : ∃ X, Z9 r ⟨5, tag, aI, aJ, aK⟩ = X := ⟨_, rfl⟩;have HR := zh (show R = ((s1 && s2) && (ky && (X))) by rw [← HR0.o, ← hs1, ← hs2, ← hky, ← hX]; try rfl);have Hs1 := zh hs1;clear hs1;have Hs2 := zh hs2;clear hs2;have Hky := zh hky;clear hky;have Ht1 := zh ht1;clear ht1;have HX := zh hX;clear hX;go_enter Tryz.func100, Tryz.ntmps100;go_upto_region 2 with (fail);rw [← hw1];clear hw1
 cases s1 with
 | false =>
  simp only [Bool.not_false] at W0s1;refine Zu (fun W hW => ?_);have hWL : Za w1 W := by rw [hW]; exact (Za.refl _).drew
  clear hW;replace HLC := zh (HLC.o.trans hWL);clear hWL;have HMC := zB HLC HM;obtain ⟨m0, m1, m2, m3, m4⟩ := cz5 HMC.o;have y12 := (HS.o.later HLC.o).made_;have hMB := Zb HMC.o;have hSB := (HS.o.later HLC.o).lt
  repeat go_big_quiet_step (fail)
  refine wpQuiet_nil ?_;have hR0 : R = false := by rw [HR.o]; simp
  subst hR0;go_wp2_with fail;go_ret;exact ⟨rfl, HB.o.trans HLC.o⟩
 | true =>
  simp only [Bool.not_true] at W0s1
  cases s2 with
  | false =>
   simp only [Bool.not_false] at W0s2;refine Zu (fun W hW => ?_);have hWL : Za w1 W := by rw [hW]; exact (Za.refl _).drew
   clear hW;replace HLC := zh (HLC.o.trans hWL);clear hWL;have HMC := zB HLC HM;obtain ⟨m0, m1, m2, m3, m4⟩ := cz5 HMC.o;have y12 := (HS.o.later HLC.o).made_;have hMB := Zb HMC.o;have hSB := (HS.o.later HLC.o).lt
   repeat go_big_quiet_step (fail)
   refine wpQuiet_nil ?_;have hR0 : R = false := by rw [HR.o]; simp
   subst hR0;go_wp2_with fail;go_ret;exact ⟨rfl, HB.o.trans HLC.o⟩
  | true =>
   simp only [Bool.not_true] at W0s2;refine Zu (fun V hV => ?_);have hVL : Za w1 V := by rw [hV]; exact (Za.refl _).drew
   clear hV;replace HLC := zh (HLC.o.trans hVL);clear hVL;have HMC := zB HLC HM;obtain ⟨m0, m1, m2, m3, m4⟩ := cz5 HMC.o;have y12 := (HS.o.later HLC.o).made_;have hMB := Zb HMC.o;have hSB := (HS.o.later HLC.o).lt
   repeat go_big_quiet_step (fail)
   refine wpQuiet_nil ?_;clear y12 hMB hSB
   cases ky with
   | false =>
    simp only [Bool.not_false] at W0ky;have hR0 : R = false := by rw [HR.o]; simp
    subst hR0;go_wp2_with fail;go_ret;exact ⟨rfl, HB.o.trans HLC.o⟩
   | true =>
    simp only [Bool.not_true] at W0ky;go_upto_region 18 with (fail);clear m0 m1 m2 m3 m4 HMC
    cases t1 with
    | false =>
     have hX0 : X = false := by rw [← HX.o]; have := of_decide_eq_false Ht1.o; simp [Z9, this]
     refine Zu (fun W hW => ?_);have hWL : Za V W := by rw [hW]; exact (Za.refl _).drew
     clear hW;replace HLC := zh (HLC.o.trans hWL);clear hWL;have HMC := zB HLC HM;obtain ⟨m0, m1, m2, m3, m4⟩ := cz5 HMC.o;have y12 := (HS.o.later HLC.o).made_;have hMB := Zb HMC.o;have hSB := (HS.o.later HLC.o).lt
     repeat go_big_quiet_step (fail)
     refine wpQuiet_nil ?_;have hR0 : R = false := by rw [HR.o, hX0]; simp
     subst hR0;go_wp2_with fail;go_ret;exact ⟨rfl, HB.o.trans HLC.o⟩
    | true =>
     obtain ⟨i, rfl⟩ : ∃ i : Nat, tag = i := ⟨tag.toNat, by have := of_decide_eq_true Ht1.o; omega⟩
     by_cases hlt : i < r.aB.length
     ·have u2 : decide ((i : Int) < (r.aB.length : Int)) = true := decide_eq_true (by omega);have hlt2 : (i : Int) < (r.aB.length : Int) := by omega
      obtain ⟨b3, hb3⟩ : ∃ q, (decide (aJ.length = r.aB[i].fields.length)) = q := ⟨_, rfl⟩;have W0b3 : ((aJ.length : Int) == (r.aB[i].fields.length : Int)) = b3 := by rw [← hb3]; exact (by rw [Bool.eq_iff_iff]; simp only [nJ, nK, nL, ne_eq, nM, nI, nH] <;> omega)
      obtain ⟨ai, hai⟩ : ∃ q, (Zaf r aJ) = q := ⟨_, rfl⟩;replace HR := zh (show R = ((true && true) && (true && (b3 && (ai)))) by rw [HR.o, ← HX.o, ← hb3, ← hai]; simp [Z9, hlt]);have Hb3 := zh hb3;have Hai := zh hai;clear hb3 hai
      cases b3 with
      | false =>
       refine Zu (fun W hW => ?_);have hWL : Za V W := by rw [hW]; exact (Za.refl _).drew
       clear hW;replace HLC := zh (HLC.o.trans hWL);clear hWL;have HMC := zB HLC HM;obtain ⟨m0, m1, m2, m3, m4⟩ := cz5 HMC.o;have y12 := (HS.o.later HLC.o).made_;have hMB := Zb HMC.o;have hSB := (HS.o.later HLC.o).lt;obtain ⟨Ar, cr, y1, hcr, hcmr, hrr⟩ := (HS.o.later HLC.o).aB;unfold maxLen at hcmr;obtain ⟨rb, ro, Af, cf, e0, hrb, yr⟩ := Z1.rec_ hrr hlt;cases e0
       repeat go_big_quiet_step (fail)
       refine wpQuiet_nil ?_;have hR0 : R = false := by rw [HR.o]; simp
       subst hR0;go_wp2_with fail;go_ret;exact ⟨rfl, HB.o.trans HLC.o⟩
      | true =>
       refine Zbb [33, 34, 35] [] (by kernel_rfl) (fun W hW => ?_);have hWL : Za V W := by rw [hW]; exact (Za.refl _).drew
       clear hW;replace HLC := zh (HLC.o.trans hWL);clear hWL;have HMC := zB HLC HM;obtain ⟨m0, m1, m2, m3, m4⟩ := cz5 HMC.o;have y12 := (HS.o.later HLC.o).made_;have hMB := Zb HMC.o;have hSB := (HS.o.later HLC.o).lt;obtain ⟨Ar, cr, y1, hcr, hcmr, hrr⟩ := (HS.o.later HLC.o).aB;unfold maxLen at hcmr;obtain ⟨rb, ro, Af, cf, e0, hrb, yr⟩ := Z1.rec_ hrr hlt;cases e0;refine tU 0 146 (v := ?_) rfl rfl (fun x hx => ?_) ?_;rotate_left
       ·go_simp;first|done|with_reducible rfl
       simp only [Act.put, nA, nB, nC];refine tU 1 147 (v := ?_) rfl rfl (fun x hx => ?_) ?_;rotate_left
       ·have x0 := (hx.cell ⟨w.heap.size, 0, none⟩ hMB).trans m0; have x1 := (hx.cell ⟨w.heap.size, 1, none⟩ hMB).trans m1; have x2 := (hx.cell ⟨w.heap.size, 2, none⟩ hMB).trans m2; have x3 := (hx.cell ⟨w.heap.size, 3, none⟩ hMB).trans m3; have x4 := (hx.cell ⟨w.heap.size, 4, none⟩ hMB).trans m4; have x12 := (hx.cell ⟨B, 12, none⟩ hSB).trans y12; have x1r := (hx.cell ⟨B, 1, none⟩ hSB).trans y1; have xr := (hx.cell ⟨rb, ro + i * 3 + 1, none⟩ hrb).trans yr; go_simp;first|done|with_reducible rfl
       simp only [Act.put, nA, nB, nC];refine tU 2 148 (v := ?_) rfl rfl (fun x hx => ?_) ?_;rotate_left
       ·go_simp;first|done|with_reducible rfl
       simp only [Act.put, nA, nB, nC];refine tU 3 149 (v := ?_) rfl rfl (fun x hx => ?_) ?_;rotate_left
       ·go_simp;first|done|with_reducible rfl
       simp only [Act.put, nA, nB, nC];refine tU 4 150 (v := ?_) rfl rfl (fun x hx => ?_) ?_;rotate_left
       ·go_simp;first|done|with_reducible rfl
       simp only [Act.put, nA, nB, nC];refine tU 5 151 (v := ?_) rfl rfl (fun x hx => ?_) ?_;rotate_left
       ·have x0 := (hx.cell ⟨w.heap.size, 0, none⟩ hMB).trans m0; have x1 := (hx.cell ⟨w.heap.size, 1, none⟩ hMB).trans m1; have x2 := (hx.cell ⟨w.heap.size, 2, none⟩ hMB).trans m2; have x3 := (hx.cell ⟨w.heap.size, 3, none⟩ hMB).trans m3; have x4 := (hx.cell ⟨w.heap.size, 4, none⟩ hMB).trans m4; have x12 := (hx.cell ⟨B, 12, none⟩ hSB).trans y12; have x1r := (hx.cell ⟨B, 1, none⟩ hSB).trans y1; have xr := (hx.cell ⟨rb, ro + i * 3 + 1, none⟩ hrb).trans yr; go_simp;first|done|with_reducible rfl
       simp only [Act.put, nA, nB, nC];refine tU 6 152 (v := ?_) rfl rfl (fun x hx => ?_) ?_;rotate_left
       ·go_simp;first|done|with_reducible rfl
       simp only [Act.put, nA, nB, nC];refine tU 7 153 (v := ?_) rfl rfl (fun x hx => ?_) ?_;rotate_left
       ·go_simp;first|done|with_reducible rfl
       simp only [Act.put, nA, nB, nC];refine tU 8 154 (v := ?_) rfl rfl (fun x hx => ?_) ?_;rotate_left
       ·go_simp;first|done|with_reducible rfl
       simp only [Act.put, nA, nB, nC];refine tU 9 155 (v := ?_) rfl rfl (fun x hx => ?_) ?_;rotate_left
       ·have x0 := (hx.cell ⟨w.heap.size, 0, none⟩ hMB).trans m0; have x1 := (hx.cell ⟨w.heap.size, 1, none⟩ hMB).trans m1; have x2 := (hx.cell ⟨w.heap.size, 2, none⟩ hMB).trans m2; have x3 := (hx.cell ⟨w.heap.size, 3, none⟩ hMB).trans m3; have x4 := (hx.cell ⟨w.heap.size, 4, none⟩ hMB).trans m4; have x12 := (hx.cell ⟨B, 12, none⟩ hSB).trans y12; have x1r := (hx.cell ⟨B, 1, none⟩ hSB).trans y1; have xr := (hx.cell ⟨rb, ro + i * 3 + 1, none⟩ hrb).trans yr; go_simp;first|done|with_reducible rfl
       simp only [Act.put, nA, nB, nC];refine tU 10 156 (v := ?_) rfl rfl (fun x hx => ?_) ?_;rotate_left
       ·go_simp;first|done|with_reducible rfl
       simp only [Act.put, nA, nB, nC];refine tU 11 157 (v := ?_) rfl rfl (fun x hx => ?_) ?_;rotate_left
       ·go_simp;first|done|with_reducible rfl
       simp only [Act.put, nA, nB, nC];refine tU 12 158 (v := ?_) rfl rfl (fun x hx => ?_) ?_;rotate_left
       ·go_simp;first|done|with_reducible rfl
       simp only [Act.put, nA, nB, nC];refine tU 13 159 (v := ?_) rfl rfl (fun x hx => ?_) ?_;rotate_left
       ·go_simp;first|done|with_reducible rfl
       simp only [Act.put, nA, nB, nC];refine tU 14 160 (v := ?_) rfl rfl (fun x hx => ?_) ?_;rotate_left
       ·go_simp;first|done|with_reducible rfl
       simp only [Act.put, nA, nB, nC];refine tU 15 161 (v := ?_) rfl rfl (fun x hx => ?_) ?_;rotate_left
       ·have x0 := (hx.cell ⟨w.heap.size, 0, none⟩ hMB).trans m0; have x1 := (hx.cell ⟨w.heap.size, 1, none⟩ hMB).trans m1; have x2 := (hx.cell ⟨w.heap.size, 2, none⟩ hMB).trans m2; have x3 := (hx.cell ⟨w.heap.size, 3, none⟩ hMB).trans m3; have x4 := (hx.cell ⟨w.heap.size, 4, none⟩ hMB).trans m4; have x12 := (hx.cell ⟨B, 12, none⟩ hSB).trans y12; have x1r := (hx.cell ⟨B, 1, none⟩ hSB).trans y1; have xr := (hx.cell ⟨rb, ro + i * 3 + 1, none⟩ hrb).trans yr; go_simp;first|done|with_reducible rfl
       simp only [Act.put, nA, nB, nC];refine tU 16 162 (v := ?_) rfl rfl (fun x hx => ?_) ?_;rotate_left
       ·go_simp;first|done|with_reducible rfl
       simp only [Act.put, nA, nB, nC];refine tU 17 163 (v := ?_) rfl rfl (fun x hx => ?_) ?_;rotate_left
       ·go_simp;first|done|with_reducible rfl
       simp only [Act.put, nA, nB, nC];refine tU 18 164 (v := ?_) rfl rfl (fun x hx => ?_) ?_;rotate_left
       ·go_simp;first|done|with_reducible rfl
       simp only [Act.put, nA, nB, nC];refine tU 19 165 (v := ?_) rfl rfl (fun x hx => ?_) ?_;rotate_left
       ·go_simp;first|done|with_reducible rfl
       simp only [Act.put, nA, nB, nC];refine tU 20 166 (v := ?_) rfl rfl (fun x hx => ?_) ?_;rotate_left
       ·have x0 := (hx.cell ⟨w.heap.size, 0, none⟩ hMB).trans m0; have x1 := (hx.cell ⟨w.heap.size, 1, none⟩ hMB).trans m1; have x2 := (hx.cell ⟨w.heap.size, 2, none⟩ hMB).trans m2; have x3 := (hx.cell ⟨w.heap.size, 3, none⟩ hMB).trans m3; have x4 := (hx.cell ⟨w.heap.size, 4, none⟩ hMB).trans m4; have x12 := (hx.cell ⟨B, 12, none⟩ hSB).trans y12; have x1r := (hx.cell ⟨B, 1, none⟩ hSB).trans y1; have xr := (hx.cell ⟨rb, ro + i * 3 + 1, none⟩ hrb).trans yr; go_simp;first|done|with_reducible rfl
       simp only [Act.put, nA, nB, nC];refine tU 21 167 (v := ?_) rfl rfl (fun x hx => ?_) ?_;rotate_left
       ·go_simp;first|done|with_reducible rfl
       simp only [Act.put, nA, nB, nC];refine tU 22 168 (v := ?_) rfl rfl (fun x hx => ?_) ?_;rotate_left
       ·have x0 := (hx.cell ⟨w.heap.size, 0, none⟩ hMB).trans m0; have x1 := (hx.cell ⟨w.heap.size, 1, none⟩ hMB).trans m1; have x2 := (hx.cell ⟨w.heap.size, 2, none⟩ hMB).trans m2; have x3 := (hx.cell ⟨w.heap.size, 3, none⟩ hMB).trans m3; have x4 := (hx.cell ⟨w.heap.size, 4, none⟩ hMB).trans m4; have x12 := (hx.cell ⟨B, 12, none⟩ hSB).trans y12; have x1r := (hx.cell ⟨B, 1, none⟩ hSB).trans y1; have xr := (hx.cell ⟨rb, ro + i * 3 + 1, none⟩ hrb).trans yr; go_simp;first|done|with_reducible rfl
       simp only [Act.put, nA, nB, nC];refine tU 23 169 (v := ?_) rfl rfl (fun x hx => ?_) ?_;rotate_left
       ·go_simp;first|done|with_reducible rfl|rw[if_neg (by omega)]|rw[if_pos (by omega)]
       simp only [Act.put, nA, nB, nC];refine tU 24 170 (v := ?_) rfl rfl (fun x hx => ?_) ?_;rotate_left
       ·go_simp;first|done|with_reducible rfl
       simp only [Act.put, nA, nB, nC];refine tU 25 171 (v := ?_) rfl rfl (fun x hx => ?_) ?_;rotate_left
       ·have x0 := (hx.cell ⟨w.heap.size, 0, none⟩ hMB).trans m0; have x1 := (hx.cell ⟨w.heap.size, 1, none⟩ hMB).trans m1; have x2 := (hx.cell ⟨w.heap.size, 2, none⟩ hMB).trans m2; have x3 := (hx.cell ⟨w.heap.size, 3, none⟩ hMB).trans m3; have x4 := (hx.cell ⟨w.heap.size, 4, none⟩ hMB).trans m4; have x12 := (hx.cell ⟨B, 12, none⟩ hSB).trans y12; have x1r := (hx.cell ⟨B, 1, none⟩ hSB).trans y1; have xr := (hx.cell ⟨rb, ro + i * 3 + 1, none⟩ hrb).trans yr; go_simp;first|done|with_reducible rfl
       simp only [Act.put, nA, nB, nC];refine tU 26 172 (v := ?_) rfl rfl (fun x hx => ?_) ?_;rotate_left
       ·go_simp;first|done|with_reducible rfl
       simp only [Act.put, nA, nB, nC];refine tU 27 173 (v := ?_) rfl rfl (fun x hx => ?_) ?_;rotate_left
       ·go_simp;first|done|with_reducible rfl
       simp only [Act.put, nA, nB, nC];refine tU 28 174 (v := ?_) rfl rfl (fun x hx => ?_) ?_;rotate_left
       ·go_simp;first|done|with_reducible rfl
       simp only [Act.put, nA, nB, nC];refine tU 29 175 (v := ?_) rfl rfl (fun x hx => ?_) ?_;rotate_left
       ·go_simp;first|done|with_reducible rfl
       simp only [Act.put, nA, nB, nC];refine tU 30 176 (v := ?_) rfl rfl (fun x hx => ?_) ?_;rotate_left
       ·go_simp;first|done|with_reducible rfl
       simp only [Act.put, nA, nB, nC];refine tU 31 177 (v := ?_) rfl rfl (fun x hx => ?_) ?_;rotate_left
       ·go_simp;first|done|with_reducible rfl
       simp only [Act.put, nA, nB, nC];refine tU 32 178 (v := ?_) rfl rfl (fun x hx => ?_) ?_;rotate_left
       ·have x0 := (hx.cell ⟨w.heap.size, 0, none⟩ hMB).trans m0; have x1 := (hx.cell ⟨w.heap.size, 1, none⟩ hMB).trans m1; have x2 := (hx.cell ⟨w.heap.size, 2, none⟩ hMB).trans m2; have x3 := (hx.cell ⟨w.heap.size, 3, none⟩ hMB).trans m3; have x4 := (hx.cell ⟨w.heap.size, 4, none⟩ hMB).trans m4; have x12 := (hx.cell ⟨B, 12, none⟩ hSB).trans y12; have x1r := (hx.cell ⟨B, 1, none⟩ hSB).trans y1; have xr := (hx.cell ⟨rb, ro + i * 3 + 1, none⟩ hrb).trans yr; go_simp;first|done|with_reducible rfl
       simp only [Act.put, nA, nB, nC];refine Zbl [_, _, _] (by kernel_rfl) rfl rfl ?_;simp only [List.getElem_toArray, List.getElem_cons_succ, List.getElem_cons_zero];go_wp2_with fail;refine (Zbn r B cs F _ aJ _ (HS.o.later HLC.o) (HI.o.later Zc HLC.o)).mono ?_;rw [Hai.o];rintro e w5 ⟨rfl, hcl⟩;clear HMC m0 m1 m2 m3 m4;replace HLC := zh (HLC.o.trans hcl);clear hcl;have hR0 : R = ai := by rw [HR.o]; simp
       subst hR0;go_wp2_with fail;go_ret;exact ⟨rfl, HB.o.trans HLC.o⟩
     ·have u2 : decide ((i : Int) < (r.aB.length : Int)) = false := decide_eq_false (by omega);have hX0 : X = false := by rw [← HX.o]; simp [Z9, List.getElem?_eq_none (show r.aB.length ≤ i by omega)]
      refine Zu (fun W hW => ?_);have hWL : Za V W := by rw [hW]; exact (Za.refl _).drew
      clear hW;replace HLC := zh (HLC.o.trans hWL);clear hWL;have HMC := zB HLC HM;obtain ⟨m0, m1, m2, m3, m4⟩ := cz5 HMC.o;have y12 := (HS.o.later HLC.o).made_;have hMB := Zb HMC.o;have hSB := (HS.o.later HLC.o).lt;obtain ⟨Ar, cr, y1, hcr, hcmr, hrr⟩ := (HS.o.later HLC.o).aB;unfold maxLen at hcmr
      repeat go_big_quiet_step (fail)
      refine wpQuiet_nil ?_;have hR0 : R = false := by rw [HR.o, hX0]; simp
      subst hR0;go_wp2_with fail;go_ret;exact ⟨rfl, HB.o.trans HLC.o⟩
theorem Zq9 (r : Zf) (B : Nat) (cs : List Value) (F : Nat → Prop) (w : World) (tag aI : Int) (aJ aK : List Ze) (vi vk : Value) (h : Z1 F w B r cs) (hi : Zp Zd 6 F w aJ vi) (hk : Zp Zd 6 F w aK vk) (hkz : aK.length ≤ 1048576) :
  Calls Tryz.prog 100 #[.pointer (some ⟨B, 0, none⟩), .agg #[.int .i64 9, .int .i64 tag, .int .i64 aI, vi, vk]] w fun e w' => e = .returned (.bool (Zaa r ⟨9, tag, aI, aJ, aK⟩)) ∧ Below w.heap.size w w' := by
 obtain ⟨R, hR⟩ : ∃ R, Zaa r ⟨9, tag, aI, aJ, aK⟩ = R := ⟨_, rfl⟩;rw [hR];have HR0 := zh hR;clear hR;obtain ⟨Ai, ci, rfl, hci, hcmi, _⟩ := id hi;obtain ⟨Ak, ck, rfl, hck, hcmk, _⟩ := id hk;unfold maxLen at hcmi hcmk;have hl1 := (Za.refl w).alloc (.cells #[.int .i64 9, .int .i64 tag, .int .i64 aI, .slice Ai aJ.length ci, .slice Ak aK.length ck] 94);have HS := zh (h.later hl1);have HI := zh (hi.later Zc hl1);have HK := zh (hk.later Zc hl1);have HM := zh (heap_alloc_new w (.cells #[.int .i64 9, .int .i64 tag, .int .i64 aI, .slice Ai aJ.length ci, .slice Ak aK.length ck] 94));have HB := zh hl1;obtain ⟨w1, hw1⟩ : ∃ x, x = w.alloc (.cells #[.int .i64 9, .int .i64 tag, .int .i64 aI, .slice Ai aJ.length ci, .slice Ak aK.length ck] 94) := ⟨_, rfl⟩;rw [← hw1] at HS HI HK HM HB;have HLC := zh (Za.refl w1);clear h hi hk hl1;obtain ⟨s0, hs0⟩ : ∃ q, (aI == 0) = q := ⟨_, rfl⟩;have W0s0 : (aI != 0) = !s0 := by rw [← hs0]; exact (by rw [Bool.eq_iff_iff]; simp only [nJ, nK, nL, ne_eq, nM, nI, nH] <;> omega)
 obtain ⟨tg, htg⟩ : ∃ q, (tag == 0) = q := ⟨_, rfl⟩;have W0tg : (tag != 0) = !tg := by rw [← htg]; exact (by rw [Bool.eq_iff_iff]; simp only [nJ, nK, nL, ne_eq, nM, nI, nH] <;> omega)
 have W1tg : (tag == 0) = tg := htg;obtain ⟨ky, hky⟩ : ∃ q, (decide (aK.length = 0)) = q := ⟨_, rfl⟩;have W0ky : ((aK.length : Int) != 0) = !ky := by rw [← hky]; exact (by rw [Bool.eq_iff_iff]; simp only [nJ, nK, nL, ne_eq, nM, nI, nH] <;> omega)
 have W1ky : ((aK.length : Int) == 0) = ky := by rw [← hky]; exact (by rw [Bool.eq_iff_iff]; simp only [nJ, nK, nL, ne_eq, nM, nI, nH] <;> omega)
 obtain ⟨b1, hb1⟩ : ∃ q, (decide (aJ.length = 2)) = q := ⟨_, rfl⟩;have W0b1 : ((aJ.length : Int) == 2) = b1 := by rw [← hb1]; exact (by rw [Bool.eq_iff_iff]; simp only [nJ, nK, nL, ne_eq, nM, nI, nH] <;> omega)
 obtain ⟨X, hX⟩ : ∃ X, Z9 r ⟨9, tag, aI, aJ, aK⟩ = X := ⟨_, rfl⟩;have HR := zh (show R = (s0 && (tg && (ky && (X)))) by rw [← HR0.o, ← hs0, ← htg, ← hky, ← hX]; try rfl);have Hs0 := zh hs0;clear hs0;have Htg := zh htg;clear htg;have Hky := zh hky;clear hky;have Hb1 := zh hb1;clear hb1;have HX := zh hX;clear hX;go_enter Tryz.func100, Tryz.ntmps100;go_upto_region 4 with (fail);rw [← hw1];clear hw1;have HMC := zB HLC HM;obtain ⟨m0, m1, m2, m3, m4⟩ := cz5 HMC.o
 cases s0 with
 | false =>
  simp only [Bool.not_false] at W0s0;have hR0 : R = false := by rw [HR.o]; simp
  subst hR0;go_wp2_with fail;go_ret;exact ⟨rfl, HB.o.trans HLC.o⟩
 | true =>
  simp only [Bool.not_true] at W0s0
  cases tg with
  | false =>
   simp only [Bool.not_false] at W0tg;have hR0 : R = false := by rw [HR.o]; simp
   subst hR0;go_wp2_with fail;go_ret;exact ⟨rfl, HB.o.trans HLC.o⟩
  | true =>
   simp only [Bool.not_true] at W0tg
   cases ky with
   | false =>
    simp only [Bool.not_false] at W0ky;have hR0 : R = false := by rw [HR.o]; simp
    subst hR0;go_wp2_with fail;go_ret;exact ⟨rfl, HB.o.trans HLC.o⟩
   | true =>
    simp only [Bool.not_true] at W0ky;go_upto_region 26 with (fail);clear m0 m1 m2 m3 m4 HMC;obtain ⟨m0, m1, m2, m3, m4⟩ := cz5 HM.o;have y12 := HS.o.made_;have hMB := Zb HM.o;have hSB := HS.o.lt
    cases b1 with
    | false =>
     have hX0 : X = false := by
      rw [← HX.o]
      match aJ, of_decide_eq_false Hb1.o with
      | [], _ => first | rfl | simp [Z9]
      | [_], _ => first | rfl | simp [Z9]
      | _ :: _ :: _ :: _, _ => first | rfl | simp [Z9]
      | [_, _], h => exact absurd rfl h
     refine Zu (fun W hW => ?_);replace HLC := zh (HLC.o.trans (show Za w1 W by rw [hW]; exact (Za.refl _).drew));clear hW;have hx := HLC.o;have x0 := (hx.cell ⟨w.heap.size, 0, none⟩ hMB).trans m0; have x1 := (hx.cell ⟨w.heap.size, 1, none⟩ hMB).trans m1; have x2 := (hx.cell ⟨w.heap.size, 2, none⟩ hMB).trans m2; have x3 := (hx.cell ⟨w.heap.size, 3, none⟩ hMB).trans m3; have x4 := (hx.cell ⟨w.heap.size, 4, none⟩ hMB).trans m4; have x12 := (hx.cell ⟨B, 12, none⟩ hSB).trans y12
     repeat go_big_quiet_step (fail)
     refine wpQuiet_nil ?_;clear hx x0 x1 x2 x3 x4 x12;have hR0 : R = false := by rw [HR.o, hX0]; simp
     subst hR0;go_wp2_with fail;go_ret;exact ⟨rfl, HB.o.trans HLC.o⟩
    | true =>
     have hlen : aJ.length = 2 := of_decide_eq_true Hb1.o;clear W0b1 Hb1;obtain ⟨a, b, rfl⟩ : ∃ a b, aJ = [a, b] := by
      match aJ, hlen with
      | [a0, b0], _ => exact ⟨a0, b0, rfl⟩
     clear hlen;obtain ⟨k0, hk0⟩ : ∃ q, (a.kind == 2) = q := ⟨_, rfl⟩;have W0k0 : (a.kind == 2) = k0 := hk0;obtain ⟨k1, hk1⟩ : ∃ q, (b.kind == 1) = q := ⟨_, rfl⟩;have W0k1 : (b.kind == 1) = k1 := hk1;obtain ⟨q0, hq0⟩ : ∃ q, (Zi r a) = q := ⟨_, rfl⟩;obtain ⟨q1, hq1⟩ : ∃ q, (Zi r b) = q := ⟨_, rfl⟩;obtain ⟨n1, hn1⟩ : ∃ q, (decide (1 ≤ b.aH)) = q := ⟨_, rfl⟩;have W0n1 : (decide (1 ≤ b.aH)) = n1 := hn1;obtain ⟨n2, hn2⟩ : ∃ q, (decide (b.aH ≤ (a.text.size : Int) + 1)) = q := ⟨_, rfl⟩;have W0n2 : (decide (b.aH ≤ (a.text.size : Int) + 1)) = n2 := hn2;replace HR := zh (show R = (true && (true && (true && (k0 && (k1 && (q0 && (q1 && (n1 && (n2))))))))) by rw [HR.o, ← HX.o, ← hk0, ← hk1, ← hq0, ← hq1, ← hn1, ← hn2]; cases e : (a.kind == 2) with | false => simp [Z9, e] | true => (have e3 := beq_iff_eq.1 e; cases e' : (b.kind == 1) with | false => simp [Z9, e'] | true => (have e4 := beq_iff_eq.1 e'; simp [Z9, Zaw, e3, e4])));have Hk0 := zh hk0;clear hk0;have Hk1 := zh hk1;clear hk1;have Hq0 := zh hq0;clear hq0;have Hq1 := zh hq1;clear hq1;have Hn1 := zh hn1;clear hn1;have Hn2 := zh hn2;clear hn2;obtain ⟨b0, o0, e0, hb0, hat0, hel0⟩ := HI.o.vat (j := 0) (by simp);cases e0;simp only [List.getElem_cons_succ, List.getElem_cons_zero, Nat.reduceMul, Nat.add_zero] at hat0 hel0;have HAT0 := zh hat0;have HEL0 := zh hel0;clear hat0 hel0;obtain ⟨b1, o1, e1, hb1, hat1, hel1⟩ := HI.o.vat (j := 1) (by simp);cases e1;simp only [List.getElem_cons_succ, List.getElem_cons_zero, Nat.reduceMul, Nat.add_zero] at hat1 hel1
     have HAT1 := zh hat1;have HEL1 := zh hel1;clear hat1 hel1
     cases k0 with
     | false =>
      refine Zu (fun W hW => ?_);replace HLC := zh (HLC.o.trans (show Za w1 W by rw [hW]; exact (Za.refl _).drew));clear hW;have hx := HLC.o;have x0 := (hx.cell ⟨w.heap.size, 0, none⟩ hMB).trans m0; have x1 := (hx.cell ⟨w.heap.size, 1, none⟩ hMB).trans m1; have x2 := (hx.cell ⟨w.heap.size, 2, none⟩ hMB).trans m2; have x3 := (hx.cell ⟨w.heap.size, 3, none⟩ hMB).trans m3; have x4 := (hx.cell ⟨w.heap.size, 4, none⟩ hMB).trans m4; have x12 := (hx.cell ⟨B, 12, none⟩ hSB).trans y12; obtain ⟨i00, i01, i02, i03, i04, i05⟩ := HAT0.o.later hx; obtain ⟨i10, i11, i12, i13, i14, i15⟩ := HAT1.o.later hx
      repeat go_big_quiet_step (fail)
      refine wpQuiet_nil ?_;clear hx x0 x1 x2 x3 x4 x12 i00 i01 i02 i03 i04 i05 i10 i11 i12 i13 i14 i15;have hR0 : R = false := by rw [HR.o]; simp
      subst hR0;go_wp2_with fail;go_ret;exact ⟨rfl, HB.o.trans HLC.o⟩
     | true =>
      cases k1 with
      | false =>
       refine Zu (fun W hW => ?_);replace HLC := zh (HLC.o.trans (show Za w1 W by rw [hW]; exact (Za.refl _).drew));clear hW;have hx := HLC.o;have x0 := (hx.cell ⟨w.heap.size, 0, none⟩ hMB).trans m0; have x1 := (hx.cell ⟨w.heap.size, 1, none⟩ hMB).trans m1; have x2 := (hx.cell ⟨w.heap.size, 2, none⟩ hMB).trans m2; have x3 := (hx.cell ⟨w.heap.size, 3, none⟩ hMB).trans m3; have x4 := (hx.cell ⟨w.heap.size, 4, none⟩ hMB).trans m4; have x12 := (hx.cell ⟨B, 12, none⟩ hSB).trans y12; obtain ⟨i00, i01, i02, i03, i04, i05⟩ := HAT0.o.later hx; obtain ⟨i10, i11, i12, i13, i14, i15⟩ := HAT1.o.later hx
       repeat go_big_quiet_step (fail)
       refine wpQuiet_nil ?_;clear hx x0 x1 x2 x3 x4 x12 i00 i01 i02 i03 i04 i05 i10 i11 i12 i13 i14 i15;have hR0 : R = false := by rw [HR.o]; simp
       subst hR0;go_wp2_with fail;go_ret;exact ⟨rfl, HB.o.trans HLC.o⟩
      | true =>
       cases q0 with
       | false =>
        refine Zek w1 (by kernel_rfl) (by kernel_rfl) HLC.o ?_;obtain ⟨x0, x1, x2, x3, x4⟩ := cg5 w.heap.size HM.o;have x12 := fun y => ((Zk w1 y).cell ⟨B, 12, none⟩ hSB).trans y12;obtain ⟨i00, i01, i02, i03, i04, i05⟩ := vg HAT0.o;obtain ⟨i10, i11, i12, i13, i14, i15⟩ := vg HAT1.o
        repeat go_big_quiet_step (fail)
        go_big_quiet_step ((refine (Za3 r B cs F _ a _ (HS.o.later (Zk w1 _)) (Zc.keep HEL0.o (fun _ h => h) (Zg.later (Zk w1 _)))).mono ?_; rw [Hq0.o]; rintro e w9 ⟨rfl, hcl⟩; exact ⟨rfl, _, Zbw ((Zk w1 _).trans hcl)⟩))
        repeat go_big_quiet_step (fail)
        refine wpQuiet_nil (Zcn fun W hWL => ?_);replace HLC := zh hWL;clear hWL x0 x1 x2 x3 x4 x12 i00 i01 i02 i03 i04 i05 i10 i11 i12 i13 i14 i15;have hR0 : R = false := by rw [HR.o]; simp
        subst hR0;go_wp2_with fail;go_ret;exact ⟨rfl, HB.o.trans HLC.o⟩
       | true =>
        have htx : a.text.size ≤ 120 := Zeh Hq0.o (by simpa using Hk0.o);have hwr : IntKind.i64.wrap ((a.text.size : Int) + 1) = (a.text.size : Int) + 1 := by rw [IntKind.wrap_i64]; omega
        cases q1 with
        | false =>
         refine Zek w1 (by kernel_rfl) (by kernel_rfl) HLC.o ?_;obtain ⟨x0, x1, x2, x3, x4⟩ := cg5 w.heap.size HM.o;have x12 := fun y => ((Zk w1 y).cell ⟨B, 12, none⟩ hSB).trans y12;obtain ⟨i00, i01, i02, i03, i04, i05⟩ := vg HAT0.o;obtain ⟨i10, i11, i12, i13, i14, i15⟩ := vg HAT1.o
         repeat go_big_quiet_step (fail)
         go_big_quiet_step ((refine (Za3 r B cs F _ a _ (HS.o.later (Zk w1 _)) (Zc.keep HEL0.o (fun _ h => h) (Zg.later (Zk w1 _)))).mono ?_; rw [Hq0.o]; rintro e w9 ⟨rfl, hcl⟩; exact ⟨rfl, _, Zbw ((Zk w1 _).trans hcl)⟩))
         repeat go_big_quiet_step (fail)
         go_big_quiet_step ((refine (Za3 r B cs F _ b _ (HS.o.later (Zk w1 _)) (Zc.keep HEL1.o (fun _ h => h) (Zg.later (Zk w1 _)))).mono ?_; rw [Hq1.o]; rintro e w9 ⟨rfl, hcl⟩; exact ⟨rfl, _, Zbw ((Zk w1 _).trans hcl)⟩))
         repeat go_big_quiet_step (fail)
         refine wpQuiet_nil (Zcn fun W hWL => ?_);replace HLC := zh hWL;clear hWL x0 x1 x2 x3 x4 x12 i00 i01 i02 i03 i04 i05 i10 i11 i12 i13 i14 i15;have hR0 : R = false := by rw [HR.o]; simp
         subst hR0;go_wp2_with fail;go_ret;exact ⟨rfl, HB.o.trans HLC.o⟩
        | true =>
         cases n1 with
         | false =>
          refine Zek w1 (by kernel_rfl) (by kernel_rfl) HLC.o ?_;obtain ⟨x0, x1, x2, x3, x4⟩ := cg5 w.heap.size HM.o;have x12 := fun y => ((Zk w1 y).cell ⟨B, 12, none⟩ hSB).trans y12;obtain ⟨i00, i01, i02, i03, i04, i05⟩ := vg HAT0.o;obtain ⟨i10, i11, i12, i13, i14, i15⟩ := vg HAT1.o
          repeat go_big_quiet_step (fail)
          go_big_quiet_step ((refine (Za3 r B cs F _ a _ (HS.o.later (Zk w1 _)) (Zc.keep HEL0.o (fun _ h => h) (Zg.later (Zk w1 _)))).mono ?_; rw [Hq0.o]; rintro e w9 ⟨rfl, hcl⟩; exact ⟨rfl, _, Zbw ((Zk w1 _).trans hcl)⟩))
          repeat go_big_quiet_step (fail)
          go_big_quiet_step ((refine (Za3 r B cs F _ b _ (HS.o.later (Zk w1 _)) (Zc.keep HEL1.o (fun _ h => h) (Zg.later (Zk w1 _)))).mono ?_; rw [Hq1.o]; rintro e w9 ⟨rfl, hcl⟩; exact ⟨rfl, _, Zbw ((Zk w1 _).trans hcl)⟩))
          repeat go_big_quiet_step (fail)
          go_big_quiet_step (((try rw [hwr]); refine (Zcw _ _ _ _).mono ?_; rw [Hn1.o, Hn2.o]; rintro e w9 ⟨rfl, rfl⟩; exact ⟨rfl, _, rfl⟩))
          repeat go_big_quiet_step (fail)
          refine wpQuiet_nil (Zcn fun W hWL => ?_);replace HLC := zh hWL;clear hWL x0 x1 x2 x3 x4 x12 i00 i01 i02 i03 i04 i05 i10 i11 i12 i13 i14 i15;have hR0 : R = false := by rw [HR.o]; simp
          subst hR0;go_wp2_with fail;go_ret;exact ⟨rfl, HB.o.trans HLC.o⟩
         | true =>
          cases n2 with
          | false =>
           refine Zek w1 (by kernel_rfl) (by kernel_rfl) HLC.o ?_;obtain ⟨x0, x1, x2, x3, x4⟩ := cg5 w.heap.size HM.o;have x12 := fun y => ((Zk w1 y).cell ⟨B, 12, none⟩ hSB).trans y12;obtain ⟨i00, i01, i02, i03, i04, i05⟩ := vg HAT0.o;obtain ⟨i10, i11, i12, i13, i14, i15⟩ := vg HAT1.o
           repeat go_big_quiet_step (fail)
           go_big_quiet_step ((refine (Za3 r B cs F _ a _ (HS.o.later (Zk w1 _)) (Zc.keep HEL0.o (fun _ h => h) (Zg.later (Zk w1 _)))).mono ?_; rw [Hq0.o]; rintro e w9 ⟨rfl, hcl⟩; exact ⟨rfl, _, Zbw ((Zk w1 _).trans hcl)⟩))
           repeat go_big_quiet_step (fail)
           go_big_quiet_step ((refine (Za3 r B cs F _ b _ (HS.o.later (Zk w1 _)) (Zc.keep HEL1.o (fun _ h => h) (Zg.later (Zk w1 _)))).mono ?_; rw [Hq1.o]; rintro e w9 ⟨rfl, hcl⟩; exact ⟨rfl, _, Zbw ((Zk w1 _).trans hcl)⟩))
           repeat go_big_quiet_step (fail)
           go_big_quiet_step (((try rw [hwr]); refine (Zcw _ _ _ _).mono ?_; rw [Hn1.o, Hn2.o]; rintro e w9 ⟨rfl, rfl⟩; exact ⟨rfl, _, rfl⟩))
           repeat go_big_quiet_step (fail)
           refine wpQuiet_nil (Zcn fun W hWL => ?_);replace HLC := zh hWL;clear hWL x0 x1 x2 x3 x4 x12 i00 i01 i02 i03 i04 i05 i10 i11 i12 i13 i14 i15;have hR0 : R = false := by rw [HR.o]; simp
           subst hR0;go_wp2_with fail;go_ret;exact ⟨rfl, HB.o.trans HLC.o⟩
          | true =>
           refine Zek w1 (by kernel_rfl) (by kernel_rfl) HLC.o ?_;obtain ⟨x0, x1, x2, x3, x4⟩ := cg5 w.heap.size HM.o;have x12 := fun y => ((Zk w1 y).cell ⟨B, 12, none⟩ hSB).trans y12;obtain ⟨i00, i01, i02, i03, i04, i05⟩ := vg HAT0.o;obtain ⟨i10, i11, i12, i13, i14, i15⟩ := vg HAT1.o
           repeat go_big_quiet_step (fail)
           go_big_quiet_step ((refine (Za3 r B cs F _ a _ (HS.o.later (Zk w1 _)) (Zc.keep HEL0.o (fun _ h => h) (Zg.later (Zk w1 _)))).mono ?_; rw [Hq0.o]; rintro e w9 ⟨rfl, hcl⟩; exact ⟨rfl, _, Zbw ((Zk w1 _).trans hcl)⟩))
           repeat go_big_quiet_step (fail)
           go_big_quiet_step ((refine (Za3 r B cs F _ b _ (HS.o.later (Zk w1 _)) (Zc.keep HEL1.o (fun _ h => h) (Zg.later (Zk w1 _)))).mono ?_; rw [Hq1.o]; rintro e w9 ⟨rfl, hcl⟩; exact ⟨rfl, _, Zbw ((Zk w1 _).trans hcl)⟩))
           repeat go_big_quiet_step (fail)
           go_big_quiet_step (((try rw [hwr]); refine (Zcw _ _ _ _).mono ?_; rw [Hn1.o, Hn2.o]; rintro e w9 ⟨rfl, rfl⟩; exact ⟨rfl, _, rfl⟩))
           repeat go_big_quiet_step (fail)
           refine wpQuiet_nil (Zcn fun W hWL => ?_);replace HLC := zh hWL;clear hWL x0 x1 x2 x3 x4 x12 i00 i01 i02 i03 i04 i05 i10 i11 i12 i13 i14 i15;have hR0 : R = true := by rw [HR.o]; rfl
           subst hR0;go_wp2_with fail;go_ret;exact ⟨rfl, HB.o.trans HLC.o⟩
theorem Zo1 (r : Zf) (B : Nat) (cs : List Value) (F : Nat → Prop) (w : World) (kd tag aI : Int) (aJ aK : List Ze) (vi vk : Value) (h : Z1 F w B r cs) (hi : Zp Zd 6 F w aJ vi) (hk : Zp Zd 6 F w aK vk) (hkd : kd < 1) (hkz : aK.length ≤ 1048576) :
  Calls Tryz.prog 100 #[.pointer (some ⟨B, 0, none⟩), .agg #[.int .i64 kd, .int .i64 tag, .int .i64 aI, vi, vk]] w fun e w' => e = .returned (.bool (Zaa r ⟨kd, tag, aI, aJ, aK⟩)) ∧ Below w.heap.size w w' := by
 obtain ⟨R, hR⟩ : ∃ R, Zaa r ⟨kd, tag, aI, aJ, aK⟩ = R := ⟨_, rfl⟩;rw [hR];have HR0 := zh hR;clear hR;obtain ⟨Ai, ci, rfl, hci, hcmi, _⟩ := id hi;obtain ⟨Ak, ck, rfl, hck, hcmk, _⟩ := id hk;unfold maxLen at hcmi hcmk;have hl1 := (Za.refl w).alloc (.cells #[.int .i64 kd, .int .i64 tag, .int .i64 aI, .slice Ai aJ.length ci, .slice Ak aK.length ck] 94);have HS := zh (h.later hl1);have HI := zh (hi.later Zc hl1);have HK := zh (hk.later Zc hl1);have HM := zh (heap_alloc_new w (.cells #[.int .i64 kd, .int .i64 tag, .int .i64 aI, .slice Ai aJ.length ci, .slice Ak aK.length ck] 94));have HB := zh hl1;obtain ⟨w1, hw1⟩ : ∃ x, x = w.alloc (.cells #[.int .i64 kd, .int .i64 tag, .int .i64 aI, .slice Ai aJ.length ci, .slice Ak aK.length ck] 94) := ⟨_, rfl⟩;rw [← hw1] at HS HI HK HM HB;have HLC := zh (Za.refl w1);clear h hi hk hl1;have hR0 : R = false := by rw [← HR0.o]; unfold Zaa Z9; simp only []; rw [if_neg (by omega : ¬ kd = 1), if_neg (by omega : ¬ kd = 2), if_neg (by omega : ¬ kd = 3), if_neg (by omega : ¬ kd = 4), if_neg (by omega : ¬ kd = 5), if_neg (by omega : ¬ kd = 6), if_neg (by omega : ¬ kd = 7), if_neg (by omega : ¬ kd = 8), if_neg (by omega : ¬ kd = 9)]; simp
 subst hR0;clear HR0;have g1 : (kd == 1) = false := nH.2 (by omega);have n1 : (kd != 1) = true := bne_iff_ne.2 (by omega);have g2 : (kd == 2) = false := nH.2 (by omega);have n2 : (kd != 2) = true := bne_iff_ne.2 (by omega);have g3 : (kd == 3) = false := nH.2 (by omega);have n3 : (kd != 3) = true := bne_iff_ne.2 (by omega);have g4 : (kd == 4) = false := nH.2 (by omega);have n4 : (kd != 4) = true := bne_iff_ne.2 (by omega);have g5 : (kd == 5) = false := nH.2 (by omega);have n5 : (kd != 5) = true := bne_iff_ne.2 (by omega);have g6 : (kd == 6) = false := nH.2 (by omega);have n6 : (kd != 6) = true := bne_iff_ne.2 (by omega);have g7 : (kd == 7) = false := nH.2 (by omega);have n7 : (kd != 7) = true := bne_iff_ne.2 (by omega);have g8 : (kd == 8) = false := nH.2 (by omega);have n8 : (kd != 8) = true := bne_iff_ne.2 (by omega);have g9 : (kd == 9) = false := nH.2 (by omega);have n9 : (kd != 9) = true := bne_iff_ne.2 (by omega);have d2 : decide (2 ≤ kd) = false := decide_eq_false (by omega);obtain ⟨s0, hs0⟩ : ∃ q, (aI == 0) = q := ⟨_, rfl⟩;have W0s0 : (aI != 0) = !s0 := by rw [← hs0]; exact (by rw [Bool.eq_iff_iff]; simp only [nJ, nK, nL, ne_eq, nM, nI, nH] <;> omega)
 obtain ⟨tg, htg⟩ : ∃ q, (tag == 0) = q := ⟨_, rfl⟩;have W0tg : (tag != 0) = !tg := by rw [← htg]; exact (by rw [Bool.eq_iff_iff]; simp only [nJ, nK, nL, ne_eq, nM, nI, nH] <;> omega)
 have W1tg : (tag == 0) = tg := htg;obtain ⟨ky, hky⟩ : ∃ q, (decide (aK.length = 0)) = q := ⟨_, rfl⟩;have W0ky : ((aK.length : Int) != 0) = !ky := by rw [← hky]; exact (by rw [Bool.eq_iff_iff]; simp only [nJ, nK, nL, ne_eq, nM, nI, nH] <;> omega)
 have W1ky : ((aK.length : Int) == 0) = ky := by rw [← hky]; exact (by rw [Bool.eq_iff_iff]; simp only [nJ, nK, nL, ne_eq, nM, nI, nH] <;> omega)
 have Hs0 := zh hs0;clear hs0;have Htg := zh htg;clear htg;have Hky := zh hky;clear hky;clear hkd;go_enter Tryz.func100, Tryz.ntmps100;go_upto_region 4 with (fail);rw [← hw1];clear hw1;have HMC := zB HLC HM;have m0 := cz5 HMC.o
 cases s0 with
 | false =>
  simp only [Bool.not_false] at W0s0;go_wp2_with fail;go_ret;exact ⟨rfl, HB.o.trans HLC.o⟩
 | true =>
  simp only [Bool.not_true] at W0s0
  cases tg with
  | false =>
   simp only [Bool.not_false] at W0tg;go_wp2_with fail;go_ret;exact ⟨rfl, HB.o.trans HLC.o⟩
  | true =>
   simp only [Bool.not_true] at W0tg
   cases ky with
   | false =>
    simp only [Bool.not_false] at W0ky;go_wp2_with fail;go_ret;exact ⟨rfl, HB.o.trans HLC.o⟩
   | true =>
    simp only [Bool.not_true] at W0ky;go_wp2_with fail;go_ret;exact ⟨rfl, HB.o.trans HLC.o⟩
theorem Zo2 (r : Zf) (B : Nat) (cs : List Value) (F : Nat → Prop) (w : World) (kd tag aI : Int) (aJ aK : List Ze) (vi vk : Value) (h : Z1 F w B r cs) (hi : Zp Zd 6 F w aJ vi) (hk : Zp Zd 6 F w aK vk) (hkd : 9 < kd) (hkz : aK.length ≤ 1048576) :
  Calls Tryz.prog 100 #[.pointer (some ⟨B, 0, none⟩), .agg #[.int .i64 kd, .int .i64 tag, .int .i64 aI, vi, vk]] w fun e w' => e = .returned (.bool (Zaa r ⟨kd, tag, aI, aJ, aK⟩)) ∧ Below w.heap.size w w' := by
 obtain ⟨R, hR⟩ : ∃ R, Zaa r ⟨kd, tag, aI, aJ, aK⟩ = R := ⟨_, rfl⟩;rw [hR];have HR0 := zh hR;clear hR;obtain ⟨Ai, ci, rfl, hci, hcmi, _⟩ := id hi;obtain ⟨Ak, ck, rfl, hck, hcmk, _⟩ := id hk;unfold maxLen at hcmi hcmk;have hl1 := (Za.refl w).alloc (.cells #[.int .i64 kd, .int .i64 tag, .int .i64 aI, .slice Ai aJ.length ci, .slice Ak aK.length ck] 94);have HS := zh (h.later hl1);have HI := zh (hi.later Zc hl1);have HK := zh (hk.later Zc hl1);have HM := zh (heap_alloc_new w (.cells #[.int .i64 kd, .int .i64 tag, .int .i64 aI, .slice Ai aJ.length ci, .slice Ak aK.length ck] 94));have HB := zh hl1;obtain ⟨w1, hw1⟩ : ∃ x, x = w.alloc (.cells #[.int .i64 kd, .int .i64 tag, .int .i64 aI, .slice Ai aJ.length ci, .slice Ak aK.length ck] 94) := ⟨_, rfl⟩;rw [← hw1] at HS HI HK HM HB;have HLC := zh (Za.refl w1);clear h hi hk hl1;have hR0 : R = false := by rw [← HR0.o]; unfold Zaa Z9; simp only []; rw [if_neg (by omega : ¬ kd = 1), if_neg (by omega : ¬ kd = 2), if_neg (by omega : ¬ kd = 3), if_neg (by omega : ¬ kd = 4), if_neg (by omega : ¬ kd = 5), if_neg (by omega : ¬ kd = 6), if_neg (by omega : ¬ kd = 7), if_neg (by omega : ¬ kd = 8), if_neg (by omega : ¬ kd = 9)]; simp
 subst hR0;clear HR0;have g1 : (kd == 1) = false := nH.2 (by omega);have n1 : (kd != 1) = true := bne_iff_ne.2 (by omega);have g2 : (kd == 2) = false := nH.2 (by omega);have n2 : (kd != 2) = true := bne_iff_ne.2 (by omega);have g3 : (kd == 3) = false := nH.2 (by omega);have n3 : (kd != 3) = true := bne_iff_ne.2 (by omega);have g4 : (kd == 4) = false := nH.2 (by omega);have n4 : (kd != 4) = true := bne_iff_ne.2 (by omega);have g5 : (kd == 5) = false := nH.2 (by omega);have n5 : (kd != 5) = true := bne_iff_ne.2 (by omega);have g6 : (kd == 6) = false := nH.2 (by omega);have n6 : (kd != 6) = true := bne_iff_ne.2 (by omega);have g7 : (kd == 7) = false := nH.2 (by omega);have n7 : (kd != 7) = true := bne_iff_ne.2 (by omega);have g8 : (kd == 8) = false := nH.2 (by omega);have n8 : (kd != 8) = true := bne_iff_ne.2 (by omega);have g9 : (kd == 9) = false := nH.2 (by omega);have n9 : (kd != 9) = true := bne_iff_ne.2 (by omega);have d2 : decide (2 ≤ kd) = true := decide_eq_true (by omega);have d7 : decide (kd ≤ 7) = false := decide_eq_false (by omega);obtain ⟨s0, hs0⟩ : ∃ q, (aI == 0) = q := ⟨_, rfl⟩;have W0s0 : (aI != 0) = !s0 := by rw [← hs0]; exact (by rw [Bool.eq_iff_iff]; simp only [nJ, nK, nL, ne_eq, nM, nI, nH] <;> omega)
 obtain ⟨tg, htg⟩ : ∃ q, (tag == 0) = q := ⟨_, rfl⟩;have W0tg : (tag != 0) = !tg := by rw [← htg]; exact (by rw [Bool.eq_iff_iff]; simp only [nJ, nK, nL, ne_eq, nM, nI, nH] <;> omega)
 have W1tg : (tag == 0) = tg := htg;obtain ⟨ky, hky⟩ : ∃ q, (decide (aK.length = 0)) = q := ⟨_, rfl⟩;have W0ky : ((aK.length : Int) != 0) = !ky := by rw [← hky]; exact (by rw [Bool.eq_iff_iff]; simp only [nJ, nK, nL, ne_eq, nM, nI, nH] <;> omega)
 have W1ky : ((aK.length : Int) == 0) = ky := by rw [← hky]; exact (by rw [Bool.eq_iff_iff]; simp only [nJ, nK, nL, ne_eq, nM, nI, nH] <;> omega)
 have Hs0 := zh hs0;clear hs0;have Htg := zh htg;clear htg;have Hky := zh hky;clear hky;clear hkd;go_enter Tryz.func100, Tryz.ntmps100;go_upto_region 4 with (fail);rw [← hw1];clear hw1;have HMC := zB HLC HM;have m0 := cz5 HMC.o
 cases s0 with
 | false =>
  simp only [Bool.not_false] at W0s0;go_wp2_with fail;go_ret;exact ⟨rfl, HB.o.trans HLC.o⟩
 | true =>
  simp only [Bool.not_true] at W0s0
  cases tg with
  | false =>
   simp only [Bool.not_false] at W0tg;go_wp2_with fail;go_ret;exact ⟨rfl, HB.o.trans HLC.o⟩
  | true =>
   simp only [Bool.not_true] at W0tg
   cases ky with
   | false =>
    simp only [Bool.not_false] at W0ky;go_wp2_with fail;go_ret;exact ⟨rfl, HB.o.trans HLC.o⟩
   | true =>
    simp only [Bool.not_true] at W0ky;go_wp2_with fail;go_ret;exact ⟨rfl, HB.o.trans HLC.o⟩
theorem Zjb (r : Zf) (B : Nat) (cs : List Value) (F : Nat → Prop) (w : World) (o : Z8) (os : List Value) (h : Z1 F w B r cs) (ho : Zcp F w o os) (hkz : o.aK.length ≤ 1048576) :
  Calls Tryz.prog 100 #[.pointer (some ⟨B, 0, none⟩), .agg os.toArray] w fun e w' => e = .returned (.bool (Zaa r o)) ∧ Below w.heap.size w w' := by
 obtain ⟨vi, vk, rfl, _, _, _, hi, hk⟩ := ho;obtain ⟨kd, tag, aI, aJ, aK⟩ := o;have hx : kd < 1 ∨ 9 < kd ∨ kd = 1 ∨ kd = 2 ∨ kd = 3 ∨ kd = 4 ∨ kd = 5 ∨ kd = 6 ∨ kd = 7 ∨ kd = 8 ∨ kd = 9 := by omega
 rcases hx with hx | hx | rfl | rfl | rfl | rfl | rfl | rfl | rfl | rfl | rfl
 ·exact Zo1 r B cs F w kd tag aI aJ aK vi vk h hi hk hx hkz
 ·exact Zo2 r B cs F w kd tag aI aJ aK vi vk h hi hk hx hkz
 ·exact Zq1 r B cs F w tag aI aJ aK vi vk h hi hk hkz
 ·exact Zq2 r B cs F w tag aI aJ aK vi vk h hi hk hkz
 ·exact Zq3 r B cs F w tag aI aJ aK vi vk h hi hk hkz
 ·exact Zq4 r B cs F w tag aI aJ aK vi vk h hi hk hkz
 ·exact Zq8 r B cs F w tag aI aJ aK vi vk h hi hk hkz
 ·exact Zq6 r B cs F w tag aI aJ aK vi vk h hi hk hkz
 ·exact Zq5 r B cs F w tag aI aJ aK vi vk h hi hk hkz
 ·exact Zq7 r B cs F w tag aI aJ aK vi vk h hi hk hkz
 ·exact Zq9 r B cs F w tag aI aJ aK vi vk h hi hk hkz
theorem Ze8 (r : Zf) (cs : List Value) (F : Nat → Prop) (w : World) (hsz : Zai r ≤ 1048576) (h : Zb1 F w r cs) :
  Calls Tryz.prog 45 #[.agg cs.toArray] w fun e w' => e = .returned (.bool (Zab r)) ∧ Below w.heap.size w w' := by
 obtain ⟨R, hR⟩ : ∃ R, Zab r = R := ⟨_, rfl⟩;rw [hR];have HR0 := zh hR;clear hR;have hel := h;obtain ⟨aL, aM, aN, aO, aP, aQ, aR, rfl, aV, aW, aX, aY, aZ, bA, bB, bD, bE, bF, bG, bH⟩ := h;obtain ⟨An, cn, rfl, kn, ln, _⟩ := id aV;obtain ⟨Ar, cr, rfl, kr, lr, _⟩ := id aW;obtain ⟨Ao, co, rfl, ko, lo, _⟩ := id aX;obtain ⟨Ag, cg, rfl, kg, lg, _⟩ := id aY;obtain ⟨Au, cu, rfl, ku, lu, _⟩ := id bB;obtain ⟨At, ct, rfl, kt, lt, _⟩ := id bD;obtain ⟨Aa, ca, rfl, ka, la, _⟩ := id bE;unfold maxLen at ln lr lo lg lu lt la;have HSO : Hd (∀ j (h : j < r.aA.length), r.aA[j].aK.length ≤ 1048576) := zh (fun j h => by
  have hz : Zo ByteArray.size r.names + (Zo Z5 r.aB + (Zo Z3 r.aA + (Zo Zah r.globals + (r.aC.size + (Zo ByteArray.size r.output + (Zo ByteArray.size r.trace + (Zo (fun _ => 0) r.aE))))))) ≤ 1048576 := hsz;have h1 : Zo Z3 r.aA = r.aA.length + Za0 Z3 r.aA := rfl;have h2 := Zdl Z3 r.aA _ (List.getElem_mem h);have h3 : Z3 r.aA[j] = (r.aA[j].aJ.length + Za0 Zah r.aA[j].aJ) + (r.aA[j].aK.length + Za0 Zah r.aA[j].aK) := rfl
  omega)
 have HOL : Hd (r.aA.length ≤ 1048576) := zh (by
  have hz : Zo ByteArray.size r.names + (Zo Z5 r.aB + (Zo Z3 r.aA + (Zo Zah r.globals + (r.aC.size + (Zo ByteArray.size r.output + (Zo ByteArray.size r.trace + (Zo (fun _ => 0) r.aE))))))) ≤ 1048576 := hsz;have h1 : Zo Z3 r.aA = r.aA.length + Za0 Z3 r.aA := rfl
  omega)
 have HSL : Hd (r.aC.size ≤ 1048576) := zh (by
  have hz : Zo ByteArray.size r.names + (Zo Z5 r.aB + (Zo Z3 r.aA + (Zo Zah r.globals + (r.aC.size + (Zo ByteArray.size r.output + (Zo ByteArray.size r.trace + (Zo (fun _ => 0) r.aE))))))) ≤ 1048576 := hsz
  omega)
 have hl1 := (Za.refl w).alloc (.cells #[.slice An r.names.length cn, .slice Ar r.aB.length cr, .slice Ao r.aA.length co, .slice Ag r.globals.length cg, .string r.aC, .int .i64 r.aD, .slice Au r.output.length cu, .slice At r.trace.length ct, .slice Aa r.aE.length ca, .bool r.aF, .int .i64 r.ticks, .int .i64 r.aG, .int .i64 r.made] 30);have HEL := zh hel;have HQn := zh aV;have HQr := zh aW;have HQo := zh aX;have HQg := zh aY;have HQu := zh bB;have HQt := zh bD;have HQa := zh bE;have HP64 := zh (show Zs r.aD ∧ Zs r.ticks ∧ Zs r.aG ∧ Zs r.made from ⟨bA, bF, bG, bH⟩);have HM := zh (heap_alloc_new w (.cells #[.slice An r.names.length cn, .slice Ar r.aB.length cr, .slice Ao r.aA.length co, .slice Ag r.globals.length cg, .string r.aC, .int .i64 r.aD, .slice Au r.output.length cu, .slice At r.trace.length ct, .slice Aa r.aE.length ca, .bool r.aF, .int .i64 r.ticks, .int .i64 r.aG, .int .i64 r.made] 30));have HB := zh (show Below w.heap.size w _ from hl1);obtain ⟨M, hM⟩ : ∃ M, w.heap.size = M := ⟨_, rfl⟩;obtain ⟨w1, hw1⟩ : ∃ x, x = w.alloc (.cells #[.slice An r.names.length cn, .slice Ar r.aB.length cr, .slice Ao r.aA.length co, .slice Ag r.globals.length cg, .string r.aC, .int .i64 r.aD, .slice Au r.output.length cu, .slice At r.trace.length ct, .slice Aa r.aE.length ca, .bool r.aF, .int .i64 r.ticks, .int .i64 r.aG, .int .i64 r.made] 30) := ⟨_, rfl⟩
 rw [← hw1] at HM HB;rw [hM] at HM;clear hel hl1 hsz aV aW aX aY aZ bA bB bD bE bF bG bH;obtain ⟨n12, hn12⟩ : ∃ q, (decide (r.names.length ≤ 12)) = q := ⟨_, rfl⟩;have W0n12 : (decide (12 < (r.names.length : Int))) = !n12 := by rw [← hn12]; exact (by rw [Bool.eq_iff_iff]; simp only [nJ, nK, nL, ne_eq, nM, nI, nH] <;> omega)
 obtain ⟨nm, hnm⟩ : ∃ q, (r.names.all Zbj) = q := ⟨_, rfl⟩;obtain ⟨r8, hr8⟩ : ∃ q, (decide (r.aB.length ≤ 8)) = q := ⟨_, rfl⟩;have W0r8 : (decide (8 < (r.aB.length : Int))) = !r8 := by rw [← hr8]; exact (by rw [Bool.eq_iff_iff]; simp only [nJ, nK, nL, ne_eq, nM, nI, nH] <;> omega)
 obtain ⟨rok, hrok⟩ : ∃ q, (r.aB.all Zdp) = q := ⟨_, rfl⟩;obtain ⟨g12, hg12⟩ : ∃ q, (decide (r.globals.length ≤ 12)) = q := ⟨_, rfl⟩;have W0g12 : (decide (12 < (r.globals.length : Int))) = !g12 := by rw [← hg12]; exact (by rw [Bool.eq_iff_iff]; simp only [nJ, nK, nL, ne_eq, nM, nI, nH] <;> omega)
 obtain ⟨s120, hs120⟩ : ∃ q, (decide (r.aC.size ≤ 120)) = q := ⟨_, rfl⟩;have W0s120 : (decide (120 < (r.aC.size : Int))) = !s120 := by rw [← hs120]; exact (by rw [Bool.eq_iff_iff]; simp only [nJ, nK, nL, ne_eq, nM, nI, nH] <;> omega)
 obtain ⟨p1, hp1⟩ : ∃ q, (decide (1 ≤ r.aD)) = q := ⟨_, rfl⟩;have W0p1 : (decide (r.aD < 1)) = !p1 := by rw [← hp1]; exact (by rw [Bool.eq_iff_iff]; simp only [nJ, nK, nL, ne_eq, nM, nI, nH] <;> omega)
 obtain ⟨p2, hp2⟩ : ∃ q, (decide (r.aD ≤ (r.aC.size : Int) + 1)) = q := ⟨_, rfl⟩;have W0p2 : (decide ((r.aC.size : Int) + 1 < r.aD)) = !p2 := by rw [← hp2]; exact (by rw [Bool.eq_iff_iff]; simp only [nJ, nK, nL, ne_eq, nM, nI, nH] <;> omega)
 obtain ⟨a40, ha40⟩ : ∃ q, (decide (r.aE.length ≤ 40)) = q := ⟨_, rfl⟩;have W0a40 : (decide (40 < (r.aE.length : Int))) = !a40 := by rw [← ha40]; exact (by rw [Bool.eq_iff_iff]; simp only [nJ, nK, nL, ne_eq, nM, nI, nH] <;> omega)
 obtain ⟨acts, hacts⟩ : ∃ q, (r.aE.all (Zcj r)) = q := ⟨_, rfl⟩;obtain ⟨outs, houts⟩ : ∃ q, (r.output.all Ze2) = q := ⟨_, rfl⟩;obtain ⟨b0, hb0⟩ : ∃ q, (decide (0 ≤ r.aG)) = q := ⟨_, rfl⟩;have W0b0 : (decide (r.aG < 0)) = !b0 := by rw [← hb0]; exact (by rw [Bool.eq_iff_iff]; simp only [nJ, nK, nL, ne_eq, nM, nI, nH] <;> omega)
 obtain ⟨b4, hb4⟩ : ∃ q, (decide (r.aG ≤ 4000)) = q := ⟨_, rfl⟩;have W0b4 : (decide (4000 < r.aG)) = !b4 := by rw [← hb4]; exact (by rw [Bool.eq_iff_iff]; simp only [nJ, nK, nL, ne_eq, nM, nI, nH] <;> omega)
 obtain ⟨t0, ht0⟩ : ∃ q, (decide (0 ≤ r.ticks)) = q := ⟨_, rfl⟩;have W0t0 : (decide (r.ticks < 0)) = !t0 := by rw [← ht0]; exact (by rw [Bool.eq_iff_iff]; simp only [nJ, nK, nL, ne_eq, nM, nI, nH] <;> omega)
 obtain ⟨tb, htb⟩ : ∃ q, (decide (r.ticks ≤ r.aG)) = q := ⟨_, rfl⟩;have W0tb : (decide (r.aG < r.ticks)) = !tb := by rw [← htb]; exact (by rw [Bool.eq_iff_iff]; simp only [nJ, nK, nL, ne_eq, nM, nI, nH] <;> omega)
 obtain ⟨m0_, hm0_⟩ : ∃ q, (decide (0 ≤ r.made)) = q := ⟨_, rfl⟩;have W0m0_ : (decide (r.made < 0)) = !m0_ := by rw [← hm0_]; exact (by rw [Bool.eq_iff_iff]; simp only [nJ, nK, nL, ne_eq, nM, nI, nH] <;> omega)
 obtain ⟨gl, hgl⟩ : ∃ q, (Zaf r r.globals) = q := ⟨_, rfl⟩;obtain ⟨objs, hobjs⟩ : ∃ q, (r.aA.all (Zaa r)) = q := ⟨_, rfl⟩;obtain ⟨sers, hsers⟩ : ∃ q, (Zcd r.aA) = q := ⟨_, rfl⟩;have HR := zh (show R = (n12 && (nm && (r8 && (rok && (g12 && (s120 && (p1 && (p2 && (a40 && (acts && (outs && (b0 && (b4 && (t0 && (tb && (m0_ && (gl && (objs && (sers))))))))))))))))))) by rw [← HR0.o, ← hn12, ← hnm, ← hr8, ← hrok, ← hg12, ← hs120, ← hp1, ← hp2, ← ha40, ← hacts, ← houts, ← hb0, ← hb4, ← ht0, ← htb, ← hm0_, ← hgl, ← hobjs, ← hsers]; try rfl);have Hn12 := zh hn12;clear hn12;have Hnm := zh hnm;clear hnm;have Hr8 := zh hr8;clear hr8;have Hrok := zh hrok;clear hrok;have Hg12 := zh hg12;clear hg12;have Hs120 := zh hs120;clear hs120;have Hp1 := zh hp1;clear hp1;have Hp2 := zh hp2;clear hp2;have Ha40 := zh ha40;clear ha40;have Hacts := zh hacts;clear hacts;have Houts := zh houts;clear houts;have Hb0 := zh hb0;clear hb0;have Hb4 := zh hb4;clear hb4;have Ht0 := zh ht0;clear ht0;have Htb := zh htb;clear htb;have Hm0_ := zh hm0_;clear hm0_;have Hgl := zh hgl;clear hgl;have Hobjs := zh hobjs;clear hobjs;have Hsers := zh hsers;clear hsers;go_enter Tryz.func45, Tryz.ntmps45;go_upto_region 1 with (fail);rw [← hw1]
 try rw [hM]
 have HMS := zh hM;clear hw1 hM;obtain ⟨m0, m1, m2, m3, m4, m5, m6, m7, m8, m9, m10, m11, m12⟩ := Zbq HM.o
 cases n12 with
 | false =>
  simp only [Bool.not_false] at W0n12;have hR0 : R = false := by rw [HR.o]; simp
  subst hR0;go_wp2_with fail;go_ret;exact ⟨rfl, HB.o⟩
 | true =>
  simp only [Bool.not_true] at W0n12
  cases r8 with
  | false =>
   simp only [Bool.not_false] at W0r8;have hR0 : R = false := by rw [HR.o]; simp
   subst hR0;go_wp2_with fail;go_ret;exact ⟨rfl, HB.o⟩
  | true =>
   simp only [Bool.not_true] at W0r8
   cases g12 with
   | false =>
    simp only [Bool.not_false] at W0g12;have hR0 : R = false := by rw [HR.o]; simp
    subst hR0;go_wp2_with fail;go_ret;exact ⟨rfl, HB.o⟩
   | true =>
    simp only [Bool.not_true] at W0g12
    cases s120 with
    | false =>
     simp only [Bool.not_false] at W0s120;have hR0 : R = false := by rw [HR.o]; simp
     subst hR0;go_wp2_with fail;go_ret;exact ⟨rfl, HB.o⟩
    | true =>
     simp only [Bool.not_true] at W0s120;have hs120 : r.aC.size ≤ 120 := of_decide_eq_true Hs120.o;go_wp2_with fail;refine (Zcw _ _ _ _).mono ?_;rw [Hp1.o, Hp2.o];rintro e x4 ⟨rfl, rfl⟩
     cases p1 with
     | false =>
      simp only [Bool.not_false] at W0p1;have hR0 : R = false := by rw [HR.o]; simp
      subst hR0;go_wp2_with fail;go_ret;exact ⟨rfl, HB.o⟩
     | true =>
      simp only [Bool.not_true] at W0p1
      cases p2 with
      | false =>
       simp only [Bool.not_false] at W0p2;have hR0 : R = false := by rw [HR.o]; simp
       subst hR0;go_wp2_with fail;go_ret;exact ⟨rfl, HB.o⟩
      | true =>
       simp only [Bool.not_true] at W0p2
       cases a40 with
       | false =>
        simp only [Bool.not_false] at W0a40;have hR0 : R = false := by rw [HR.o]; simp
        subst hR0;go_wp2_with fail;go_ret;exact ⟨rfl, HB.o⟩
       | true =>
        simp only [Bool.not_true] at W0a40
        cases m0_ with
        | false =>
         simp only [Bool.not_false] at W0m0_;have hR0 : R = false := by rw [HR.o]; simp
         subst hR0;go_wp2_with fail;go_ret;exact ⟨rfl, HB.o⟩
        | true =>
         simp only [Bool.not_true] at W0m0_;go_wp2_with fail;refine (Zcw _ _ _ _).mono ?_;rw [Hb0.o, Hb4.o];rintro e x2 ⟨rfl, rfl⟩
         cases b0 with
         | false =>
          simp only [Bool.not_false] at W0b0;have hR0 : R = false := by rw [HR.o]; simp
          subst hR0;go_wp2_with fail;go_ret;exact ⟨rfl, HB.o⟩
         | true =>
          simp only [Bool.not_true] at W0b0
          cases b4 with
          | false =>
           simp only [Bool.not_false] at W0b4;have hR0 : R = false := by rw [HR.o]; simp
           subst hR0;go_wp2_with fail;go_ret;exact ⟨rfl, HB.o⟩
          | true =>
           simp only [Bool.not_true] at W0b4;go_wp2_with fail;refine (Zcw _ _ _ _).mono ?_;rw [Ht0.o, Htb.o];rintro e x3 ⟨rfl, rfl⟩
           cases t0 with
           | false =>
            simp only [Bool.not_false] at W0t0;have hR0 : R = false := by rw [HR.o]; simp
            subst hR0;go_wp2_with fail;go_ret;exact ⟨rfl, HB.o⟩
           | true =>
            simp only [Bool.not_true] at W0t0
            cases tb with
            | false =>
             simp only [Bool.not_false] at W0tb;have hR0 : R = false := by rw [HR.o]; simp
             subst hR0;go_wp2_with fail;go_ret;exact ⟨rfl, HB.o⟩
            | true =>
             simp only [Bool.not_true] at W0tb;go_wp2_with fail;refine (Zfl r.names _ 12 F _ (HQn.o.later Zad HB.o)).mono ?_;rw [Hnm.o, show decide ((r.names.length : Int) ≤ 12) = true by rw [← Hn12.o]; exact (by rw [Bool.eq_iff_iff]; simp only [nJ, nK, nL, ne_eq, nM, nI, nH] <;> omega)];rintro e x1 ⟨rfl, hcl⟩;clear m0 m1 m2 m3 m4 m5 m6 m7 m8 m9 m10 m11 m12;replace HM := zC hcl HM;replace HB := zh (HB.o.trans (Below.mono hcl HB.o.size));clear hcl;obtain ⟨m0, m1, m2, m3, m4, m5, m6, m7, m8, m9, m10, m11, m12⟩ := Zbq HM.o
             cases nm with
             | false =>
              have hR0 : R = false := by rw [HR.o]; simp
              subst hR0;go_wp2_with fail;go_ret;exact ⟨rfl, HB.o⟩
             | true =>
              go_wp2_with fail;clear m0 m1 m2 m3 m4 m5 m6 m7 m8 m9 m10 m11 m12
              go_loopw [3] (fun i wr => ∃ j : Nat, i = .int .i64 j ∧ j ≤ r.aB.length ∧ Hd (∀ k (h : k < r.aB.length), k < j → Zdp r.aB[k] = true) ∧ Hd (wr.heap[M]? = some (.cells #[.slice An r.names.length cn, .slice Ar r.aB.length cr, .slice Ao r.aA.length co, .slice Ag r.globals.length cg, .string r.aC, .int .i64 r.aD, .slice Au r.output.length cu, .slice At r.trace.length ct, .slice Aa r.aE.length ca, .bool r.aF, .int .i64 r.ticks, .int .i64 r.aG, .int .i64 r.made] 30 (0, 0))) ∧ Hd (Below w.heap.size w wr)) (fun i _ => r.aB.length - (intOf i).toNat)
              case atStart => exact ⟨0, rfl, Nat.zero_le _, zh (fun k _ h => by omega), HM, HB⟩
              case round =>
                              clear HM HB;obtain ⟨j, rfl, hj, HD, HM, HB⟩ := hrel;obtain ⟨m0, m1, m2, m3, m4, m5, m6, m7, m8, m9, m10, m11, m12⟩ := Zbq HM.o
                              by_cases hlt : j < r.aB.length
                              ·have t1 : decide ((j : Int) < r.aB.length) = true := decide_eq_true (by omega);obtain ⟨ob, oo, cs, rfl, _, hob, hE, hc⟩ := (HQr.o.later Zbh HB.o).at__ hlt;obtain ⟨vf, rfl, hnm64, hrf, hln64⟩ := hE;obtain ⟨Af, cf, rfl, hcf, hcmf, _⟩ := id hrf;unfold maxLen at hcmf;have e0 := hc 0 _ rfl;have e1 := hc 1 _ rfl;have e2 := hc 2 _ rfl;simp only [Nat.add_zero] at e0;obtain ⟨y, hy⟩ : ∃ y, r.aB[j] = y := ⟨_, rfl⟩;rw [hy] at e0 e1 e2 hnm64 hrf hln64 hcf;have HY := zh hy;have HRF := zh hrf;have HN64 := zh hnm64;clear hy hc hrf hnm64;have hl4 := (Za.refl wr).alloc (.cells #[.string y.name, .slice Af y.fields.length cf, .int .i64 y.line] 136);have HN := zh (heap_alloc_new wr (.cells #[.string y.name, .slice Af y.fields.length cf, .int .i64 y.line] 136));have HM4 := zC hl4 HM;have HB4 := zh (HB.o.trans (Below.mono hl4 HB.o.size));have HNO : Hd (Zdp y = false → R = false) := zh (fun e => by rw [HR.o]; have : r.aB.all Zdp = false := Zdd hlt (by rw [HY.o]; exact e); rw [← Hrok.o, this]; simp);obtain ⟨N, hN⟩ : ∃ N, wr.heap.size = N := ⟨_, rfl⟩;obtain ⟨x0, hx0⟩ : ∃ x, x = wr.alloc (.cells #[.string y.name, .slice Af y.fields.length cf, .int .i64 y.line] 136) := ⟨_, rfl⟩;rw [← hx0] at HN HM4 HB4;obtain ⟨q0, hq0⟩ : ∃ q, Zbj y.name = q := ⟨_, rfl⟩;obtain ⟨q1, hq1⟩ : ∃ q, decide (y.fields.length ≤ 6) = q := ⟨_, rfl⟩;obtain ⟨q2, hq2⟩ : ∃ q, y.fields.all Zbj = q := ⟨_, rfl⟩;obtain ⟨q3, hq3⟩ : ∃ q, twB y.fields = q := ⟨_, rfl⟩;obtain ⟨q4, hq4⟩ : ∃ q, decide (0 ≤ y.line) = q := ⟨_, rfl⟩
                               have w4 : decide (y.line < 0) = !q4 := by rw [← hq4]; exact (by rw [Bool.eq_iff_iff]; simp only [nJ, nK, nL, ne_eq, nM, nI, nH] <;> omega)
                               have HOK := zh (show Zdp y = (q0 && (q1 && (q2 && (!q3 && q4)))) by rw [← hq0, ← hq1, ← hq2, ← hq3, ← hq4]; rfl);have H0 := zh hq0;have H1 := zh hq1;have H2 := zh hq2;have H3 := zh hq3;clear hq0 hq1 hq2 hq3 hq4;rw [hN] at HN;have HL4 : Hd (Za wr x0) := zh (by rw [hx0]; exact hl4);clear hl4;go_upto_region 7 with (fail);rw [← hx0]
                               try rw [hN]
                               clear hx0 hN m0 m1 m2 m3 m4 m5 m6 m7 m8 m9 m10 m11 m12 e0 e1 e2 hob;obtain ⟨f0, f1, f2⟩ := cz3 HN.o;go_wp2_with fail;refine (Ze1 y.name _ HN64.o).mono ?_;rw [H0.o];rintro e x1 ⟨rfl, hcl⟩;clear f0 f1 f2;replace HN := zC hcl HN;replace HL4 := zh (HL4.o.trans hcl);replace HM4 := zC hcl HM4;replace HB4 := zh (HB4.o.trans (Below.mono hcl HB4.o.size));clear hcl
                               cases q0 with
                               | false =>
                                have hR0 : R = false := HNO.o (by rw [HOK.o]; rfl);subst hR0;go_wp2_with fail;go_ret;exact ⟨rfl, HB4.o⟩
                               | true =>
                                obtain ⟨f0, f1, f2⟩ := cz3 HN.o;go_wp2_with fail;refine (Zfl y.fields _ 6 F _ (HRF.o.keep Zad (fun _ h => h) (Zg.later (HL4.o)))).mono ?_;rw [H2.o, show decide ((y.fields.length : Int) ≤ 6) = q1 by rw [← H1.o]; exact (by rw [Bool.eq_iff_iff]; simp only [nJ, nK, nL, ne_eq, nM, nI, nH] <;> omega)];rintro e x2 ⟨rfl, hcl⟩;clear f0 f1 f2;replace HN := zC hcl HN;replace HL4 := zh (HL4.o.trans hcl);replace HM4 := zC hcl HM4;replace HB4 := zh (HB4.o.trans (Below.mono hcl HB4.o.size));clear hcl;have hboth : (q2 = false ∨ q1 = false) → R = false := fun h => HNO.o (by rw [HOK.o]; rcases h with rfl | rfl <;> simp)
                                cases q2 with
                                | false =>
                                 have hR0 : R = false := hboth (.inl rfl);clear hboth;subst hR0;go_wp2_with fail;go_ret;exact ⟨rfl, HB4.o⟩
                                | true =>
                                 cases q1 with
                                 | false =>
                                  have hR0 : R = false := hboth (.inr rfl);clear hboth;subst hR0;go_wp2_with fail;go_ret;exact ⟨rfl, HB4.o⟩
                                 | true =>
                                  clear hboth;obtain ⟨f0, f1, f2⟩ := cz3 HN.o;go_wp2_with fail;refine (Zk2 y.fields _ F _ (HRF.o.keep Zad (fun _ h => h) (Zg.later (HL4.o)))).mono ?_;rw [H3.o];rintro e x3 ⟨rfl, rfl⟩
                                  cases q3 with
                                  | true =>
                                   have hR0 : R = false := HNO.o (by rw [HOK.o]; simp);subst hR0;go_wp2_with fail;go_ret;exact ⟨rfl, HB4.o⟩
                                  | false =>
                                   cases q4 with
                                   | false =>
                                    simp only [Bool.not_false] at w4;have hR0 : R = false := HNO.o (by rw [HOK.o]; simp);subst hR0;go_wp2_with fail;go_ret;exact ⟨rfl, HB4.o⟩
                                   | true =>
                                    simp only [Bool.not_true] at w4;have HD2 : Hd (∀ k (h : k < r.aB.length), k < j + 1 → Zdp r.aB[k] = true) := zh (Zcq HD.o (fun _ => by rw [HY.o, HOK.o]; rfl));go_wp2_with fail
                                    go_roundw
                                    case rel => exact ⟨j + 1, by go_num, by omega, HD2, HM4, HB4⟩
                                    case measure => simp [intOf]; omega
                              ·have t1 : decide ((j : Int) < r.aB.length) = false := decide_eq_false (by omega);have h1 : r.aB.all Zdp = true := Zdz (fun k hk => HD.o k hk (by omega));replace HR := zh (show _ = _ from HR.o.trans (by rw [← Hrok.o, h1]));clear h1;go_upto_region 9 with (fail);go_wp2_with fail;clear m0 m1 m2 m3 m4 m5 m6 m7 m8 m9 m10 m11 m12
                               go_loopw [5] (fun i wr => ∃ j : Nat, i = .int .i64 j ∧ j ≤ r.output.length ∧ Hd (∀ k (h : k < r.output.length), k < j → Ze2 r.output[k] = true) ∧ Hd (wr.heap[M]? = some (.cells #[.slice An r.names.length cn, .slice Ar r.aB.length cr, .slice Ao r.aA.length co, .slice Ag r.globals.length cg, .string r.aC, .int .i64 r.aD, .slice Au r.output.length cu, .slice At r.trace.length ct, .slice Aa r.aE.length ca, .bool r.aF, .int .i64 r.ticks, .int .i64 r.aG, .int .i64 r.made] 30 (0, 0))) ∧ Hd (Below w.heap.size w wr)) (fun i _ => r.output.length - (intOf i).toNat)
                               case atStart => exact ⟨0, rfl, Nat.zero_le _, zh (fun k _ h => by omega), HM, HB⟩
                               case round =>
                                clear HM HB;obtain ⟨j, rfl, hj, HD, HM, HB⟩ := hrel;obtain ⟨m0, m1, m2, m3, m4, m5, m6, m7, m8, m9, m10, m11, m12⟩ := Zbq HM.o
                                by_cases hlt : j < r.output.length
                                ·have t1 : decide ((j : Int) < r.output.length) = true := decide_eq_true (by omega);obtain ⟨ob, oo, cs, rfl, _, hob, hE, hc⟩ := (HQu.o.later Zad HB.o).at__ hlt;obtain ⟨rfl, hsm⟩ := hE;have e0 := hc 0 _ rfl;simp only [Nat.mul_one, Nat.add_zero] at e0;obtain ⟨y, hy⟩ : ∃ y, r.output[j] = y := ⟨_, rfl⟩;rw [hy] at e0 hsm;have HY := zh hy;clear hy hc
                                 by_cases h120 : y.size ≤ 120
                                 ·have u1 : decide (120 < (y.size : Int)) = false := decide_eq_false (by omega);have HD2 : Hd (∀ k (h : k < r.output.length), k < j + 1 → Ze2 r.output[k] = true) := zh (Zcq HD.o (fun _ => by rw [HY.o]; exact decide_eq_true h120));clear h120 hsm;go_wp2_with fail
                                  go_roundw
                                  case rel => exact ⟨j + 1, by go_num, by omega, HD2, HM, HB⟩
                                  case measure => simp [intOf]; omega
                                 ·have u1 : decide (120 < (y.size : Int)) = true := decide_eq_true (by omega);have hR0 : R = false := by rw [HR.o]; have : r.output.all Ze2 = false := Zdd hlt (by rw [HY.o]; exact decide_eq_false h120); rw [← Houts.o, this]; simp
                                  subst hR0;clear h120 hsm;go_wp2_with fail;go_ret;exact ⟨rfl, HB.o⟩
                                ·have t1 : decide ((j : Int) < r.output.length) = false := decide_eq_false (by omega);have h1 : r.output.all Ze2 = true := Zdz (fun k hk => HD.o k hk (by omega));replace HR := zh (show _ = _ from HR.o.trans (by rw [← Houts.o, h1]));clear h1;go_upto_region 14 with (fail);go_wp2_with fail;clear m0 m1 m2 m3 m4 m5 m6 m7 m8 m9 m10 m11 m12
                                 go_loopw [6] (fun i wr => ∃ j : Nat, i = .int .i64 j ∧ j ≤ r.aE.length ∧ Hd (∀ k (h : k < r.aE.length), k < j → Zcj r r.aE[k] = true) ∧ Hd (wr.heap[M]? = some (.cells #[.slice An r.names.length cn, .slice Ar r.aB.length cr, .slice Ao r.aA.length co, .slice Ag r.globals.length cg, .string r.aC, .int .i64 r.aD, .slice Au r.output.length cu, .slice At r.trace.length ct, .slice Aa r.aE.length ca, .bool r.aF, .int .i64 r.ticks, .int .i64 r.aG, .int .i64 r.made] 30 (0, 0))) ∧ Hd (Below w.heap.size w wr)) (fun i _ => r.aE.length - (intOf i).toNat)
                                 case atStart => exact ⟨0, rfl, Nat.zero_le _, zh (fun k _ h => by omega), HM, HB⟩
                                 case round =>
                                  clear HM HB;obtain ⟨j, rfl, hj, HD, HM, HB⟩ := hrel;obtain ⟨m0, m1, m2, m3, m4, m5, m6, m7, m8, m9, m10, m11, m12⟩ := Zbq HM.o
                                  by_cases hlt : j < r.aE.length
                                  ·have t1 : decide ((j : Int) < r.aE.length) = true := decide_eq_true (by omega);obtain ⟨ob, oo, cs, rfl, _, hob, hE, hc⟩ := (HQa.o.later Zb5 HB.o).at__ hlt;obtain ⟨rfl, hr64, hf64⟩ := hE;have e0 := hc 0 _ rfl;have e1 := hc 1 _ rfl;simp only [Nat.add_zero] at e0;obtain ⟨y, hy⟩ : ∃ y, r.aE[j] = y := ⟨_, rfl⟩;rw [hy] at e0 e1 hr64 hf64;have HY := zh hy;clear hy hc;obtain ⟨rt, fr⟩ := y;simp only at e0 e1 hr64 hf64;have hl4 := (Za.refl wr).alloc (.cells #[.int .i64 rt, .int .i64 fr] 89);have HM4 := zC hl4 HM;have HB4 := zh (HB.o.trans (Below.mono hl4 HB.o.size));have HNO : Hd (Zcj r ⟨rt, fr⟩ = false → R = false) := zh (fun e => by rw [HR.o]; have : r.aE.all (Zcj r) = false := Zdd hlt (by rw [HY.o]; exact e); rw [← Hacts.o, this]; simp);have n0 := cq HM4.o 0;have n2 := cq HM4.o 2;simp only [nD, nE, nF] at n0 n2;obtain ⟨pa, hpa⟩ : ∃ q, decide (0 ≤ rt) = q := ⟨_, rfl⟩;obtain ⟨pb, hpb⟩ : ∃ q, decide (rt ≤ (r.names.length : Int) - 1) = q := ⟨_, rfl⟩;have HPA := zh hpa;have HPB := zh hpb;clear hpa hpb hl4;go_wp2_with fail;clear m0 m1 m2 m3 m4 m5 m6 m7 m8 m9 m10 m11 m12 e0 e1 hob;refine (Zcw _ _ _ _).mono ?_;rw [HPA.o, HPB.o];rintro e x5 ⟨rfl, rfl⟩
                                   cases pa with
                                   | false =>
                                    have hR0 : R = false := HNO.o (by unfold Zcj; rw [HPA.o]; rfl);subst hR0;go_wp2_with fail;go_ret;exact ⟨rfl, HB4.o⟩
                                   | true =>
                                    cases pb with
                                    | false =>
                                     have hR0 : R = false := HNO.o (by unfold Zcj; rw [decide_eq_false (p := rt < _) (by have := of_decide_eq_false HPB.o; omega)]; simp);subst hR0;go_wp2_with fail;go_ret;exact ⟨rfl, HB4.o⟩
                                    | true =>
                                     have HA := zh (show Zcj r ⟨rt, fr⟩ = Zaq r fr 1 by unfold Zcj; rw [HPA.o, decide_eq_true (p := rt < _) (by have := of_decide_eq_true HPB.o; omega)]; rfl);obtain ⟨pc, hpc⟩ : ∃ q, decide (0 ≤ fr) = q := ⟨_, rfl⟩;obtain ⟨pd, hpd⟩ : ∃ q, decide (fr ≤ (r.aA.length : Int) - 1) = q := ⟨_, rfl⟩;have HPC := zh hpc;have HPD := zh hpd;clear hpc hpd;go_wp2_with fail;refine (Zcw _ _ _ _).mono ?_;rw [HPC.o, HPD.o];rintro e x6 ⟨rfl, rfl⟩
                                     cases pc with
                                     | false =>
                                      have hR0 : R = false := HNO.o (by rw [HA.o]; exact Zih (of_decide_eq_false HPC.o));subst hR0;go_wp2_with fail;go_ret;exact ⟨rfl, HB4.o⟩
                                     | true =>
                                      cases pd with
                                      | false =>
                                       have hR0 : R = false := HNO.o (by rw [HA.o]; exact Zda (by have := of_decide_eq_false HPD.o; omega));subst hR0;go_wp2_with fail;go_ret;exact ⟨rfl, HB4.o⟩
                                      | true =>
                                       obtain ⟨i, rfl⟩ : ∃ i : Nat, fr = i := ⟨fr.toNat, by have := of_decide_eq_true HPC.o; omega⟩;have hil : i < r.aA.length := by have := of_decide_eq_true HPD.o; omega
                                       have hil2 : (i : Int) < (r.aA.length : Int) := by omega
                                       obtain ⟨ob, oo, Ai, ci, Ak, ck, rfl, hob, f0, _⟩ := Z1.obj (HQo.o.later Zb4 HB4.o) hil;have HA2 := zh (show Zcj r ⟨rt, (i : Int)⟩ = (r.aA[i].kind == 1) by rw [HA.o, Zd5 hil]);obtain ⟨q, hq⟩ : ∃ q, (r.aA[i].kind == 1) = q := ⟨_, rfl⟩;have hq2 : (r.aA[i].kind != 1) = !q := by rw [← hq]; rfl
                                       have HQQ := zh hq;clear hq
                                       cases q with
                                       | false =>
                                        simp only [Bool.not_false] at hq2;have hR0 : R = false := HNO.o (by rw [HA2.o, HQQ.o]);subst hR0;go_wp2_with fail;go_ret;exact ⟨rfl, HB4.o⟩
                                       | true =>
                                        simp only [Bool.not_true] at hq2;have HD2 : Hd (∀ k (h : k < r.aE.length), k < j + 1 → Zcj r r.aE[k] = true) := zh (Zcq HD.o (fun _ => by rw [HY.o, HA2.o, HQQ.o]));go_wp2_with fail
                                        go_roundw
                                        case rel => exact ⟨j + 1, by go_num, by omega, HD2, HM4, HB4⟩
                                        case measure => simp [intOf]; omega
                                  ·have t1 : decide ((j : Int) < r.aE.length) = false := decide_eq_false (by omega);have h1 : r.aE.all (Zcj r) = true := Zdz (fun k hk => HD.o k hk (by omega));replace HR := zh (show _ = _ from HR.o.trans (by rw [← Hacts.o, h1]));clear h1;go_upto_region 20 with (fail);go_wp2_with fail;clear m0 m1 m2 m3 m4 m5 m6 m7 m8 m9 m10 m11 m12
                                   go_loopw [8] (fun i wr => ∃ j : Nat, i = .int .i64 j ∧ j ≤ r.aA.length ∧ Hd (∀ k (h : k < r.aA.length), k < j → Zaa r r.aA[k] = true) ∧ Hd (∀ k (h : k < r.aA.length), k < j → r.aA[k].aI = 0 ∨ ∀ i (hi : i < r.aA.length), i < k → r.aA[i].aI ≠ r.aA[k].aI) ∧ Hd (wr.heap[M]? = some (.cells #[.slice An r.names.length cn, .slice Ar r.aB.length cr, .slice Ao r.aA.length co, .slice Ag r.globals.length cg, .string r.aC, .int .i64 r.aD, .slice Au r.output.length cu, .slice At r.trace.length ct, .slice Aa r.aE.length ca, .bool r.aF, .int .i64 r.ticks, .int .i64 r.aG, .int .i64 r.made] 30 (0, 0))) ∧ Hd (Below w.heap.size w wr)) (fun i _ => r.aA.length - (intOf i).toNat)
                                   case atStart => exact ⟨0, rfl, Nat.zero_le _, zh (fun k _ h => by omega), zh (fun k _ h => by omega), HM, HB⟩
                                   case round =>
                                    clear HM HB;obtain ⟨j, rfl, hj, HD, HE, HM, HB⟩ := hrel;obtain ⟨m0, m1, m2, m3, m4, m5, m6, m7, m8, m9, m10, m11, m12⟩ := Zbq HM.o
                                    by_cases hlt : j < r.aA.length
                                    ·have t1 : decide ((j : Int) < r.aA.length) = true := decide_eq_true (by omega);obtain ⟨ob, oo, Ai, ci, Ak, ck, rfl, hob, e0, e1, e2, e3, e4, hrI, hrK, hk64, ht64, hs64⟩ := Z1.obj (HQo.o.later Zb4 HB.o) hlt;obtain ⟨p, hp⟩ : ∃ p, Zaa r r.aA[j] = p := ⟨_, rfl⟩;have HP := zh hp;have HH := zh (Zjb r M _ F _ r.aA[j] _ (⟨HM.o, Zy.keep HEL.o (fun _ h => h) (Zg.later HB.o)⟩ : Z1 F _ M r _) (⟨_, _, rfl, hk64, ht64, hs64, hrI, hrK⟩ : Zcp F _ r.aA[j] [.int .i64 r.aA[j].kind, .int .i64 r.aA[j].tag, .int .i64 r.aA[j].aI, .slice Ai r.aA[j].aJ.length ci, .slice Ak r.aA[j].aK.length ck]) (HSO.o j hlt));rw [hp] at HH;clear hp hrI hrK hk64 ht64 hs64;go_wp2_with fail;refine HH.o.mono ?_;rintro e w5 ⟨rfl, hcl⟩;clear e0 e1 e2 e3 e4 hob HH m0 m1 m2 m3 m4 m5 m6 m7 m8 m9 m10 m11 m12;replace HM := zC hcl HM;replace HB := zh (HB.o.trans (Below.mono hcl HB.o.size));clear hcl
                                     cases p with
                                     | false =>
                                      have hR0 : R = false := by rw [HR.o]; have : r.aA.all (Zaa r) = false := Zdd hlt HP.o; rw [← Hobjs.o, this]; simp
                                      subst hR0;go_wp2_with fail;go_ret;exact ⟨rfl, HB.o⟩
                                     | true =>
                                      have HD2 : Hd (∀ k (h : k < r.aA.length), k < j + 1 → Zaa r r.aA[k] = true) := zh (Zcq HD.o (fun _ => HP.o));go_wp2_with fail
                                      go_loopw [9] (fun i wr => ∃ k : Nat, i = .int .i64 k ∧ k ≤ j ∧ Hd (∀ q (h : q < r.aA.length), q < k → r.aA[j].aI = 0 ∨ r.aA[q].aI ≠ r.aA[j].aI) ∧ Hd (wr.heap[M]? = some (.cells #[.slice An r.names.length cn, .slice Ar r.aB.length cr, .slice (some ⟨ob, oo, none⟩) r.aA.length co, .slice Ag r.globals.length cg, .string r.aC, .int .i64 r.aD, .slice Au r.output.length cu, .slice At r.trace.length ct, .slice Aa r.aE.length ca, .bool r.aF, .int .i64 r.ticks, .int .i64 r.aG, .int .i64 r.made] 30 (0, 0))) ∧ Hd (Below w.heap.size w wr)) (fun i _ => j - (intOf i).toNat)
                                      case atStart => exact ⟨0, rfl, Nat.zero_le _, zh (fun k _ h => by omega), HM, HB⟩
                                      case round =>
                                       clear HM HB;obtain ⟨k, rfl, hk, HF, HM, HB⟩ := hrel
                                       by_cases hkj : k < j
                                       ·have u1 : decide ((k : Int) < (j : Int)) = true := decide_eq_true (by omega);have hkl : k < r.aA.length := by omega
                                        obtain ⟨ob1, oo1, Ai1, ci1, Ak1, ck1, eo1, hob, _, _, e2, _, _, _, _, _, _, _⟩ := Z1.obj (HQo.o.later Zb4 HB.o) hlt;cases eo1;obtain ⟨ob2, oo2, Ai2, ci2, Ak2, ck2, eo2, _, _, _, g2, _, _, _, _, _, _, _⟩ := Z1.obj (HQo.o.later Zb4 HB.o) hkl;cases eo2;have m2 := cq HM.o 2;simp only [nD, nE, nF] at m2;obtain ⟨y, hy⟩ : ∃ y, r.aA[j].aI = y := ⟨_, rfl⟩;obtain ⟨z, hz⟩ : ∃ z, r.aA[k].aI = z := ⟨_, rfl⟩;rw [hy] at e2;rw [hz] at g2;have HY := zh hy;have HZ := zh hz;clear hy hz;go_upto_region 28 with (fail)
                                        by_cases hs0 : y = 0
                                        ·have u3 : (y != 0) = false := by rw [← Bool.not_eq_true, bne_iff_ne]; omega
                                         have HF2 : Hd (∀ q (h : q < r.aA.length), q < k + 1 → r.aA[j].aI = 0 ∨ r.aA[q].aI ≠ r.aA[j].aI) := zh (fun q hq h => .inl (HY.o.trans hs0));clear hs0;refine Zu (fun V hV => ?_);have hVL := (show Za _ V by rw [hV]; exact (Za.refl _).drew);replace HM := zC hVL HM;replace HB := zh (HB.o.trans (Below.mono hVL HB.o.size));have q2 := cq HM.o 2;simp only [nD, nE, nF] at q2;have hMV := Zb HM.o;have hobV : ob < V.heap.size := Nat.lt_of_lt_of_le hob hVL.size;have s2 := (hVL.cell ⟨ob, oo + j * 5 + 2, none⟩ hob).trans e2;have u2 := (hVL.cell ⟨ob, oo + k * 5 + 2, none⟩ hob).trans g2;clear hV hVL e2 g2 m2 hob
                                         repeat go_big_quiet_step (fail)
                                         refine wpQuiet_nil ?_;go_wp2_with fail
                                         go_roundw
                                         case rel => exact ⟨k + 1, by go_num, by omega, HF2, HM, HB⟩
                                         case measure => simp [intOf]; omega
                                        ·have u3 : (y != 0) = true := bne_iff_ne.2 hs0
                                         by_cases hyz : y = z
                                         ·have u4 : (y == z) = true := beq_iff_eq.2 hyz;have hR0 : R = false := by
                                           rw [HR.o, ← Hsers.o, Zhd hlt (by rw [HY.o]; exact hs0) hkj (by rw [HZ.o, HY.o, hyz])];simp
                                          subst hR0;clear hs0 hyz;refine Zu (fun V hV => ?_);have hVL := (show Za _ V by rw [hV]; exact (Za.refl _).drew);replace HM := zC hVL HM;replace HB := zh (HB.o.trans (Below.mono hVL HB.o.size));have q2 := cq HM.o 2;simp only [nD, nE, nF] at q2;have hMV := Zb HM.o;have hobV : ob < V.heap.size := Nat.lt_of_lt_of_le hob hVL.size;have s2 := (hVL.cell ⟨ob, oo + j * 5 + 2, none⟩ hob).trans e2;have u2 := (hVL.cell ⟨ob, oo + k * 5 + 2, none⟩ hob).trans g2;clear hV hVL e2 g2 m2 hob
                                          repeat go_big_quiet_step (fail)
                                          refine wpQuiet_nil ?_;go_wp2_with fail;go_ret;exact ⟨rfl, HB.o⟩
                                         ·have u4 : (y == z) = false := nH.2 hyz;have HF2 : Hd (∀ q (h : q < r.aA.length), q < k + 1 → r.aA[j].aI = 0 ∨ r.aA[q].aI ≠ r.aA[j].aI) := zh (fun q hq h => by
                                           rcases Nat.lt_or_ge q k with h1 | h1
                                           ·exact HF.o q hq h1
                                           ·obtain rfl : q = k := by omega
                                            exact .inr (by rw [HZ.o, HY.o]; exact fun e => hyz e.symm))
                                          clear hs0 hyz;refine Zu (fun V hV => ?_);have hVL := (show Za _ V by rw [hV]; exact (Za.refl _).drew);replace HM := zC hVL HM;replace HB := zh (HB.o.trans (Below.mono hVL HB.o.size));have q2 := cq HM.o 2;simp only [nD, nE, nF] at q2;have hMV := Zb HM.o;have hobV : ob < V.heap.size := Nat.lt_of_lt_of_le hob hVL.size;have s2 := (hVL.cell ⟨ob, oo + j * 5 + 2, none⟩ hob).trans e2;have u2 := (hVL.cell ⟨ob, oo + k * 5 + 2, none⟩ hob).trans g2;clear hV hVL e2 g2 m2 hob
                                          repeat go_big_quiet_step (fail)
                                          refine wpQuiet_nil ?_;go_wp2_with fail
                                          go_roundw
                                          case rel => exact ⟨k + 1, by go_num, by omega, HF2, HM, HB⟩
                                          case measure => simp [intOf]; omega
                                       ·have u1 : decide ((k : Int) < (j : Int)) = false := decide_eq_false (by omega);have HE2 : Hd (∀ k (h : k < r.aA.length), k < j + 1 → r.aA[k].aI = 0 ∨ ∀ i (hi : i < r.aA.length), i < k → r.aA[i].aI ≠ r.aA[k].aI) := zh (fun q hq h => by
                                         rcases Nat.lt_or_ge q j with h1 | h1
                                         ·exact HE.o q hq h1
                                         ·obtain rfl : q = j := by omega
                                          by_cases e : r.aA[q].aI = 0
                                          ·exact .inl e
                                          ·exact .inr (fun i hi hiq => (HF.o i hi (by omega)).resolve_left e))
                                        go_wp2_with fail
                                        go_roundw
                                        case rel => exact ⟨j + 1, by go_num, by omega, HD2, HE2, HM, HB⟩
                                        case measure => simp [intOf]; omega
                                    ·have t1 : decide ((j : Int) < r.aA.length) = false := decide_eq_false (by omega);have h1 : r.aA.all (Zaa r) = true := Zdz (fun k hk => HD.o k hk (by omega));have h2 : Zcd r.aA = true := Zgd (fun k hk => HE.o k hk (by omega));have hR0 : R = gl := by rw [HR.o, ← Hobjs.o, ← Hsers.o, h1, h2]; simp
                                     subst hR0;clear h1 h2;have HH := zh (Zbn r M _ F _ r.globals _ (⟨HM.o, Zy.keep HEL.o (fun _ h => h) (Zg.later HB.o)⟩ : Z1 F _ M r _) (HQg.o.later Zc HB.o));rw [Hgl.o] at HH;go_wp2_with fail;refine HH.o.mono ?_;rintro e w6 ⟨rfl, hcl⟩;have HB6 := zh (HB.o.trans (Below.mono hcl HB.o.size));clear hcl;go_wp2_with fail;go_ret;exact ⟨rfl, HB6.o⟩
def sZ : Zf := ⟨[], [], [], [], ⟨#[]⟩, 0, [], [], [], false, 0, 0, 0⟩
theorem Zra (F : Nat → Prop) (w : World) : Zed F w sZ [.slice none 0 0, .slice none 0 0, .slice none 0 0, .slice none 0 0, .string ⟨#[]⟩, .int .i64 0, .slice none 0 0, .slice none 0 0, .slice none 0 0, .bool false, .int .i64 0, .int .i64 0, .int .i64 0] :=
 ⟨fun _ => 0, _, _, _, _, _, _, _, rfl, Zae.nil _ _ _ _ _, Zae.nil _ _ _ _ _, Zae.nil _ _ _ _ _, Zae.nil _ _ _ _ _, Nat.zero_le _, in0, Zae.nil _ _ _ _ _, Zae.nil _ _ _ _ _, Zae.nil _ _ _ _ _, in0, in0, in0⟩
def Zht (q : Zf × Ze × Int) : Zf × Ze × Int := if q.2.2 = 0 then (q.1, q.2.1, 0) else (sZ, vZ, q.2.2)
def Zea (r : Zf) (x : Ze) (k : Int) : Zf × Ze × Int := if (Zab r && (Zaw r x && (decide (0 ≤ k) && decide (k ≤ 1000)))) = true then Zht (elR r x k.toNat) else (sZ, vZ, 205)
/-- What they leave. -/
def Zg4 (w : World) (q : Zf × Ze × Int) (e : Ending) (w' : World) : Prop :=
 ∃ cs', e = .returned (.tuple #[.agg cs'.toArray, .agg #[.int .i64 q.2.1.kind, .int .i64 q.2.1.aH, .int .i64 q.2.1.index, .string q.2.1.text, .int .i64 q.2.1.set_.low, .int .i64 q.2.1.set_.high], .int .i64 q.2.2]) ∧ Zed (fun b => w.heap.size ≤ b) w' q.1 cs' ∧ Below w.heap.size w w'
theorem Zfv {r : Zf} {v : Ze} (h : Zaw r v = true) : Zi r v = true := by
 unfold Zaw at h;rw [Bool.and_eq_true] at h;exact h.2
/-- The two results' blocks are written last. -/
theorem Zj7 {w y : World} {RS RV n : Nat} {q : Zf} {cs : List Value} {G : Nat → Prop} (hsp : Zed G y q cs) (hG : ∀ b, G b → n ≤ b) (h1 : w.heap.size ≤ RS) (h2 : RS < n) (h3 : w.heap.size ≤ RV) (h4 : RV < n) (hb : Below w.heap.size w y) (vs : List Value) :
  Zed (fun b => w.heap.size ≤ b) (Zm (Zm y RS 0 cs) RV 0 vs) q cs ∧ Below w.heap.size w (Zm (Zm y RS 0 cs) RV 0 vs) :=
 ⟨Zba.is.keep hsp (fun b hb => by have := hG b hb; omega) ((Z4 (fun h => by have := hG _ h; omega) cs y 0 (Zg.refl _ _)).trans (Z4 (F := G) (fun h => by have := hG _ h; omega) vs _ 0 (Zg.refl _ _))),
  Z7 h3 vs _ 0 (Z7 h1 cs y 0 hb)⟩
theorem Zdu (r : Zf) (cs : List Value) (F : Nat → Prop) (w : World) (v : Ze) (hsz : Zai r ≤ 1048576) (h : Zb1 F w r cs) (hv : Zd F w v [.int .i64 v.kind, .int .i64 v.aH, .int .i64 v.index, .string v.text, .int .i64 v.set_.low, .int .i64 v.set_.high]) :
  Calls Tryz.prog 12 #[.agg cs.toArray, .agg #[.int .i64 v.kind, .int .i64 v.aH, .int .i64 v.index, .string v.text, .int .i64 v.set_.low, .int .i64 v.set_.high]] w fun e w' => e = .returned (.bool (Zab r && Zi r v)) ∧ Below w.heap.size w w' := by
 have hh := h;obtain ⟨aL, aM, aN, aO, aP, aQ, aR, rfl, _⟩ := h;have hl := ((Za.refl w).alloc (.cells #[aL, aM, aN, aO, .string r.aC, .int .i64 r.aD, aP, aQ, aR, .bool r.aF, .int .i64 r.ticks, .int .i64 r.aG, .int .i64 r.made] 30)).alloc (.cells #[.int .i64 v.kind, .int .i64 v.aH, .int .i64 v.index, .string v.text, .int .i64 v.set_.low, .int .i64 v.set_.high] 34);have HV := zh hv;have HMB := zh (((Za.refl _).alloc (.cells #[.int .i64 v.kind, .int .i64 v.aH, .int .i64 v.index, .string v.text, .int .i64 v.set_.low, .int .i64 v.set_.high] 34)).block w.heap.size (by simp) |>.trans (heap_alloc_new w (.cells #[aL, aM, aN, aO, .string r.aC, .int .i64 r.aD, aP, aQ, aR, .bool r.aF, .int .i64 r.ticks, .int .i64 r.aG, .int .i64 r.made] 30)));have HXB := zh (show ((w.alloc (.cells #[aL, aM, aN, aO, .string r.aC, .int .i64 r.aD, aP, aQ, aR, .bool r.aF, .int .i64 r.ticks, .int .i64 r.aG, .int .i64 r.made] 30)).alloc (.cells #[.int .i64 v.kind, .int .i64 v.aH, .int .i64 v.index, .string v.text, .int .i64 v.set_.low, .int .i64 v.set_.high] 34)).heap[w.heap.size + 1]? = some (.cells #[.int .i64 v.kind, .int .i64 v.aH, .int .i64 v.index, .string v.text, .int .i64 v.set_.low, .int .i64 v.set_.high] 34 (0, 0)) from Zz (by simp));have HL := zh hl;have HC := zh (Ze8 r _ F _ hsz (Zy.keep hh (fun _ h => h) (Zg.later hl)))
 have HH := zh hh;obtain ⟨w2, hw2⟩ : ∃ x, x = (w.alloc (.cells #[aL, aM, aN, aO, .string r.aC, .int .i64 r.aD, aP, aQ, aR, .bool r.aF, .int .i64 r.ticks, .int .i64 r.aG, .int .i64 r.made] 30)).alloc (.cells #[.int .i64 v.kind, .int .i64 v.aH, .int .i64 v.index, .string v.text, .int .i64 v.set_.low, .int .i64 v.set_.high] 34) := ⟨_, rfl⟩;rw [← hw2] at HMB HXB HL HC;obtain ⟨p, hp⟩ : ∃ p, Zab r = p := ⟨_, rfl⟩;obtain ⟨q, hq⟩ : ∃ p, Zi r v = p := ⟨_, rfl⟩;rw [hp, hq];have HP := zh hp;have HQ := zh hq;clear hl hh hsz hv hp hq;go_enter Tryz.func12, Tryz.ntmps12;go_upto_region 1 with (fail);rw [← hw2];clear hw2;have m0 := Zbq HMB.o;have p0 := cz6 HXB.o;go_wp2_with fail;refine HC.o.mono ?_;rw [HP.o];rintro e w3 ⟨rfl, hcl⟩;clear m0 p0;have HXC := zC hcl HXB;have HM3 := zC hcl HMB;have HL3 := zh (HL.o.trans hcl);clear hcl;have p0 := cz6 HXC.o
 cases p with
 | false =>
  go_wp2_with fail;go_ret;exact ⟨rfl, HL3.o⟩
 | true =>
  go_wp2_with fail;refine (Za3 r w.heap.size _ F _ v _ (⟨HM3.o, Zy.keep HH.o (fun _ h => h) (Zg.later HL3.o)⟩ : Z1 F _ _ r _) (show Zd F _ v _ from HV.o)).mono ?_;rw [HQ.o];rintro e w4 ⟨rfl, hcl⟩;have HL4 := zh (HL3.o.trans hcl);clear hcl;go_wp2_with fail;go_ret;exact ⟨by simp, HL4.o⟩
/-! ### The text of a mark -/
def dch (z : Int) : ByteArray := ⟨[UInt8.ofNat (48 + z % 10).toNat].toArray⟩
def Zr8 : Nat → Int → ByteArray → ByteArray
 | 0, _, t => t
 | f + 1, z, t => if z = 0 then t else Zr8 f (z / 10) (dch z ++ t)
theorem Zo3 : ∀ (f : Nat) (z : Int) (t : ByteArray), 0 ≤ z → (z ≤ f) → ((Zr8 f z t).size : Int) ≤ t.size + z
 | 0, z, t, h0, hf => by simp only [Zr8]; omega
 | f + 1, z, t, h0, hf => by
  simp only [Zr8]
  split
  ·omega
  ·have := Zo3 f (z / 10) (dch z ++ t) (by omega) (by omega);have h1 : (dch z).size = 1 := rfl;rw [ByteArray.size_append, h1] at this
   push_cast at this
   omega
theorem Zo4 {α : Type} (cnt sz : α → Nat) (c d : Nat) (h : ∀ a, cnt a ≤ c + d * sz a) (hcd : c ≤ d) : ∀ l : List α, Zbk cnt l ≤ d * Zo sz l
 | [] => Nat.zero_le _
 | a :: l => by
  have h1 := Zo4 cnt sz c d h hcd l;have h2 := h a;simp only [Zo, Zbk, Za0, List.length_cons, Nat.mul_add, Nat.mul_one] at *
  omega
theorem Zna {α : Type} (cnt : α → Nat) : ∀ l m : List α, Zbk cnt (l ++ m) = Zbk cnt l + Zbk cnt m
 | [], m => by simp [Zbk]
 | a :: l, m => by simp only [List.cons_append, Zbk, Zna cnt l m]; omega
end Go.Proofs.YtpmhelkiicigfaaGreatDoor
namespace Go.Proofs.YtpmhelkiicigfaaGreatDoor
open Go.RowKit
/-- At most m values with short texts. -/
structure Zbo (m : Nat) (l : List Ze) : Prop where
 len : l.length ≤ m
 txt : ∀ v ∈ l, v.text.size ≤ 121
theorem Zdv {α : Type} (sz : α → Nat) (b : Nat) : ∀ (l : List α), (∀ a ∈ l, sz a ≤ b) → Za0 sz l ≤ l.length * b
 | [], _ => by simp [Za0]
 | a :: l, h => by
  have h1 := h a (by simp);have h2 := Zdv sz b l fun x hx => h x (by simp [hx]);simp only [Za0, List.length_cons, Nat.succ_mul]
  omega
theorem Zbo.sz {m : Nat} {l : List Ze} (h : Zbo m l) : Zo Zah l ≤ m * 122 := by
 have h1 := Zdv Zah 121 l h.txt;have h2 := h.len;unfold Zo
 omega
theorem Zbo.nil (m : Nat) : Zbo m [] := ⟨Nat.zero_le _, by simp⟩
theorem Zbo.mono {m n : Nat} {l : List Ze} (h : Zbo m l) (hn : m ≤ n) : Zbo n l := ⟨Nat.le_trans h.len hn, h.txt⟩
theorem Zbo.push {m : Nat} {l : List Ze} (h : Zbo m l) {v : Ze} (hv : vOk v) : Zbo (m + 1) (l ++ [v]) :=
 ⟨by have := h.len; simp; omega, fun u hu => by
  rw [List.mem_append, List.mem_singleton] at hu
  rcases hu with hu | rfl
  ·exact h.txt u hu
  ·exact hv.2.2.2.1⟩
/-- How great a Store is, beside its aA. -/
def Zfw (r : Zf) : Nat := Zo ByteArray.size r.names + (Zo Z5 r.aB + (Zo Zah r.globals + (r.aC.size + (Zo ByteArray.size r.output + (Zo ByteArray.size r.trace + (Zo (fun _ => 0) r.aE))))))
/-- Bounds of a Store that is being made. -/
structure Bd (n : Nat) (r : Zf) : Prop where
 len : r.aA.length ≤ n
 made0 : 0 ≤ r.made
 made1 : r.made ≤ n
 obj : ∀ o ∈ r.aA, Zbo 43 o.aJ ∧ Zbo 43 o.aK
 rest : Zfw r ≤ 2000
theorem Bd.mono {n m : Nat} {r : Zf} (h : Bd n r) (hm : n ≤ m) : Bd m r := ⟨Nat.le_trans h.len hm, h.made0, by have := h.made1; omega, h.obj, h.rest⟩
theorem Bd.size {n : Nat} {r : Zf} (h : Bd n r) (hn : n ≤ 40) : Zai r ≤ 500000 := by
 have h1 := Zdv Z3 10492 r.aA (fun o ho => by have h2 := (h.obj o ho).1.sz; have h3 := (h.obj o ho).2.sz; unfold Z3; omega);have h2 := h.rest;have h3 := h.len;unfold Zfw at h2;unfold Zai;have h4 : Zo Z3 r.aA ≤ 40 * 10493 := by
  unfold Zo;have : r.aA.length * 10492 ≤ 40 * 10492 := Nat.mul_le_mul_right _ (by omega)
  omega
 omega
theorem Bd.new {n : Nat} {r : Zf} (h : Bd n r) {o : Z8} (hi : Zbo 43 o.aJ) (hk : Zbo 43 o.aK) : Bd (n + 1) (Zdi r o) := by
 have h0 := h.made0;have h1 := h.made1;have h2 := h.len;unfold Zdi
 split
 ·refine ⟨by simp [Zac]; omega, by show (0 : Int) ≤ r.made + 1; omega, by show r.made + 1 ≤ ((n + 1 : Nat) : Int); omega, fun x hx => ?_, h.rest⟩;simp only [Zac, List.mem_append, List.mem_singleton] at hx
  rcases hx with hx | rfl
  ·exact h.obj x hx
  ·exact ⟨hi, hk⟩
 ·refine ⟨by simp [Zac]; omega, h0, by show r.made ≤ ((n + 1 : Nat) : Int); omega, fun x hx => ?_, h.rest⟩;simp only [Zac, List.mem_append, List.mem_singleton] at hx
  rcases hx with hx | rfl
  ·exact h.obj x hx
  ·exact ⟨hi, hk⟩
/-- A Store that is being made in block B, with a cursor in C, since w0. -/
structure Sb (C B : Nat) (w0 w : World) (n : Nat) (r : Zf) (cs : List Value) (F : Nat → Prop) : Prop where
 st : Za1 F w B r cs
 fF : ∀ b, F b → w0.heap.size ≤ b ∧ b < w.heap.size
 bd : Bd n r
 cur : Cur C w
 hC : C < w0.heap.size
 hB : w0.heap.size ≤ B
 tch : Tch (fun b => b = C ∨ w0.heap.size ≤ b) w0 w
section
variable {C B OB n : Nat} {w0 w x : World} {r : Zf} {cs : List Value} {F : Nat → Prop}
theorem Sb.lt (h : Sb C B w0 w n r cs F) : B < w.heap.size := h.st.lt
theorem Sb.size (h : Sb C B w0 w n r cs F) : w0.heap.size ≤ w.heap.size := h.tch.size
theorem Sb.nC (h : Sb C B w0 w n r cs F) : ¬ F C := fun hf => by have := (h.fF C hf).1; have := h.hC; omega
theorem Sb.bC (h : Sb C B w0 w n r cs F) : B ≠ C := by have := h.hC; have := h.hB; omega
/-- What has turned lies apart from the Store. -/
theorem Sb.tch_ {P : Nat → Prop} (h : Sb C B w0 w n r cs F) (ht : Tch P w x) (hc : Cur C x) (hF : ∀ b, F b → ¬ P b) (hB : ¬ P B) (hP : ∀ b, b < w.heap.size → P b → b = C ∨ w0.heap.size ≤ b) : Sb C B w0 x n r cs F :=
 ⟨h.st.keep (fun _ h => h) h.st.nB (ht.keeps hF) (ht.keep.same B hB h.lt), fun b hb => ⟨(h.fF b hb).1, by have := (h.fF b hb).2; have := ht.size; omega⟩, h.bd, hc, h.hC, h.hB,
  Tch.trans h.tch ht (fun _ h => h) fun b hb hp => hP b (by have := h.size; omega) hp⟩
theorem Sb.draw (h : Sb C B w0 w n r cs F) (hd : Zbs C w x) (hc : Cur C x) : Sb C B w0 x n r cs F :=
 h.tch_ hd hc (fun b hb e => h.nC (e ▸ hb)) h.bC (fun b _ e => .inl e)
theorem Sb.later (h : Sb C B w0 w n r cs F) (hl : Za w x) : Sb C B w0 x n r cs F :=
 h.tch_ (P := fun _ => False) (Tch.later hl) (h.cur.later hl) (fun _ _ h => h) (fun h => h) (fun _ _ h => h.elim)
/-- The Store has grown by an object. -/
theorem Sb.grow (h : Sb C B w0 w n r cs F) {G : Nat → Prop} {o : Z8} {cs' : List Value} (hs : Za1 (fun y => F y ∨ G y ∨ w.heap.size ≤ y) x B (Zdi r o) cs') (hg : Zax F w B x) (hG : ∀ b, G b → w0.heap.size ≤ b ∧ b < w.heap.size) (hi : Zbo 43 o.aJ) (hk : Zbo 43 o.aK) :
  Sb C B w0 x (n + 1) (Zdi r o) cs' (fun y => (F y ∨ G y ∨ w.heap.size ≤ y) ∧ y < x.heap.size) := by
 have ht : Tch (fun b => F b ∨ b = B) w x := ⟨hg.keep.mono fun b hb => by simpa using hb, hg.below⟩;have hsz := h.size;refine ⟨hs.trim, fun b hb => ⟨?_, hb.2⟩, h.bd.new hi hk, h.cur.keep ht (fun b hb hp => ?_), h.hC, h.hB, Tch.trans h.tch ht (fun _ h => h) fun b hb hp => .inr ?_⟩
 ·rcases hb.1 with h1 | h1 | h1
  ·exact (h.fF b h1).1
  ·exact (hG b h1).1
  ·omega
 ·have := h.hC;have := h.hB
  rcases hp with h1 | h1
  ·have := (h.fF b h1).1; omega
  ·omega
 ·rcases hp with h1 | h1
  ·exact (h.fF b h1).1
  ·have := h.hB; omega
end
/-- An object that is being made in block OB, beside the Store. -/
structure Ob (C B OB : Nat) (w0 w : World) (n : Nat) (r : Zf) (cs : List Value) (F : Nat → Prop) (o : Z8) (os : List Value) (G : Nat → Prop) : Prop where
 sb : Sb C B w0 w n r cs F
 blk : w.heap[OB]? = some (.cells os.toArray 94 (0, 0))
 sp : Za2 G w o os
 fG : ∀ b, G b → w0.heap.size ≤ b ∧ b < w.heap.size ∧ ¬ F b ∧ b ≠ B ∧ b ≠ OB
 oB : OB ≠ B ∧ ¬ F OB ∧ w0.heap.size ≤ OB
section
variable {C B OB n : Nat} {w0 w x : World} {r : Zf} {cs : List Value} {F : Nat → Prop} {o : Z8} {os : List Value} {G : Nat → Prop}
theorem Ob.draw (h : Ob C B OB w0 w n r cs F o os G) (hd : Zbs C w x) (hc : Cur C x) : Ob C B OB w0 x n r cs F o os G := by
 have h1 := h.sb.hC;have h2 := h.oB.2.2;refine ⟨h.sb.draw hd hc, hd.has h.blk (by omega), Zr.is.keep h.sp (fun _ h => h) (hd.keeps fun b hb e => by have := (h.fG b hb).1; omega), fun b hb => ?_, h.oB⟩;have := h.fG b hb;exact ⟨this.1, by have := hd.size; omega, this.2.2⟩
theorem Ob.later (h : Ob C B OB w0 w n r cs F o os G) (hl : Za w x) : Ob C B OB w0 x n r cs F o os G :=
 ⟨h.sb.later hl, (hl.block _ (Zb h.blk)).trans h.blk, Zr.is.keep h.sp (fun _ h => h) (Zg.later hl), fun b hb => by
  have := h.fG b hb;exact ⟨this.1, by have := hl.size; omega, this.2.2⟩, h.oB⟩
/-- One more item. -/
theorem Ob.item {kd tg sr : Int} {vi vk : Value} (h : Ob C B OB w0 w n r cs F o [.int .i64 kd, .int .i64 tg, .int .i64 sr, vi, vk] G) {v2 : Value} {tag : Nat → Nat} {Y : World} {l : List Ze} (hl : Za w x) (h64 : kd = o.kind ∧ tg = o.tag ∧ sr = o.aI ∧ Zs o.kind ∧ Zs o.tag ∧ Zs o.aI)
  (hother : Zae Zd 6 34 (fun y => G y ∧ tag y = 1) w o.aK vk)
  (hrow : Zae Zd 6 34 (fun y => (G y ∧ tag y = 0) ∨ False ∨ y = x.heap.size) Y l v2) (hk : Zg (fun y => ¬ (G y ∧ tag y = 0)) x Y) (hb0 : Below 0 x Y) :
  ∃ G', Ob C B OB w0 (Y.setCell ⟨OB, 3, none⟩ v2) n r cs F { o with aJ := l } [.int .i64 kd, .int .i64 tg, .int .i64 sr, v2, vk] G' ∧ ∀ b, G' b → G b ∨ w.heap.size ≤ b := by
 classical
 obtain ⟨rfl, rfl, rfl, i0, i1, i2⟩ := h64;have hOB := Zb h.blk;have hxs := hl.size;have hYs := hk.size;have hC := h.sb.hC;have hGO : ¬ G OB := fun hg => (h.fG OB hg).2.2.2.2 rfl;have hYO : Y.heap[OB]? = some (.cells (#[.int .i64 o.kind, .int .i64 o.tag, .int .i64 o.aI, vi, vk] : Array Value) 94 (0, 0)) := (hk.same OB (fun hg => hGO hg.1) (by omega)).trans ((hl.block OB hOB).trans h.blk);have ht : Tch (fun b => (G b ∧ tag b = 0) ∨ b = OB) w (Y.setCell ⟨OB, 3, none⟩ v2) :=
  Tch.set ⟨⟨Nat.le_trans hxs hYs, fun b hb hlt => (hk.same b (fun hg => hb (.inl hg)) (by omega)).trans (hl.block b hlt)⟩, (Below.mono hl (Nat.zero_le _)).trans hb0⟩ (.inr rfl) _ _
 have hsY : (Y.setCell ⟨OB, 3, none⟩ v2).heap.size = Y.heap.size := by simp
 refine ⟨fun y => (G y ∨ (w.heap.size ≤ y)) ∧ y < Y.heap.size, ⟨h.sb.tch_ ht (h.sb.cur.keep ht fun b hb hp => ?_) (fun b hb hp => ?_) (fun hp => ?_) (fun b hb hp => .inr ?_), ?_, ?_, fun b hb => ?_, h.oB⟩, fun b hb => hb.1⟩
 ·rcases hp with hp | hp
  ·have := (h.fG b hp.1).1; omega
  ·have := h.oB.2.2; omega
 ·rcases hp with hp | hp
  ·exact (h.fG b hp.1).2.2.1 hb
  ·exact h.oB.2.1 (hp ▸ hb)
 ·rcases hp with hp | hp
  ·exact (h.fG B hp.1).2.2.2.1 rfl
  ·exact h.oB.1 hp.symm
 ·rcases hp with hp | hp
  ·exact (h.fG b hp.1).1
  ·have := h.oB.2.2; omega
 ·have := Zaj (o := 3) hYO v2
  simpa using this
 ·have hkY : Zg (fun y => y ≠ OB) Y (Y.setCell ⟨OB, 3, none⟩ v2) := (Zg.refl _ _).set (fun h => h rfl) _ _;have hnew : Zae Zd 6 34 (fun y => ((G y ∨ w.heap.size ≤ y) ∧ y < Y.heap.size) ∧ (if y = x.heap.size then 0 else tag y) = 0) (Y.setCell ⟨OB, 3, none⟩ v2) l v2 := by
   refine (hrow.trim Zj).keep Zj.is (fun y hy => ?_) (hkY.mono fun y hy e => ?_)
   ·obtain ⟨hy1 | hy1 | hy1, hy2⟩ := hy
    ·refine ⟨⟨.inl hy1.1, hy2⟩, ?_⟩
     split
     ·rfl
     ·exact hy1.2
    ·exact hy1.elim
    ·exact ⟨⟨.inr (by omega), hy2⟩, by rw [if_pos hy1]⟩
   ·subst e;obtain ⟨hy1 | hy1 | hy1, _⟩ := hy
    ·exact hGO hy1.1
    ·exact hy1
    ·omega
  have hold : Zae Zd 6 34 (fun y => ((G y ∨ w.heap.size ≤ y) ∧ y < Y.heap.size) ∧ (if y = x.heap.size then 0 else tag y) = 1) (Y.setCell ⟨OB, 3, none⟩ v2) o.aK vk := by
   refine hother.keep Zj.is (fun y hy => ?_) (ht.keeps fun y hy hp => ?_)
   ·have h1 := (h.fG y hy.1).2.1;exact ⟨⟨.inl hy.1, by omega⟩, by rw [if_neg (by omega)]; exact hy.2⟩
   ·rcases hp with hp | hp
    ·have := hp.2; have := hy.2; omega
    ·exact hGO (hp ▸ hy.1)
  exact ⟨fun y => if y = x.heap.size then 0 else tag y, _, _, rfl, i0, i1, i2, hnew, hold⟩
 ·rcases hb.1 with h1 | h1
  ·have := h.fG b h1;exact ⟨this.1, by omega, this.2.2⟩
  ·have h2 := h.sb.size;have h3 := h.sb.lt;exact ⟨by omega, by omega, fun hf => by have := (h.sb.fF b hf).2; omega, by omega, by omega⟩
/-- One more key. -/
theorem Ob.key {kd tg sr : Int} {vi vk : Value} (h : Ob C B OB w0 w n r cs F o [.int .i64 kd, .int .i64 tg, .int .i64 sr, vi, vk] G) {v2 : Value} {tag : Nat → Nat} {Y : World} {l : List Ze} (hl : Za w x) (h64 : kd = o.kind ∧ tg = o.tag ∧ sr = o.aI ∧ Zs o.kind ∧ Zs o.tag ∧ Zs o.aI)
  (hother : Zae Zd 6 34 (fun y => G y ∧ tag y = 0) w o.aJ vi)
  (hrow : Zae Zd 6 34 (fun y => (G y ∧ tag y = 1) ∨ False ∨ y = x.heap.size) Y l v2) (hk : Zg (fun y => ¬ (G y ∧ tag y = 1)) x Y) (hb0 : Below 0 x Y) :
  ∃ G', Ob C B OB w0 (Y.setCell ⟨OB, 4, none⟩ v2) n r cs F { o with aK := l } [.int .i64 kd, .int .i64 tg, .int .i64 sr, vi, v2] G' ∧ ∀ b, G' b → G b ∨ w.heap.size ≤ b := by
 classical
 obtain ⟨rfl, rfl, rfl, i0, i1, i2⟩ := h64;have hOB := Zb h.blk;have hxs := hl.size;have hYs := hk.size;have hC := h.sb.hC;have hGO : ¬ G OB := fun hg => (h.fG OB hg).2.2.2.2 rfl;have hYO : Y.heap[OB]? = some (.cells (#[.int .i64 o.kind, .int .i64 o.tag, .int .i64 o.aI, vi, vk] : Array Value) 94 (0, 0)) := (hk.same OB (fun hg => hGO hg.1) (by omega)).trans ((hl.block OB hOB).trans h.blk);have ht : Tch (fun b => (G b ∧ tag b = 1) ∨ b = OB) w (Y.setCell ⟨OB, 4, none⟩ v2) :=
  Tch.set ⟨⟨Nat.le_trans hxs hYs, fun b hb hlt => (hk.same b (fun hg => hb (.inl hg)) (by omega)).trans (hl.block b hlt)⟩, (Below.mono hl (Nat.zero_le _)).trans hb0⟩ (.inr rfl) _ _
 have hsY : (Y.setCell ⟨OB, 4, none⟩ v2).heap.size = Y.heap.size := by simp
 refine ⟨fun y => (G y ∨ (w.heap.size ≤ y)) ∧ y < Y.heap.size, ⟨h.sb.tch_ ht (h.sb.cur.keep ht fun b hb hp => ?_) (fun b hb hp => ?_) (fun hp => ?_) (fun b hb hp => .inr ?_), ?_, ?_, fun b hb => ?_, h.oB⟩, fun b hb => hb.1⟩
 ·rcases hp with hp | hp
  ·have := (h.fG b hp.1).1; omega
  ·have := h.oB.2.2; omega
 ·rcases hp with hp | hp
  ·exact (h.fG b hp.1).2.2.1 hb
  ·exact h.oB.2.1 (hp ▸ hb)
 ·rcases hp with hp | hp
  ·exact (h.fG B hp.1).2.2.2.1 rfl
  ·exact h.oB.1 hp.symm
 ·rcases hp with hp | hp
  ·exact (h.fG b hp.1).1
  ·have := h.oB.2.2; omega
 ·have := Zaj (o := 4) hYO v2
  simpa using this
 ·have hkY : Zg (fun y => y ≠ OB) Y (Y.setCell ⟨OB, 4, none⟩ v2) := (Zg.refl _ _).set (fun h => h rfl) _ _;have hnew : Zae Zd 6 34 (fun y => ((G y ∨ w.heap.size ≤ y) ∧ y < Y.heap.size) ∧ (if y = x.heap.size then 1 else tag y) = 1) (Y.setCell ⟨OB, 4, none⟩ v2) l v2 := by
   refine (hrow.trim Zj).keep Zj.is (fun y hy => ?_) (hkY.mono fun y hy e => ?_)
   ·obtain ⟨hy1 | hy1 | hy1, hy2⟩ := hy
    ·refine ⟨⟨.inl hy1.1, hy2⟩, ?_⟩
     split
     ·rfl
     ·exact hy1.2
    ·exact hy1.elim
    ·exact ⟨⟨.inr (by omega), hy2⟩, by rw [if_pos hy1]⟩
   ·subst e;obtain ⟨hy1 | hy1 | hy1, _⟩ := hy
    ·exact hGO hy1.1
    ·exact hy1
    ·omega
  have hold : Zae Zd 6 34 (fun y => ((G y ∨ w.heap.size ≤ y) ∧ y < Y.heap.size) ∧ (if y = x.heap.size then 1 else tag y) = 0) (Y.setCell ⟨OB, 4, none⟩ v2) o.aJ vi := by
   refine hother.keep Zj.is (fun y hy => ?_) (ht.keeps fun y hy hp => ?_)
   ·have h1 := (h.fG y hy.1).2.1;exact ⟨⟨.inl hy.1, by omega⟩, by rw [if_neg (by omega)]; exact hy.2⟩
   ·rcases hp with hp | hp
    ·have := hp.2; have := hy.2; omega
    ·exact hGO (hp ▸ hy.1)
  exact ⟨fun y => if y = x.heap.size then 1 else tag y, _, _, rfl, i0, i1, i2, hold, hnew⟩
 ·rcases hb.1 with h1 | h1
  ·have := h.fG b h1;exact ⟨this.1, by omega, this.2.2⟩
  ·have h2 := h.sb.size;have h3 := h.sb.lt;exact ⟨by omega, by omega, fun hf => by have := (h.sb.fF b hf).2; omega, by omega, by omega⟩
/-- The aJ are a row that was just made. -/
theorem Ob.lit {kd tg sr : Int} {vi vk : Value} (h : Ob C B OB w0 w n r cs F o [.int .i64 kd, .int .i64 tg, .int .i64 sr, vi, vk] G) {v2 : Value} {l : List Ze} (hl : Za w x) (hrow : Zae Zd 6 34 (fun y => w.heap.size ≤ y) x l v2) :
  ∃ G', Ob C B OB w0 (x.setCell ⟨OB, 3, none⟩ v2) n r cs F { o with aJ := l } [.int .i64 kd, .int .i64 tg, .int .i64 sr, v2, vk] G' ∧ ∀ b, G' b → G b ∨ w.heap.size ≤ b := by
 classical
 have hOB := Zb h.blk;have hxs := hl.size;have hC := h.sb.hC;have hGO : ¬ G OB := fun hg => (h.fG OB hg).2.2.2.2 rfl;obtain ⟨tag, v1, v3, e, i0, i1, i2, hi, hk⟩ := h.sp;simp only [List.cons.injEq, and_true, Value.int.injEq, true_and] at e;obtain ⟨rfl, rfl, rfl, rfl, rfl⟩ := e;have hxO : x.heap[OB]? = some (.cells (#[.int .i64 o.kind, .int .i64 o.tag, .int .i64 o.aI, vi, vk] : Array Value) 94 (0, 0)) := (hl.block OB hOB).trans h.blk;have ht : Tch (fun b => b = OB) w (x.setCell ⟨OB, 3, none⟩ v2) := Tch.set (P := fun b => b = OB) (Tch.later hl) rfl _ _;have hsY : (x.setCell ⟨OB, 3, none⟩ v2).heap.size = x.heap.size := by simp
 refine ⟨fun y => (G y ∨ (w.heap.size ≤ y)) ∧ y < x.heap.size, ⟨h.sb.tch_ ht (h.sb.cur.keep ht fun b hb hp => ?_) (fun b hb hp => ?_) (fun hp => ?_) (fun b hb hp => .inr ?_), ?_, ?_, fun b hb => ?_, h.oB⟩, fun b hb => hb.1⟩
 ·have := h.oB.2.2; omega
 ·exact h.oB.2.1 (hp ▸ hb)
 ·exact h.oB.1 hp.symm
 ·have := h.oB.2.2; omega
 ·have := Zaj (o := 3) hxO v2
  simpa using this
 ·have hkY : Zg (fun y => y ≠ OB) x (x.setCell ⟨OB, 3, none⟩ v2) := (Zg.refl _ _).set (fun h => h rfl) _ _;have hnew : Zae Zd 6 34 (fun y => ((G y ∨ w.heap.size ≤ y) ∧ y < x.heap.size) ∧ (if w.heap.size ≤ y then 0 else 1) = 0) (x.setCell ⟨OB, 3, none⟩ v2) l v2 :=
   (hrow.trim Zj).keep Zj.is (fun y hy => ⟨⟨.inr hy.1, hy.2⟩, by rw [if_pos hy.1]⟩) (hkY.mono fun y hy e => by have := hy.1; omega)
  have hold : Zae Zd 6 34 (fun y => ((G y ∨ w.heap.size ≤ y) ∧ y < x.heap.size) ∧ (if w.heap.size ≤ y then 0 else 1) = 1) (x.setCell ⟨OB, 3, none⟩ v2) o.aK vk := by
   refine hk.keep Zj.is (fun y hy => ?_) (ht.keeps fun y hy hp => ?_)
   ·have h1 := (h.fG y hy.1).2.1;exact ⟨⟨.inl hy.1, by omega⟩, by rw [if_neg (by omega)]⟩
   ·exact hGO (hp ▸ hy.1)
  exact ⟨fun y => if w.heap.size ≤ y then 0 else 1, _, _, rfl, i0, i1, i2, hnew, hold⟩
 ·rcases hb.1 with h1 | h1
  ·have := h.fG b h1;exact ⟨this.1, by omega, this.2.2⟩
  ·have h2 := h.sb.size;have h3 := h.sb.lt;exact ⟨by omega, by omega, fun hf => by have := (h.sb.fF b hf).2; omega, by omega, by omega⟩
/-- Its kind is set. -/
theorem Ob.setKind {kd tg sr : Int} {vi vk : Value} (h : Ob C B OB w0 w n r cs F o [.int .i64 kd, .int .i64 tg, .int .i64 sr, vi, vk] G) (z : Int) (hz : Zs z) :
  Ob C B OB w0 (w.setCell ⟨OB, 0, none⟩ (.int .i64 z)) n r cs F { o with kind := z } [.int .i64 z, .int .i64 tg, .int .i64 sr, vi, vk] G := by
 have hC := h.sb.hC;have hGO : ¬ G OB := fun hg => (h.fG OB hg).2.2.2.2 rfl;have ht : Tch (fun b => b = OB) w (w.setCell ⟨OB, 0, none⟩ (.int .i64 z)) := Tch.set (P := fun b => b = OB) (Tch.refl _ _) rfl _ _;refine ⟨h.sb.tch_ ht (h.sb.cur.keep ht fun b hb hp => ?_) (fun b hb hp => ?_) (fun hp => ?_) (fun b hb hp => .inr ?_), ?_, ?_, fun b hb => ?_, h.oB⟩
 ·have := h.oB.2.2; omega
 ·exact h.oB.2.1 (hp ▸ hb)
 ·exact h.oB.1 hp.symm
 ·have := h.oB.2.2; omega
 ·have := Zaj (o := 0) h.blk (.int .i64 z)
  simpa using this
 ·obtain ⟨tag, v1, v3, e, i0, i1, i2, hi, hk⟩ := h.sp;simp only [List.cons.injEq, and_true, Value.int.injEq, true_and] at e;obtain ⟨rfl, rfl, rfl, rfl, rfl⟩ := e;exact ⟨tag, _, _, rfl, hz, i1, i2, hi.keep Zj.is (fun _ h => h) (ht.keeps fun y hy hp => hGO (hp ▸ hy.1)), hk.keep Zj.is (fun _ h => h) (ht.keeps fun y hy hp => hGO (hp ▸ hy.1))⟩
 ·have := h.fG b hb;exact ⟨this.1, by have := ht.size; omega, this.2.2⟩
/-- Its tag is set. -/
theorem Ob.setTag {kd tg sr : Int} {vi vk : Value} (h : Ob C B OB w0 w n r cs F o [.int .i64 kd, .int .i64 tg, .int .i64 sr, vi, vk] G) (z : Int) (hz : Zs z) :
  Ob C B OB w0 (w.setCell ⟨OB, 1, none⟩ (.int .i64 z)) n r cs F { o with tag := z } [.int .i64 kd, .int .i64 z, .int .i64 sr, vi, vk] G := by
 have hC := h.sb.hC;have hGO : ¬ G OB := fun hg => (h.fG OB hg).2.2.2.2 rfl;have ht : Tch (fun b => b = OB) w (w.setCell ⟨OB, 1, none⟩ (.int .i64 z)) := Tch.set (P := fun b => b = OB) (Tch.refl _ _) rfl _ _;refine ⟨h.sb.tch_ ht (h.sb.cur.keep ht fun b hb hp => ?_) (fun b hb hp => ?_) (fun hp => ?_) (fun b hb hp => .inr ?_), ?_, ?_, fun b hb => ?_, h.oB⟩
 ·have := h.oB.2.2; omega
 ·exact h.oB.2.1 (hp ▸ hb)
 ·exact h.oB.1 hp.symm
 ·have := h.oB.2.2; omega
 ·have := Zaj (o := 1) h.blk (.int .i64 z)
  simpa using this
 ·obtain ⟨tag, v1, v3, e, i0, i1, i2, hi, hk⟩ := h.sp;simp only [List.cons.injEq, and_true, Value.int.injEq, true_and] at e;obtain ⟨rfl, rfl, rfl, rfl, rfl⟩ := e;exact ⟨tag, _, _, rfl, i0, hz, i2, hi.keep Zj.is (fun _ h => h) (ht.keeps fun y hy hp => hGO (hp ▸ hy.1)), hk.keep Zj.is (fun _ h => h) (ht.keeps fun y hy hp => hGO (hp ▸ hy.1))⟩
 ·have := h.fG b hb;exact ⟨this.1, by have := ht.size; omega, this.2.2⟩
/-- The Store has grown beside the object. -/
theorem Ob.inner (h : Ob C B OB w0 w n r cs F o os G) {m : Nat} {r' : Zf} {cs' : List Value} {F' : Nat → Prop} (hs : Sb C B w0 x m r' cs' F') (ht : Tch (fun b => b = C ∨ b = B ∨ F b) w x) (hF : ∀ b, F' b → F b ∨ w.heap.size ≤ b) : Ob C B OB w0 x m r' cs' F' o os G := by
 have hOB := Zb h.blk;have hC := h.sb.hC;refine ⟨hs, ht.has h.blk ?_, Zr.is.keep h.sp (fun _ h => h) (ht.keeps fun b hb hp => ?_), fun b hb => ?_, h.oB.1, fun hf => ?_, h.oB.2.2⟩
 ·rintro (hp | hp | hp)
  ·have := h.oB.2.2; omega
  ·exact h.oB.1 hp
  ·exact h.oB.2.1 hp
 ·have h1 := h.fG b hb
  rcases hp with hp | hp | hp
  ·omega
  ·exact h1.2.2.2.1 hp
  ·exact h1.2.2.1 hp
 ·have h1 := h.fG b hb;refine ⟨h1.1, by have := ht.size; omega, fun hf => ?_, h1.2.2.2⟩
  rcases hF b hf with h2 | h2
  ·exact h1.2.2.1 h2
  ·omega
 ·rcases hF OB hf with h2 | h2
  ·exact h.oB.2.1 h2
  ·omega
end
end Go.Proofs.YtpmhelkiicigfaaGreatDoor
namespace Go.Proofs.YtpmhelkiicigfaaGreatDoor
open Go.RowKit
set_option maxRecDepth 100000
set_option maxHeartbeats 8000000
abbrev vCs (v : Ze) : List Value := [.int .i64 v.kind, .int .i64 v.aH, .int .i64 v.index, .string v.text, .int .i64 v.set_.low, .int .i64 v.set_.high]
theorem Znw : ∀ (l : List Ze) (i j : Nat) (h : i < l.length) (x : Value), (vCs l[i])[j]? = some x → (l.flatMap vCs)[i * 6 + j]? = some x
 | a :: l, 0, j, _, x, hx => by
  have hj := (List.getElem?_eq_some_iff.1 hx).1;rw [List.flatMap_cons, List.getElem?_append_left (by simpa using hj)]
  simpa using hx
 | a :: l, i + 1, j, h, x, hx => by
  have ih := Znw l i j (by simpa using h) x (by simpa using hx);rw [List.flatMap_cons, List.getElem?_append_right (by simp; omega)];rw [← ih]
  congr 1
  simp
  omega
/-- Values in a row that was just made. -/
theorem Zdw {w : World} {b : Nat} {l : List Ze} (hb : w.heap[b]? = some (.cells (l.flatMap vCs).toArray 34 (0, 0))) (hv : ∀ v ∈ l, vOk v) (hl : l.length ≤ 100) (F : Nat → Prop) (hF : F b) :
  Zae Zd 6 34 F w l (.slice (some ⟨b, 0, none⟩) l.length l.length) := by
 refine ⟨_, _, rfl, Nat.le_refl _, by unfold maxLen; omega, fun _ => ⟨b, 0, _, fun _ => 0, rfl, hF, hb, ⟨rfl, ?_⟩, fun i hi => ⟨vCs l[i], (hv _ (List.getElem_mem hi)).el _ _, fun j x hx => ?_⟩⟩⟩
 ·have : ∀ l : List Ze, (l.flatMap vCs).length = l.length * 6 := by
   intro l
   induction l with
   | nil => rfl
   | cons a l ih => rw [List.flatMap_cons, List.length_append, ih]; simp; omega
  simp [this]
 ·rw [List.getElem?_toArray, Nat.zero_add];exact Znw l i j hi x hx
theorem Zfe (C B : Nat) (w0 w : World) (n : Nat) (r : Zf) (cs : List Value) (F G : Nat → Prop) (o : Z8) (os : List Value) (h : Sb C B w0 w n r cs F) (hn : n ≤ 1000) (ho : Za2 G w o os) (hG : ∀ b, G b → w0.heap.size ≤ b ∧ b < w.heap.size ∧ ¬ F b ∧ b ≠ B)
  (hk : (o.kind = 1 ∨ o.kind = 8 ∨ o.kind = 9) ∧ o.tag = 0 ∧ o.aI = 0 ∨ 2 ≤ o.kind ∧ o.kind ≤ 7) (hi : Zbo 43 o.aJ) (hkk : Zbo 43 o.aK) :
  Calls Tryz.prog 132 #[.pointer (some ⟨B, 0, none⟩), .agg os.toArray] w fun e w' => e = .returned (.int .i64 r.aA.length) ∧ ∃ cs' F', Sb C B w0 w' (n + 1) (Zdi r o) cs' F' ∧ Tch (fun b => b = C ∨ b = B ∨ F b) w w' ∧ ∀ b, F' b → F b ∨ G b ∨ w.heap.size ≤ b := by
 have hlen := h.bd.len;have hm0 := h.bd.made0;have hm1 := h.bd.made1;have key : Calls Tryz.prog 132 #[.pointer (some ⟨B, 0, none⟩), .agg os.toArray] w fun e w' => e = .returned (.int .i64 r.aA.length) ∧ (∃ cs', Za1 (fun y => F y ∨ G y ∨ w.heap.size ≤ y) w' B (Zdi r o) cs') ∧ Zax F w B w' := by
  rcases hk with ⟨hk, ht, hs⟩ | ⟨hk, hk2⟩
  ·rw [show Zdi r o = Zac r o from if_neg (by omega)]
   rcases hk with hk | hk | hk
   ·exact Zqy r B cs F G w o os h.st ho (fun y hy => (hG y hy).2.2.1) (fun hy => (hG B hy).2.2.2 rfl) (by omega) ⟨hk, ht, hs⟩
   ·exact Zpw r B cs F G w o os h.st ho (fun y hy => (hG y hy).2.2.1) (fun hy => (hG B hy).2.2.2 rfl) (by omega) ⟨hk, ht, hs⟩
   ·exact Zqz r B cs F G w o os h.st ho (fun y hy => (hG y hy).2.2.1) (fun hy => (hG B hy).2.2.2 rfl) (by omega) ⟨hk, ht, hs⟩
  ·exact Zo0 r B cs F G w o os h.st ho (fun y hy => (hG y hy).2.2.1) (fun hy => (hG B hy).2.2.2 rfl) (by omega) hk hk2 (by omega) hm0
 refine key.mono ?_;rintro e w' ⟨rfl, ⟨cs', hs⟩, hg⟩;exact ⟨rfl, cs', _, h.grow hs hg (fun b hb => ⟨(hG b hb).1, (hG b hb).2.1⟩) hi hkk, ⟨hg.keep.mono fun b hb => ⟨fun hf => hb (.inr (.inr hf)), fun he => hb (.inr (.inl he))⟩, hg.below⟩, fun b hb => hb.1⟩
/-- The Store has an object; beside its aA it is small. -/
def Rs (r : Zf) : Prop := Zfw r ≤ 1000 ∧ 1 ≤ r.aA.length
theorem Rs.new {r : Zf} {o : Z8} (h : Zfw r ≤ 1000) : Rs (Zdi r o) := by
 unfold Zdi
 split
 ·exact ⟨h, by simp [Zac]⟩
 ·exact ⟨h, by simp [Zac]⟩
def Zrb (C B : Nat) (w0 w : World) (n : Nat) (r : Zf) (F : Nat → Prop) (e : Ending) (w' : World) : Prop :=
 ∃ v, vOk v ∧ e = .returned (Ztg v) ∧ ∃ r' cs' F', (Rs r → Rs r') ∧ Sb C B w0 w' (n + 1) r' cs' F' ∧ Tch (fun b => b = C ∨ b = B ∨ F b) w w' ∧ ∀ b, F' b → F b ∨ w.heap.size ≤ b
/-- A result's block R (six cells) is written at the end. -/
theorem Zeb {C B R n m : Nat} {w0 w x : World} {r r' : Zf} {cs cs' : List Value} {F F' : Nat → Prop} (hs : Sb C B w0 x m r' cs' F') (hm : m ≤ n + 1) (ht : Tch (fun b => b = C ∨ b = B ∨ F b) w x) (hF : ∀ b, F' b → F b ∨ w.heap.size ≤ b) (hR : R = w.heap.size) (hRx : R < x.heap.size) (hRF : ¬ F' R) (h0 : Sb C B w0 w n r cs F) (hrs : Rs r → Rs r') (vs : List Value) :
  ∃ r' cs' F', (Rs r → Rs r') ∧ Sb C B w0 (Zm x R 0 vs) (n + 1) r' cs' F' ∧ Tch (fun b => b = C ∨ b = B ∨ F b) w (Zm x R 0 vs) ∧ ∀ b, F' b → F b ∨ w.heap.size ≤ b := by
 have hk := Z4 (F := fun b => b ≠ R) (B := R) (w := x) (fun h => h rfl) vs x 0 (Zg.refl _ _);have hb : Below 0 x (Zm x R 0 vs) := Z7 (Nat.zero_le _) vs x 0 (Below.refl _ _);have hc := h0.hC;have hz := h0.size;have hBl := h0.lt;have htx : Tch (fun b => b = R) x (Zm x R 0 vs) := ⟨hk, hb⟩;have h1 := hs.tch_ htx (hs.cur.keep htx fun b hb e => by omega) (fun b hb e => hRF (e ▸ hb)) (by omega) (fun b _ e => .inr (by omega));refine ⟨r', cs', F', hrs, ⟨h1.st, h1.fF, h1.bd.mono hm, h1.cur, h1.hC, h1.hB, h1.tch⟩, Tch.trans ht htx (fun _ h => h) (fun b hb e => ?_), hF⟩
 omega
set_option maxRecDepth 100000
set_option maxHeartbeats 8000000
theorem Zfx (C B : Nat) (w0 w : World) (n : Nat) (r : Zf) (cs : List Value) (F : Nat → Prop) (h : Sb C B w0 w n r cs F) (hn : n ≤ 1000) (kd : Int) (hk : kd = 1 ∨ kd = 2 ∨ kd = 3 ∨ kd = 12 ∨ kd = 13) :
  Calls Tryz.prog 136 #[.pointer (some ⟨C, 0, none⟩), .pointer (some ⟨B, 0, none⟩), .int .i64 kd] w (Zrb C B w0 w n r F) := by
 have HS0 := zh h;have hlt : C < w.heap.size := by have := h.hC; have := h.size; omega
 have hRF : ¬ F w.heap.size := fun hf => by have := (h.fF _ hf).2; omega
 clear h;obtain ⟨w1, hw1⟩ : ∃ x, x = w.alloc (.cells #[.int .i64 0, .int .i64 0, .int .i64 0, .string ⟨#[]⟩, .int .i64 0, .int .i64 0] 34) := ⟨_, rfl⟩;have hl1 : Za w w1 := by rw [hw1]; exact (Za.refl _).alloc _
 have HR1 := zh (show w1.heap[w.heap.size]? = some (.cells #[.int .i64 0, .int .i64 0, .int .i64 0, .string ⟨#[]⟩, .int .i64 0, .int .i64 0] 34 (0, 0)) by rw [hw1]; exact heap_alloc_new _ _);have HS1 := zh (HS0.o.later hl1);have HT1 := zh (Tch.later (P := (fun b => b = C ∨ b = B ∨ F b)) hl1);clear hl1
 rcases hk with rfl | rfl | rfl | rfl | rfl
 ·go_enter Tryz.func136, Tryz.ntmps136;go_upto_region 1 with (fail);rw [← hw1];clear hw1;go_wp2_with fail;refine (Z0 C _ HS1.o.cur 4 (by omega)).mono ?_;rintro e w2 ⟨_, ⟨y, hy0, hy1, rfl⟩, rfl, hc, hd⟩;have HR2 := zh (hd.has HR1.o (by omega));have HS2 := zh (HS1.o.draw hd hc);have HT2 := zh (HT1.o.tr (hd.mono fun b _ e => .inl e));clear hc hd HR1 HS1 HT1;go_wp2_with fail;refine (Zbd y w2).mono ?_;rintro e w3 ⟨rfl, hl⟩;have HR3 := zC hl HR2;have HS3 := zh (HS2.o.later hl);have HT3 := zh (HT2.o.la hl);clear hl HR2 HS2 HT2;have z0 := cz6 HR3.o;have f0 := fz HR3.o;go_wp2_with fail;have hd := Zeb HS3.o (Nat.le_succ n) HT3.o (fun b hb => .inl hb) rfl (Zb HR3.o) hRF HS0.o id [.int .i64 1, .int .i64 y, .int .i64 0, .string ⟨#[]⟩, .int .i64 0, .int .i64 0];simp only [Zm, Nat.zero_add, Nat.reduceAdd] at hd;exact bodyPost_ret (v := .agg #[.int .i64 1, .int .i64 y, .int .i64 0, .string ⟨#[]⟩, .int .i64 0, .int .i64 0]) (by simp [results, Tryz.results136, go_sem, z0, f0]) rfl ⟨⟨1, y, 0, ⟨#[]⟩, ⟨0, 0⟩⟩, ⟨Ze7, inK y (by omega) (by omega), in0, Nat.zero_le _, in0, in0⟩, rfl, hd⟩
 ·go_enter Tryz.func136, Tryz.ntmps136;go_upto_region 1 with (fail);rw [← hw1];clear hw1;go_wp2_with fail;refine (Zc9 C _ (HS1.o.cur.later ((Za.refl _).alloc _)) (fun t => t.size ≤ 10) [⟨#[]⟩, ⟨#[97]⟩, ⟨#[97, 110]⟩, ⟨#[98, 97, 110]⟩] (by simp) (by simp) w1.heap.size (heap_alloc_new _ _) (by have := HS1.o.cur.lt; omega) (by decide)).mono ?_;rintro e w2 ⟨_, ⟨t, ht, rfl⟩, rfl, hc, hd⟩;have HR2 := zh (hd.has (((Za.refl _).alloc _).block _ (Zb HR1.o) |>.trans HR1.o) (by omega));have HS2 := zh ((HS1.o.later ((Za.refl _).alloc _)).draw hd hc);have HT2 := zh ((HT1.o.la ((Za.refl _).alloc _)).tr (hd.mono fun b _ e => .inl e));clear hc hd HR1 HS1 HT1;go_wp2_with fail;refine (Zcx t w2).mono ?_;rintro e w3 ⟨rfl, hl⟩;have HR3 := zC hl HR2;have HS3 := zh (HS2.o.later hl);have HT3 := zh (HT2.o.la hl);clear hl HR2 HS2 HT2;have z0 := cz6 HR3.o;have f0 := fz HR3.o;go_wp2_with fail;have hd := Zeb HS3.o (Nat.le_succ n) HT3.o (fun b hb => .inl hb) rfl (Zb HR3.o) hRF HS0.o id [.int .i64 2, .int .i64 0, .int .i64 0, .string t, .int .i64 0, .int .i64 0];simp only [Zm, Nat.zero_add, Nat.reduceAdd] at hd;exact bodyPost_ret (v := .agg #[.int .i64 2, .int .i64 0, .int .i64 0, .string t, .int .i64 0, .int .i64 0]) (by simp [results, Tryz.results136, go_sem, z0, f0]) rfl ⟨⟨2, 0, 0, t, ⟨0, 0⟩⟩, ⟨Zm8, in0, in0, (show t.size ≤ 121 by omega), in0, in0⟩, rfl, hd⟩
 ·go_enter Tryz.func136, Tryz.ntmps136;go_upto_region 1 with (fail);rw [← hw1];clear hw1;go_wp2_with fail;refine (Zc9 C _ (HS1.o.cur.later ((Za.refl _).alloc _)) (fun t => t.size ≤ 10 ∧ ∀ j (h : j < t.size), (t[j].toNat : Int) < 128) [⟨#[97]⟩, ⟨#[97, 110]⟩, ⟨#[98, 97, 110]⟩, ⟨#[]⟩] (by simp) (by simp) w1.heap.size (heap_alloc_new _ _) (by have := HS1.o.cur.lt; omega) (by decide)).mono ?_;rintro e w2 ⟨_, ⟨t, ⟨ht1, ht2⟩, rfl⟩, rfl, hc, hd⟩;have HR2 := zh (hd.has (((Za.refl _).alloc _).block _ (Zb HR1.o) |>.trans HR1.o) (by omega));have HS2 := zh ((HS1.o.later ((Za.refl _).alloc _)).draw hd hc);have HT2 := zh ((HT1.o.la ((Za.refl _).alloc _)).tr (hd.mono fun b _ e => .inl e));clear hc hd HR1 HS1 HT1;go_wp2_with fail;refine (Zhf t w2 ht2 (by omega)).mono ?_;rintro e w3 ⟨_, ⟨lo, hi, ilo, ihi, rfl⟩, rfl, hl⟩;have HR3 := zC hl HR2;have HS3 := zh (HS2.o.later hl);have HT3 := zh (HT2.o.la hl);clear hl HR2 HS2 HT2;obtain ⟨w4, hw4⟩ : ∃ x, x = w3.alloc (.cells #[.int .i64 lo, .int .i64 hi] TCs) := ⟨_, rfl⟩;have hl : Za w3 w4 := by rw [hw4]; exact (Za.refl _).alloc _
  have HX4 := zh (show w4.heap[w3.heap.size]? = some (.cells #[.int .i64 lo, .int .i64 hi] TCs (0, 0)) by rw [hw4]; exact heap_alloc_new _ _);have HR4 := zC hl HR3;have HS4 := zh (HS3.o.later hl);have HT4 := zh (HT3.o.la hl);clear hl HR3 HS3 HT3;go_upto_region 8 with (fail);rw [← hw4];clear hw4;have p0 := cz2 HX4.o;go_wp2_with fail;refine (Zhs lo hi w4).mono ?_;rintro e w5 ⟨rfl, hl⟩;have HR5 := zC hl HR4;have HS5 := zh (HS4.o.later hl);have HT5 := zh (HT4.o.la hl);clear hl HR4 HS4 HT4;clear p0 HX4;have z0 := cz6 HR5.o;have f0 := fz HR5.o;go_wp2_with fail;have hd := Zeb HS5.o (Nat.le_succ n) HT5.o (fun b hb => .inl hb) rfl (Zb HR5.o) hRF HS0.o id [.int .i64 3, .int .i64 0, .int .i64 0, .string ⟨#[]⟩, .int .i64 lo, .int .i64 hi];simp only [Zm, Nat.zero_add, Nat.reduceAdd] at hd;exact bodyPost_ret (v := .agg #[.int .i64 3, .int .i64 0, .int .i64 0, .string ⟨#[]⟩, .int .i64 lo, .int .i64 hi]) (by simp [results, Tryz.results136, go_sem, z0, f0]) rfl ⟨⟨3, 0, 0, ⟨#[]⟩, ⟨lo, hi⟩⟩, ⟨Zth, in0, in0, Nat.zero_le _, ilo, ihi⟩, rfl, hd⟩
 ·go_enter Tryz.func136, Tryz.ntmps136;go_upto_region 1 with (fail);rw [← hw1];clear hw1;go_wp2_with fail;refine (Zcx ⟨#[97]⟩ w1).mono ?_;rintro e w2 ⟨rfl, hl⟩;have HR2 := zC hl HR1;have HS2 := zh (HS1.o.later hl);have HT2 := zh (HT1.o.la hl);clear hl HR1 HS1 HT1;have hR2 := Zb HR2.o;obtain ⟨w3, hw3⟩ : ∃ x, x = w2.alloc (.cells #[.int .i64 2, .int .i64 0, .int .i64 0, .string ⟨#[97]⟩, .int .i64 0, .int .i64 0] 34) := ⟨_, rfl⟩;have hl : Za w2 w3 := by rw [hw3]; exact (Za.refl _).alloc _
  have hN3 : w3.heap[w2.heap.size]? = some (.cells #[.int .i64 2, .int .i64 0, .int .i64 0, .string ⟨#[97]⟩, .int .i64 0, .int .i64 0] 34 (0, 0)) := by rw [hw3]; exact heap_alloc_new _ _
  have HR3 := zC hl HR2;have HS3 := zh (HS2.o.later hl);have HT3 := zh (HT2.o.la hl);have hv1 : vOk ⟨2, 0, 0, ⟨#[97]⟩, ⟨0, 0⟩⟩ := ⟨Zm8, in0, in0, (show (1 : Nat) ≤ 121 by omega), in0, in0⟩;have hrow := Zdw (w := w3) (b := w2.heap.size) (l := [⟨2, 0, 0, ⟨#[97]⟩, ⟨0, 0⟩⟩]) hN3 (by intro v hv; rw [List.mem_singleton] at hv; subst hv; exact hv1) (by simp) (fun y => y = w2.heap.size ∧ 0 = 0) ⟨rfl, rfl⟩;have hobj : Za2 (fun y => y = w2.heap.size) w3 ⟨7, 1, 0, [⟨2, 0, 0, ⟨#[97]⟩, ⟨0, 0⟩⟩], []⟩ [.int .i64 7, .int .i64 1, .int .i64 0, .slice (some ⟨w2.heap.size, 0, none⟩) 1 1, .slice none 0 0] := ⟨fun _ => 0, _, _, rfl, inK 7 (by omega) (by omega), Ze7, in0, hrow, Zae.nil _ _ _ _ _⟩;have HOBJ := zh hobj;have HN := zh (show w2.heap.size < w3.heap.size from Zb hN3);have hsz2 : w.heap.size < w2.heap.size := hR2;clear hl HR2 HS2 HT2 hrow hobj hN3;go_wp2_with fail;rw [← hw3];refine (Zfe C B w0 w3 n r cs F (fun y => y = w2.heap.size) _ _ HS3.o hn HOBJ.o (fun b hb => ⟨by have := HS0.o.size; omega, by have := HN.o; omega, fun hf => by have := (HS0.o.fF b hf).2; omega, by have := HS0.o.lt; omega⟩) (.inr ⟨by decide, by decide⟩) ⟨by decide, by intro v hv; rw [List.mem_singleton] at hv; subst hv; exact hv1.2.2.2.1⟩ (Zbo.nil _)).mono ?_;rintro e w4 ⟨rfl, cs', F', hs4, ht4, hF4⟩;have hRF4 : ¬ F' w.heap.size := fun hf => by
   rcases hF4 _ hf with h1 | h1 | h1
   ·exact hRF h1
   ·omega
   ·have := HN.o; omega
  have HR4 := zh (ht4.has HR3.o (by rintro (h1 | h1 | h1); omega; have := HS0.o.lt; omega; exact hRF h1));have HS4 := zh hs4;have HT4 := zh (HT3.o.tr ht4);have HF4 := zh (show ∀ b, F' b → F b ∨ w.heap.size ≤ b from fun b hb => by
   rcases hF4 b hb with h1 | h1 | h1
   ·exact .inl h1
   ·exact .inr (by omega)
   ·exact .inr (by have := HN.o; omega))
  have hlen := HS0.o.bd.len;clear hs4 ht4 hF4 HR3 HS3 HT3 hw3 HOBJ;have z0 := cz6 HR4.o;have f0 := fz HR4.o;go_wp2_with fail;have hd := Zeb HS4.o (Nat.le_refl _) HT4.o HF4.o rfl (Zb HR4.o) hRF4 HS0.o (fun h => Rs.new h.1) [.int .i64 12, .int .i64 (r.aA.length : Int), .int .i64 0, .string ⟨#[]⟩, .int .i64 0, .int .i64 0];simp only [Zm, Nat.zero_add, Nat.reduceAdd] at hd;exact bodyPost_ret (v := .agg #[.int .i64 12, .int .i64 (r.aA.length : Int), .int .i64 0, .string ⟨#[]⟩, .int .i64 0, .int .i64 0]) (by simp [results, Tryz.results136, go_sem, z0, f0]) rfl ⟨⟨12, (r.aA.length : Int), 0, ⟨#[]⟩, ⟨0, 0⟩⟩, ⟨inK 12 (by omega) (by omega), (show Zs (r.aA.length : Int) from inK _ (by omega) (by omega)), in0, Nat.zero_le _, in0, in0⟩, rfl, hd⟩
 ·go_enter Tryz.func136, Tryz.ntmps136;go_upto_region 1 with (fail);rw [← hw1];clear hw1;go_wp2_with fail;refine (Z0 C _ HS1.o.cur 2 (by omega)).mono ?_;rintro e w2 ⟨_, ⟨y, hy0, hy1, rfl⟩, rfl, hc, hd⟩;have HR2 := zh (hd.has HR1.o (by omega));have HS2 := zh (HS1.o.draw hd hc);have HT2 := zh (HT1.o.tr (hd.mono fun b _ e => .inl e));clear hc hd HR1 HS1 HT1;have z0 := cz6 HR2.o;have f0 := fz HR2.o;go_wp2_with fail;have hd := Zeb HS2.o (Nat.le_succ n) HT2.o (fun b hb => .inl hb) rfl (Zb HR2.o) hRF HS0.o id [.int .i64 14, .int .i64 0, .int .i64 y, .string ⟨#[]⟩, .int .i64 0, .int .i64 0];simp only [Zm, Nat.zero_add, Nat.reduceAdd] at hd;exact bodyPost_ret (v := .agg #[.int .i64 14, .int .i64 0, .int .i64 y, .string ⟨#[]⟩, .int .i64 0, .int .i64 0]) (by simp [results, Tryz.results136, go_sem, z0, f0]) rfl ⟨⟨14, 0, y, ⟨#[]⟩, ⟨0, 0⟩⟩, ⟨inK 14 (by omega) (by omega), in0, inK y (by omega) (by omega), Nat.zero_le _, in0, in0⟩, rfl, hd⟩
end Go.Proofs.YtpmhelkiicigfaaGreatDoor
namespace Go.Proofs.YtpmhelkiicigfaaGreatDoor
open Go.RowKit
theorem Znx {w : World} {b : Nat} {l : List ByteArray} (hb : w.heap[b]? = some (.cells (l.map Value.string).toArray 9 (0, 0))) (hv : ∀ v ∈ l, v.size ≤ 1000) (hl : l.length ≤ 100) (F : Nat → Prop) (hF : F b) :
  Zae Zb0 1 9 F w l (.slice (some ⟨b, 0, none⟩) l.length l.length) := by
 refine ⟨_, _, rfl, Nat.le_refl _, by unfold maxLen; omega, fun _ => ⟨b, 0, _, fun _ => 0, rfl, hF, hb, ⟨rfl, by simp⟩, fun i hi => ⟨[.string l[i]], ⟨rfl, by have := hv _ (List.getElem_mem hi); unfold maxLen; omega⟩, fun j x hx => ?_⟩⟩⟩;have hj := (List.getElem?_eq_some_iff.1 hx).1;simp only [List.length_cons, List.length_nil] at hj;obtain rfl : j = 0 := by omega
 simp only [List.getElem?_cons_zero, Option.some.injEq] at hx;subst hx;simp [hi]
def r0 (s : ByteArray) (t : Int) : Zf := ⟨[⟨#[109, 97, 105, 110]⟩, ⟨#[102]⟩], [⟨⟨#[112, 111, 105, 110, 116]⟩, [⟨#[117]⟩, ⟨#[118]⟩], 0⟩], [], [⟨0, 0, 0, ⟨#[]⟩, ⟨0, 0⟩⟩, ⟨1, 3, 0, ⟨#[]⟩, ⟨0, 0⟩⟩], s, 1, [], [], [], false, t, 400, 0⟩
theorem Ztl (s : ByteArray) (t : Int) (hs : s.size ≤ 100) : Bd 0 (r0 s t) := ⟨Nat.le_refl _, by show (0 : Int) ≤ 0; omega, by show (0 : Int) ≤ 0; omega, by intro o ho; exact absurd ho (by simp [r0]), by
 show Zo ByteArray.size [⟨#[109, 97, 105, 110]⟩, ⟨#[102]⟩] + (Zo Z5 [⟨⟨#[112, 111, 105, 110, 116]⟩, [⟨#[117]⟩, ⟨#[118]⟩], 0⟩] + (Zo Zah [⟨0, 0, 0, ⟨#[]⟩, ⟨0, 0⟩⟩, ⟨1, 3, 0, ⟨#[]⟩, ⟨0, 0⟩⟩] + (s.size + (Zo ByteArray.size [] + (Zo ByteArray.size [] + Zo (fun _ => 0) ([] : List Zc0)))))) ≤ 2000;have h1 : Zo ByteArray.size [⟨#[109, 97, 105, 110]⟩, ⟨#[102]⟩] = 7 := rfl;have h2 : Zo Z5 [⟨⟨#[112, 111, 105, 110, 116]⟩, [⟨#[117]⟩, ⟨#[118]⟩], 0⟩] = 10 := rfl;have h3 : Zo Zah [⟨0, 0, 0, ⟨#[]⟩, ⟨0, 0⟩⟩, ⟨1, 3, 0, ⟨#[]⟩, ⟨0, 0⟩⟩] = 2 := rfl;have h4 : Zo ByteArray.size [] = 0 := rfl;have h5 : Zo (fun _ => 0) ([] : List Zc0) = 0 := rfl
 omega⟩
/-- The Store at the beginning. -/
theorem Znb {w : World} {N1 N2 N3 N4 B : Nat} (s : ByteArray) (t : Int) (hs : s.size ≤ 100) (ht : Zs t)
  (h1 : w.heap[N1]? = some (.cells #[.string ⟨#[109, 97, 105, 110]⟩, .string ⟨#[102]⟩] 9 (0, 0))) (h2 : w.heap[N2]? = some (.cells #[.string ⟨#[117]⟩, .string ⟨#[118]⟩] 9 (0, 0)))
  (h3 : w.heap[N3]? = some (.cells #[.string ⟨#[112, 111, 105, 110, 116]⟩, .slice (some ⟨N2, 0, none⟩) 2 2, .int .i64 0] 136 (0, 0)))
  (h4 : w.heap[N4]? = some (.cells #[.int .i64 0, .int .i64 0, .int .i64 0, .string ⟨#[]⟩, .int .i64 0, .int .i64 0, .int .i64 1, .int .i64 3, .int .i64 0, .string ⟨#[]⟩, .int .i64 0, .int .i64 0] 34 (0, 0)))
  (hB : w.heap[B]? = some (.cells #[.slice (some ⟨N1, 0, none⟩) 2 2, .slice (some ⟨N3, 0, none⟩) 1 1, .slice none 0 0, .slice (some ⟨N4, 0, none⟩) 2 2, .string s, .int .i64 1, .slice none 0 0, .slice none 0 0, .slice none 0 0, .bool false, .int .i64 t, .int .i64 400, .int .i64 0] 30 (0, 0)))
  (h12 : N1 < N2) (h23 : N2 < N3) (h34 : N3 < N4) (h4B : N4 < B) :
  Za1 (fun y => y = N1 ∨ y = N2 ∨ y = N3 ∨ y = N4) w B (r0 s t) [.slice (some ⟨N1, 0, none⟩) 2 2, .slice (some ⟨N3, 0, none⟩) 1 1, .slice none 0 0, .slice (some ⟨N4, 0, none⟩) 2 2, .string s, .int .i64 1, .slice none 0 0, .slice none 0 0, .slice none 0 0, .bool false, .int .i64 t, .int .i64 400, .int .i64 0] := by
 obtain ⟨tg, g1, g2, g3, g4⟩ : ∃ tg : Nat → Nat, tg N1 = 0 ∧ tg N2 = 1 ∧ tg N3 = 1 ∧ tg N4 = 3 := by
  refine ⟨fun y => if y = N1 then 0 else if y = N4 then 3 else 1, ?_, ?_, ?_, ?_⟩
  ·simp
  ·show (if N2 = N1 then 0 else if N2 = N4 then 3 else 1) = 1;rw [if_neg (by omega), if_neg (by omega)]
  ·show (if N3 = N1 then 0 else if N3 = N4 then 3 else 1) = 1;rw [if_neg (by omega), if_neg (by omega)]
  ·show (if N4 = N1 then 0 else if N4 = N4 then 3 else 1) = 3;rw [if_neg (by omega), if_pos rfl]
 refine ⟨hB, ⟨tg, _, _, _, _, _, _, _, rfl, ?_, ?_, Zae.nil _ _ _ _ _, ?_, by show s.size ≤ maxLen; unfold maxLen; omega, Ze7, Zae.nil _ _ _ _ _, Zae.nil _ _ _ _ _, Zae.nil _ _ _ _ _, ht, inK 400 (by omega) (by omega), in0⟩, by omega⟩
 ·exact Znx (l := [⟨#[109, 97, 105, 110]⟩, ⟨#[102]⟩]) h1 (by decide) (by simp) _ ⟨.inl rfl, g1⟩
 ·refine ⟨_, 1, rfl, Nat.le_refl _, by unfold maxLen; omega, fun _ => ⟨N3, 0, _, fun _ => 0, rfl, ⟨.inr (.inr (.inl rfl)), g3⟩, h3, ⟨rfl, by simp⟩, fun i hi => ?_⟩⟩;have hi0 : i = 0 := by simp [r0] at hi; exact hi
  subst hi0;refine ⟨_, ⟨fun _ => 0, _, rfl, by show (5 : Nat) ≤ maxLen; unfold maxLen; omega, Znx (l := [⟨#[117]⟩, ⟨#[118]⟩]) h2 (by decide) (by simp) _ ⟨⟨⟨⟨.inr (.inl rfl), g2⟩, by omega⟩, rfl⟩, rfl⟩, in0⟩, fun j x hx => ?_⟩;have hx2 : ([.string ⟨#[112, 111, 105, 110, 116]⟩, .slice (some ⟨N2, 0, none⟩) 2 2, .int .i64 0] : List Value)[j]? = some x := hx
  simpa using hx2
 ·exact Zdw (l := [⟨0, 0, 0, ⟨#[]⟩, ⟨0, 0⟩⟩, ⟨1, 3, 0, ⟨#[]⟩, ⟨0, 0⟩⟩]) h4 (by
   intro v hv;simp only [List.mem_cons, List.not_mem_nil, or_false] at hv
   rcases hv with rfl | rfl
   ·exact ⟨in0, in0, in0, Nat.zero_le _, in0, in0⟩
   ·exact ⟨Ze7, inK 3 (by omega) (by omega), in0, Nat.zero_le _, in0, in0⟩) (by simp) _ ⟨.inr (.inr (.inr rfl)), g4⟩
section
variable {C B n : Nat} {w0 w x : World} {r : Zf} {cs : List Value} {F : Nat → Prop}
theorem Sb.start {w : World} {r : Zf} {cs : List Value} {F : Nat → Prop} (h : Za1 F w B r cs) (hF : ∀ b, F b → w0.heap.size ≤ b ∧ b < w.heap.size) (hb : Bd n r) (hc : Cur C w) (hC : C < w0.heap.size) (hB : w0.heap.size ≤ B) (ht : Tch (fun b => b = C ∨ w0.heap.size ≤ b) w0 w) : Sb C B w0 w n r cs F := ⟨h, hF, hb, hc, hC, hB, ht⟩
/-- A cell of the Store itself is written. -/
theorem Sb.cell (h : Sb C B w0 w n r cs F) (k : Nat) (v : Value) : Tch (fun b => b = B) w (w.setCell ⟨B, k, none⟩ v) ∧ Cur C (w.setCell ⟨B, k, none⟩ v) ∧ Tch (fun b => b = C ∨ w0.heap.size ≤ b) w0 (w.setCell ⟨B, k, none⟩ v) ∧ Zg F w (w.setCell ⟨B, k, none⟩ v) := by
 have ht : Tch (fun b => b = B) w (w.setCell ⟨B, k, none⟩ v) := Tch.set (P := fun b => b = B) (Tch.refl _ _) rfl _ _;have h1 := h.hC;have h2 := h.hB;exact ⟨ht, h.cur.keep ht (fun b hb e => by omega), Tch.trans h.tch ht (fun _ h => h) (fun b _ e => .inr (by omega)), ht.keeps fun b hb e => h.st.nB (e ▸ hb)⟩
theorem Sb.pos (h : Sb C B w0 w n r cs F) (p : Int) (hp : Zs p) : ∃ cs', Sb C B w0 (w.setCell ⟨B, 5, none⟩ (.int .i64 p)) n { r with aD := p } cs' F := by
 obtain ⟨ht, hc, ht0, hk⟩ := h.cell 5 (.int .i64 p);obtain ⟨hblk, ⟨tag, aL, aM, aN, aO, aP, aQ, aR, rfl, aV, aW, aX, aY, aZ, bA, bB, bD, bE, bF, bG, bH⟩, hnB⟩ := h.st;refine ⟨_, ⟨⟨?_, ⟨tag, aL, aM, aN, aO, aP, aQ, aR, rfl, aV.keep Zt.is (fun _ h => h) (hk.mono fun _ h => h.1), aW.keep Zv.is (fun _ h => h) (hk.mono fun _ h => h.1), aX.keep Zr.is (fun _ h => h) (hk.mono fun _ h => h.1), aY.keep Zj.is (fun _ h => h) (hk.mono fun _ h => h.1), aZ, hp, bB.keep Zt.is (fun _ h => h) (hk.mono fun _ h => h.1), bD.keep Zt.is (fun _ h => h) (hk.mono fun _ h => h.1), bE.keep Zav.is (fun _ h => h) (hk.mono fun _ h => h.1), bF, bG, bH⟩, hnB⟩, fun b hb => ⟨(h.fF b hb).1, by simpa using (h.fF b hb).2⟩, ⟨h.bd.len, h.bd.made0, h.bd.made1, h.bd.obj, h.bd.rest⟩, hc, h.hC, h.hB, ht0⟩⟩;have := Zaj (o := 5) hblk (.int .i64 p)
 simpa using this
/-- The aE are a row that was just made. -/
theorem Sb.acts (h : Sb C B w0 w n r cs F) {l : List Zc0} {v : Value} (hl : Za w x) (hrow : Zae Zch 2 89 (fun y => w.heap.size ≤ y) x l v) (hlen : l.length ≤ 1) (hr : Zfw r ≤ 1000) :
  ∃ cs' F', Sb C B w0 (x.setCell ⟨B, 8, none⟩ v) n { r with aE := l } cs' F' := by
 have hx := h.later hl;obtain ⟨ht, hc, ht0, hk⟩ := hx.cell 8 v;have hBl := h.lt;have hls := hl.size;obtain ⟨hblk, ⟨tag, aL, aM, aN, aO, aP, aQ, aR, rfl, aV, aW, aX, aY, aZ, bA, bB, bD, bE, bF, bG, bH⟩, hnB⟩ := hx.st;have bO : ∀ i y, F y ∧ tag y = i → i ≠ 6 → (F y ∨ w.heap.size ≤ y ∧ y < x.heap.size) ∧ (if w.heap.size ≤ y then 6 else tag y) = i := fun i y hy hi => ⟨.inl hy.1, (if_neg (by have := (h.fF y hy.1).2; omega)).trans hy.2⟩;refine ⟨_, fun y => F y ∨ w.heap.size ≤ y ∧ y < x.heap.size, ⟨⟨?_, ⟨fun y => if w.heap.size ≤ y then 6 else tag y, aL, aM, aN, aO, aP, aQ, v, rfl, aV.keep Zt.is (fun y hy => bO 0 y hy (by decide)) (hk.mono fun _ h => h.1), aW.keep Zv.is (fun y hy => bO 1 y hy (by decide)) (hk.mono fun _ h => h.1), aX.keep Zr.is (fun y hy => bO 2 y hy (by decide)) (hk.mono fun _ h => h.1), aY.keep Zj.is (fun y hy => bO 3 y hy (by decide)) (hk.mono fun _ h => h.1), aZ, bA, bB.keep Zt.is (fun y hy => bO 4 y hy (by decide)) (hk.mono fun _ h => h.1), bD.keep Zt.is (fun y hy => bO 5 y hy (by decide)) (hk.mono fun _ h => h.1), (hrow.trim Zav).keep Zav.is (fun y hy => ⟨.inr hy, if_pos hy.1⟩) (ht.keeps fun y hy e => by have := hy.1; omega), bF, bG, bH⟩, ?_⟩, fun b hb => ?_, ⟨h.bd.len, h.bd.made0, h.bd.made1, h.bd.obj, ?_⟩, hc, h.hC, h.hB, ht0⟩⟩
 ·have := Zaj (o := 8) hblk v
  simpa using this
 ·rintro (h1 | h1)
  ·exact hnB h1
  ·omega
 ·rcases hb with h1 | h1
  ·exact ⟨(h.fF b h1).1, by have := (hx.fF b h1).2; simpa using this⟩
  ·exact ⟨by have := h.size; omega, by simpa using h1.2⟩
 ·have h1 : Zo (fun _ : Zc0 => 0) l ≤ 1 := by
   have := Zdv (fun _ : Zc0 => 0) 0 l (by simp);unfold Zo
   omega
  unfold Zfw at hr ⊢;show Zo ByteArray.size r.names + (Zo Z5 r.aB + (Zo Zah r.globals + (r.aC.size + (Zo ByteArray.size r.output + (Zo ByteArray.size r.trace + Zo (fun _ => 0) l))))) ≤ 2000
  omega
end
end Go.Proofs.YtpmhelkiicigfaaGreatDoor
namespace Go.Proofs.YtpmhelkiicigfaaGreatDoor
open Go.RowKit
abbrev Zls : TypeId := 94
abbrev Za9 : TypeId := 34
def SbS (C B : Nat) (w0 : World) (n : Nat) (wr : World) : Prop := ∃ r cs F, Sb C B w0 wr n r cs F ∧ Rs r
def ObS (C B OB : Nat) (w0 : World) (n : Nat) (kd tg : Int) (mi mk : Nat) (wr : World) : Prop :=
 ∃ r cs F aJ aK vi vk G, Ob C B OB w0 wr n r cs F ⟨kd, tg, 0, aJ, aK⟩ [.int .i64 kd, .int .i64 tg, .int .i64 0, vi, vk] G ∧ Zbo mi aJ ∧ Zbo mk aK ∧ Rs r
section
variable {C B OB n m : Nat} {w0 w x : World} {r : Zf} {cs : List Value} {F : Nat → Prop} {kd tg : Int} {mi mk mi' mk' : Nat}
theorem Sb.mono (h : Sb C B w0 w n r cs F) (hm : n ≤ m) : Sb C B w0 w m r cs F := ⟨h.st, h.fF, h.bd.mono hm, h.cur, h.hC, h.hB, h.tch⟩
theorem SbS.mono (h : SbS C B w0 n w) (hm : n ≤ m) : SbS C B w0 m w := by
 obtain ⟨r, cs, F, h1, h2⟩ := h;exact ⟨r, cs, F, h1.mono hm, h2⟩
theorem SbS.draw (h : SbS C B w0 n w) (hd : Zbs C w x) (hc : Cur C x) : SbS C B w0 n x := by
 obtain ⟨r, cs, F, h1, h2⟩ := h;exact ⟨r, cs, F, h1.draw hd hc, h2⟩
theorem SbS.later (h : SbS C B w0 n w) (hl : Za w x) : SbS C B w0 n x := by
 obtain ⟨r, cs, F, h1, h2⟩ := h;exact ⟨r, cs, F, h1.later hl, h2⟩
theorem SbS.cur (h : SbS C B w0 n w) : Cur C w := by
 obtain ⟨r, cs, F, h1, h2⟩ := h;exact h1.cur
theorem ObS.mono (h : ObS C B OB w0 n kd tg mi mk w) (hm : n ≤ m) (hi : mi ≤ mi') (hk : mk ≤ mk') : ObS C B OB w0 m kd tg mi' mk' w := by
 obtain ⟨r, cs, F, aJ, aK, vi, vk, G, h1, h2, h3, h4⟩ := h;exact ⟨r, cs, F, aJ, aK, vi, vk, G, ⟨h1.sb.mono hm, h1.blk, h1.sp, h1.fG, h1.oB⟩, h2.mono hi, h3.mono hk, h4⟩
theorem ObS.draw (h : ObS C B OB w0 n kd tg mi mk w) (hd : Zbs C w x) (hc : Cur C x) : ObS C B OB w0 n kd tg mi mk x := by
 obtain ⟨r, cs, F, aJ, aK, vi, vk, G, h1, h2, h3, h4⟩ := h;exact ⟨r, cs, F, aJ, aK, vi, vk, G, h1.draw hd hc, h2, h3, h4⟩
theorem ObS.later (h : ObS C B OB w0 n kd tg mi mk w) (hl : Za w x) : ObS C B OB w0 n kd tg mi mk x := by
 obtain ⟨r, cs, F, aJ, aK, vi, vk, G, h1, h2, h3, h4⟩ := h;exact ⟨r, cs, F, aJ, aK, vi, vk, G, h1.later hl, h2, h3, h4⟩
theorem ObS.cur (h : ObS C B OB w0 n kd tg mi mk w) : Cur C w := by
 obtain ⟨r, cs, F, aJ, aK, vi, vk, G, h1, h2, h3, h4⟩ := h;exact h1.sb.cur
theorem ObS.lt (h : ObS C B OB w0 n kd tg mi mk w) : OB < w.heap.size := by
 obtain ⟨r, cs, F, aJ, aK, vi, vk, G, h1, h2, h3, h4⟩ := h;exact Zb h1.blk
/-- The object's cells. -/
theorem ObS.cells (h : ObS C B OB w0 n kd tg mi mk w) : ∃ Ai li ci Ak lk ck, li ≤ mi ∧ lk ≤ mk ∧ w.heap[OB]? = some (.cells #[.int .i64 kd, .int .i64 tg, .int .i64 0, .slice Ai li ci, .slice Ak lk ck] Zls (0, 0)) := by
 obtain ⟨r, cs, F, aJ, aK, vi, vk, G, h1, h2, h3, h4⟩ := h;obtain ⟨tag, vi', vk', e, -, -, -, hi, hk⟩ := h1.sp;simp only [List.cons.injEq, and_true, Value.int.injEq, true_and] at e;obtain ⟨rfl, rfl⟩ := e;obtain ⟨Ai, ci, rfl, _⟩ := id hi;obtain ⟨Ak, ck, rfl, _⟩ := id hk;exact ⟨Ai, _, ci, Ak, _, ck, h2.len, h3.len, h1.blk⟩
theorem Ob.start (h : Sb C B w0 w n r cs F) (hk : Zs kd) : Ob C B w.heap.size w0 (w.alloc (.cells #[.int .i64 kd, .int .i64 0, .int .i64 0, .slice none 0 0, .slice none 0 0] Zls)) n r cs F ⟨kd, 0, 0, [], []⟩ [.int .i64 kd, .int .i64 0, .int .i64 0, .slice none 0 0, .slice none 0 0] (fun _ => False) :=
 ⟨h.later ((Za.refl _).alloc _), heap_alloc_new _ _, ⟨fun _ => 0, _, _, rfl, hk, in0, in0, Zae.nil _ _ _ _ _, Zae.nil _ _ _ _ _⟩, fun _ hb => hb.elim, by have := h.lt; omega, fun hf => by have := (h.fF _ hf).2; omega, h.size⟩
theorem ObS.start (h : SbS C B w0 n w) (hk : Zs kd) : ObS C B w.heap.size w0 n kd 0 0 0 (w.alloc (.cells #[.int .i64 kd, .int .i64 0, .int .i64 0, .slice none 0 0, .slice none 0 0] Zls)) := by
 obtain ⟨r, cs, F, h1, h2⟩ := h;exact ⟨r, cs, F, _, _, _, _, _, Ob.start h1 hk, Zbo.nil _, Zbo.nil _, h2⟩
theorem ObS.setKind (h : ObS C B OB w0 n kd tg mi mk w) (z : Int) (hz : Zs z) : ObS C B OB w0 n z tg mi mk (w.setCell ⟨OB, 0, none⟩ (.int .i64 z)) := by
 obtain ⟨r, cs, F, aJ, aK, vi, vk, G, h1, h2, h3, h4⟩ := h;exact ⟨r, cs, F, aJ, aK, vi, vk, G, h1.setKind z hz, h2, h3, h4⟩
theorem ObS.setTag (h : ObS C B OB w0 n kd tg mi mk w) (z : Int) (hz : Zs z) : ObS C B OB w0 n kd z mi mk (w.setCell ⟨OB, 1, none⟩ (.int .i64 z)) := by
 obtain ⟨r, cs, F, aJ, aK, vi, vk, G, h1, h2, h3, h4⟩ := h;exact ⟨r, cs, F, aJ, aK, vi, vk, G, h1.setTag z hz, h2, h3, h4⟩
theorem ObS.lit (h : ObS C B OB w0 n kd tg mi mk w) {l : List Ze} {v2 : Value} (hl : Za w x) (hrow : Zae Zd 6 Za9 (fun y => w.heap.size ≤ y) x l v2) (hs : Zbo mi' l) : ObS C B OB w0 n kd tg mi' mk (x.setCell ⟨OB, 3, none⟩ v2) := by
 obtain ⟨r, cs, F, aJ, aK, vi, vk, G, h1, h2, h3, h4⟩ := h;obtain ⟨G', h5, -⟩ := h1.lit hl hrow;exact ⟨r, cs, F, _, _, _, _, G', h5, hs, h3, h4⟩
/-- An object whose aJ are counted. -/
def ObN (C B OB : Nat) (w0 : World) (n : Nat) (kd : Int) (li : Nat) (wr : World) : Prop :=
 ∃ r cs F aJ aK vi vk G, Ob C B OB w0 wr n r cs F ⟨kd, 0, 0, aJ, aK⟩ [.int .i64 kd, .int .i64 0, .int .i64 0, vi, vk] G ∧ aJ.length = li ∧ Zbo 41 aJ ∧ Zbo 40 aK ∧ Rs r
/-- The aJ of a pattern are added; the list of their kinds lies apart. -/
def ObL (C B OB LB : Nat) (w0 : World) (n : Nat) (tg : Int) (ks : List Int) (j : Nat) (wr : World) : Prop :=
 ∃ r cs F aJ aK vi vk G, Ob C B OB w0 wr (n + j) r cs F ⟨7, tg, 0, aJ, aK⟩ [.int .i64 7, .int .i64 tg, .int .i64 0, vi, vk] G ∧ Zbo (40 + j) aJ ∧ Zbo 40 aK ∧ Rs r ∧
  (ks = [] ∨ wr.heap[LB]? = some (.cells (ks.map (Value.int .i64)).toArray 3 (0, 0)) ∧ ¬ F LB ∧ ¬ G LB ∧ LB ≠ B ∧ LB ≠ OB ∧ LB ≠ C)
/-- The tag of an object of the Store is set. -/
theorem Zae.tagAt {F : Nat → Prop} {w : World} {l : List Z8} {v : Value} (h : Zae Za2 5 Zls F w l v) {j : Nat} (hj : j < l.length) {z : Int} (hz : Zs z) :
  ∃ b n c, v = .slice (some ⟨b, 0, none⟩) n c ∧ F b ∧ n = l.length ∧ n ≤ c ∧ (∃ u, w.cell? ⟨b, j * 5 + 1, none⟩ = some u) ∧ w.frozen? ⟨b, j * 5 + 1, none⟩ = false ∧ Zae Za2 5 Zls F (w.setCell ⟨b, j * 5 + 1, none⟩ (.int .i64 z)) (l.set j { l[j] with tag := z }) v := by
 obtain ⟨A, c, rfl, hc, hcm, hrow⟩ := h;obtain ⟨b, o, cur, tag, rfl, hb, hblk, ⟨rfl, hcs⟩, hel⟩ := hrow (by omega);have hu := hel j hj;obtain ⟨cs, hcs1, hcs2⟩ := hu;obtain ⟨tg, vi, vk, rfl, k0, k1, k2, hi, hk⟩ := hcs1;have h1 := hcs2 1 _ rfl;rw [Nat.zero_add] at h1;refine ⟨b, _, c, rfl, hb, rfl, hc, ⟨_, by rw [cell_of_row _ b _ _ _ _ hblk]; exact h1⟩, frozen_of_row _ b _ _ _ hblk, some ⟨b, 0, none⟩, c, by rw [List.length_set], by rw [List.length_set]; exact hc, hcm, fun _ => ⟨b, 0, cur.setIfInBounds (j * 5 + 1) (.int .i64 z), tag, rfl, hb, ?_, ⟨rfl, by rw [Array.size_setIfInBounds]; exact hcs⟩, fun i hil => ?_⟩⟩
 ·exact Zaj hblk _
 ·rw [List.length_set] at hil;have hK : ∀ P : Nat → Prop, (∀ y, P y → y ≠ b) → Zg P w (w.setCell ⟨b, j * 5 + 1, none⟩ (.int .i64 z)) := fun P hP => (Zg.refl _ _).set (fun h => hP b h rfl) _ _
  by_cases hij : i = j
  ·subst hij;refine ⟨[.int .i64 l[i].kind, .int .i64 z, .int .i64 l[i].aI, vi, vk], ?_, fun q x hx => ?_⟩
   ·rw [List.getElem_set_self];exact ⟨tg, vi, vk, rfl, k0, hz, k2, hi.keep Zj.is (fun _ h => h) (hK _ fun y hy => hy.1.1.2), hk.keep Zj.is (fun _ h => h) (hK _ fun y hy => hy.1.1.2)⟩
   ·rw [Array.getElem?_setIfInBounds]
    by_cases hq : q = 1
    ·subst hq;simp only [List.getElem?_cons_succ, List.getElem?_cons_zero, Option.some.injEq] at hx;subst hx;rw [if_pos (by omega), if_pos (by omega)]
    ·rw [if_neg (by omega)];refine hcs2 q x ?_
     rcases q with _ | _ | q
     ·exact hx
     ·exact absurd rfl hq
     ·exact hx
  ·obtain ⟨cs2, e1, e2⟩ := hel i hil;refine ⟨cs2, ?_, fun q x hx => ?_⟩
   ·rw [List.getElem_set_ne (Ne.symm hij)];exact Zr.is.keep e1 (fun _ h => h) (hK _ fun y hy => hy.1.2)
   ·have e3 := e2 q x hx;have hq := (List.getElem?_eq_some_iff.1 hx).1;rw [Zr.is.len e1] at hq;rw [Array.getElem?_setIfInBounds, if_neg (by omega)];exact e3
end
end Go.Proofs.YtpmhelkiicigfaaGreatDoor
namespace Go.Proofs.YtpmhelkiicigfaaGreatDoor
open Go.RowKit
/-- A short list of an item's kinds, in memory that was just made. -/
def Zrc (w : World) (e : Ending) (w' : World) : Prop := ∃ ks : List Int, ks.length ≤ 2 ∧ (∀ k ∈ ks, k = 1 ∨ k = 2 ∨ k = 3 ∨ k = 12 ∨ k = 13) ∧ ∃ A c, e = .returned (.slice A ks.length c) ∧ (ks = [] ∨ A = some ⟨w.heap.size, 0, none⟩ ∧ w'.heap[w.heap.size]? = some (.cells (ks.map (Value.int .i64)).toArray 3 (0, 0))) ∧ Za w w'
theorem Zby {w : World} {e : Ending} {w' : World} (ks : List Int) (h1 : ks.length ≤ 2) (h2 : ∀ k ∈ ks, k = 1 ∨ k = 2 ∨ k = 3 ∨ k = 12 ∨ k = 13) (h : e = .returned (.slice (some ⟨w.heap.size, 0, none⟩) ks.length ks.length) ∧ w' = w.alloc (.cells (ks.map (Value.int .i64)).toArray 3)) : Zrc w e w' := by
 obtain ⟨rfl, rfl⟩ := h;exact ⟨ks, h1, h2, _, _, rfl, .inr ⟨rfl, heap_alloc_new _ _⟩, (Za.refl _).alloc _⟩
theorem Zjd (op : Int) (w : World) : Calls Tryz.prog 135 #[.int .i64 op] w (Zrc w) := by
 by_cases h : op ≠ 1 ∧ op ≠ 2 ∧ op ≠ 3 ∧ op ≠ 4 ∧ op ≠ 5 ∧ op ≠ 6 ∧ op ≠ 7 ∧ op ≠ 8 ∧ op ≠ 9 ∧ op ≠ 10 ∧ op ≠ 13 ∧ op ≠ 14 ∧ op ≠ 15 ∧ op ≠ 16 ∧ op ≠ 17 ∧ op ≠ 18 ∧ op ≠ 20
 ·refine (Zgq op w h).mono ?_;rintro e w' ⟨rfl, rfl⟩;exact ⟨[], by simp, by simp, none, 0, rfl, .inl rfl, Za.refl _⟩
 ·rcases (show op = 1 ∨ op = 2 ∨ op = 3 ∨ op = 4 ∨ op = 5 ∨ op = 6 ∨ op = 7 ∨ op = 8 ∨ op = 9 ∨ op = 10 ∨ op = 13 ∨ op = 14 ∨ op = 15 ∨ op = 16 ∨ op = 17 ∨ op = 18 ∨ op = 20 by omega) with rfl | rfl | rfl | rfl | rfl | rfl | rfl | rfl | rfl | rfl | rfl | rfl | rfl | rfl | rfl | rfl | rfl
  ·exact (Zhg w).mono fun e w' h => Zby [2] (by decide) (by decide) h
  ·exact (Zhh w).mono fun e w' h => Zby [1] (by decide) (by decide) h
  ·exact (Zhi w).mono fun e w' h => Zby [1] (by decide) (by decide) h
  ·exact (Zhj w).mono fun e w' h => Zby [1] (by decide) (by decide) h
  ·exact (Zhk w).mono fun e w' h => Zby [1] (by decide) (by decide) h
  ·exact (Zhl w).mono fun e w' h => Zby [1] (by decide) (by decide) h
  ·exact (Zhm w).mono fun e w' h => Zby [3] (by decide) (by decide) h
  ·exact (Zhn w).mono fun e w' h => Zby [3] (by decide) (by decide) h
  ·exact (Zho w).mono fun e w' h => Zby [3] (by decide) (by decide) h
  ·exact (Zgi w).mono fun e w' h => Zby [3] (by decide) (by decide) h
  ·exact (Zgj w).mono fun e w' h => Zby [12] (by decide) (by decide) h
  ·exact (Zgk w).mono fun e w' h => Zby [12, 12] (by decide) (by decide) h
  ·exact (Zgl w).mono fun e w' h => Zby [12, 12] (by decide) (by decide) h
  ·exact (Zgm w).mono fun e w' h => Zby [12, 13] (by decide) (by decide) h
  ·exact (Zgn w).mono fun e w' h => Zby [12, 13] (by decide) (by decide) h
  ·exact (Zgo w).mono fun e w' h => Zby [13] (by decide) (by decide) h
  ·exact (Zgp w).mono fun e w' h => Zby [13] (by decide) (by decide) h
end Go.Proofs.YtpmhelkiicigfaaGreatDoor
namespace Go.Proofs.YtpmhelkiicigfaaGreatDoor
open Go.RowKit
set_option maxRecDepth 1000000
noncomputable def stOuter : Code := cR (cL (cR (cR (cR (cR (cR (Zjz Tryz.f86)))))))
noncomputable def stInner : Code := cR (cL (cR (cR (cR (cR (cB (cL (cR (cB (cB (cR (cL (cR (cR (cR (cR (cR (Zjz Tryz.f86))))))))))))))))))
noncomputable def stWay : Code := cR (cR (cB (cL (cR (cB (cB (cR (cL (cR (cR (cR (cR (cB (cL (cR (cB (cB (cR (cL (cR (cR (cR (cR (cR (Zjz Tryz.f86)))))))))))))))))))))))))
noncomputable def stSw : Code := cR (cL (cR (cR (cR (cR (cR (cB (cL (cR (cB (cB (cR (cL (cR (cR (cR (cR (cR (Zjz Tryz.f86)))))))))))))))))))
/-- What is Zb6 of l13Store's frame. -/
def FrS (C RB B : Nat) (v4 v5 v6 v7 v8 v9 v117 : Value) (a : Act) : Prop := Fr 228 [(0, .pointer (some ⟨C, 0, none⟩)), (2, .pointer (some ⟨RB, 0, none⟩)), (3, .pointer (some ⟨B, 0, none⟩)), (4, v4), (5, v5), (6, v6), (7, v7), (8, v8), (9, v9), (117, v117)] a
section
variable {C RB B : Nat} {v4 v5 v6 v7 v8 v9 v117 : Value} {a : Act}
theorem FrS.opn (h : FrS C RB B v4 v5 v6 v7 v8 v9 v117 a) : ∃ f : Nat → Value, a = ⟨#[.pointer (some ⟨C, 0, none⟩), f 1, .pointer (some ⟨RB, 0, none⟩), .pointer (some ⟨B, 0, none⟩), v4, v5, v6, v7, v8, v9, f 10, f 11, f 12, f 13, f 14, f 15, f 16, f 17, f 18, f 19, f 20, f 21, f 22, f 23, f 24, f 25, f 26, f 27, f 28, f 29, f 30, f 31, f 32, f 33, f 34, f 35, f 36, f 37, f 38, f 39, f 40, f 41, f 42, f 43, f 44, f 45, f 46, f 47, f 48, f 49, f 50, f 51, f 52, f 53, f 54, f 55, f 56, f 57, f 58, f 59, f 60, f 61, f 62, f 63, f 64, f 65, f 66, f 67, f 68, f 69, f 70, f 71, f 72, f 73, f 74, f 75, f 76, f 77, f 78, f 79, f 80, f 81, f 82, f 83, f 84, f 85, f 86, f 87, f 88, f 89, f 90, f 91, f 92, f 93, f 94, f 95, f 96, f 97, f 98, f 99, f 100, f 101, f 102, f 103, f 104, f 105, f 106, f 107, f 108, f 109, f 110, f 111, f 112, f 113, f 114, f 115, f 116, v117, f 118, f 119, f 120, f 121, f 122, f 123, f 124, f 125, f 126, f 127, f 128, f 129, f 130, f 131, f 132, f 133, f 134, f 135, f 136, f 137, f 138, f 139, f 140, f 141, f 142, f 143, f 144, f 145, f 146, f 147, f 148, f 149, f 150, f 151, f 152, f 153, f 154, f 155, f 156, f 157, f 158, f 159, f 160, f 161, f 162, f 163, f 164, f 165, f 166, f 167, f 168, f 169, f 170, f 171, f 172, f 173, f 174, f 175, f 176, f 177, f 178, f 179, f 180, f 181, f 182, f 183, f 184, f 185, f 186, f 187, f 188, f 189, f 190, f 191, f 192, f 193, f 194, f 195, f 196, f 197, f 198, f 199, f 200, f 201, f 202, f 203, f 204, f 205, f 206, f 207, f 208, f 209, f 210, f 211, f 212, f 213, f 214, f 215, f 216, f 217, f 218, f 219, f 220, f 221, f 222, f 223, f 224, f 225, f 226, f 227], []⟩ := by
 obtain ⟨f, e, hf⟩ := Fr.lit h;obtain ⟨h0, h2, h3, h4, h5, h6, h7, h8, h9, h117, -⟩ := h.has;refine ⟨f, e.trans ?_⟩;have k0 := Zb6 h0 (hf 0 (by omega));have k2 := Zb6 h2 (hf 2 (by omega));have k3 := Zb6 h3 (hf 3 (by omega));have k4 := Zb6 h4 (hf 4 (by omega));have k5 := Zb6 h5 (hf 5 (by omega));have k6 := Zb6 h6 (hf 6 (by omega));have k7 := Zb6 h7 (hf 7 (by omega));have k8 := Zb6 h8 (hf 8 (by omega));have k9 := Zb6 h9 (hf 9 (by omega));have k117 := Zb6 h117 (hf 117 (by omega));rw [← k0];rw [← k2];rw [← k3];rw [← k4];rw [← k5];rw [← k6];rw [← k7];rw [← k8];rw [← k9];rw [← k117]
 rfl
theorem FrS.mk' {A : Array Value} (hs : A.size = 228) (h0 : A[0]? = some (.pointer (some ⟨C, 0, none⟩))) (h2 : A[2]? = some (.pointer (some ⟨RB, 0, none⟩))) (h3 : A[3]? = some (.pointer (some ⟨B, 0, none⟩))) (h4 : A[4]? = some (v4)) (h5 : A[5]? = some (v5)) (h6 : A[6]? = some (v6)) (h7 : A[7]? = some (v7)) (h8 : A[8]? = some (v8)) (h9 : A[9]? = some (v9)) (h117 : A[117]? = some (v117)) : FrS C RB B v4 v5 v6 v7 v8 v9 v117 ⟨A, []⟩ := ⟨hs, rfl, h0, h2, h3, h4, h5, h6, h7, h8, h9, h117, trivial⟩
end
/-- An object under way. -/
def Zlt (C RB B OB : Nat) (v4 v5 v7 v8 : Value) (w1 : World) (n : Nat) (kd tg : Int) (mi mk : Nat) (a : Act) (w : World) : Prop :=
 ∃ v9 v117, FrS C RB B v4 v5 (.pointer (some ⟨OB, 0, none⟩)) v7 v8 v9 v117 a ∧ ObS C B OB w1 n kd tg mi mk w
/-- An object that is made. -/
def Zje (C RB B OB : Nat) (v4 v5 : Value) (w1 : World) (n : Nat) (a : Act) (w : World) : Prop :=
 ∃ (kd tg : Int) (v7 v8 v9 v117 : Value), ((kd = 1 ∨ kd = 8 ∨ kd = 9) ∧ tg = 0 ∨ 2 ≤ kd ∧ kd ≤ 7) ∧ FrS C RB B v4 v5 (.pointer (some ⟨OB, 0, none⟩)) v7 v8 v9 v117 a ∧ ObS C B OB w1 n kd tg 42 42 w
/-- A Store under way. -/
def Ztz (C RB B : Nat) (v4 : Value) (w1 : World) (n : Nat) (a : Act) (w : World) : Prop :=
 ∃ v5 v6 v7 v8 v9 v117, FrS C RB B v4 v5 v6 v7 v8 v9 v117 a ∧ SbS C B w1 n w
end Go.Proofs.YtpmhelkiicigfaaGreatDoor
namespace Go.Proofs.YtpmhelkiicigfaaGreatDoor
open Go.RowKit
set_option maxRecDepth 1000000
set_option maxHeartbeats 8000000
theorem Ztm  {a : Act} {w : World} (C RB B OB VB : Nat) (v4 v5 v7 v117 : Value) (w1 : World) (n j : Nat) (hj : j ≤ 40) (v : Ze) (HV : Hd (vOk v)) (HX : Hd (w.heap[VB]? = some (.cells #[.int .i64 v.kind, .int .i64 v.aH, .int .i64 v.index, .string v.text, .int .i64 v.set_.low, .int .i64 v.set_.high] Za9 (0, 0))))(hf : FrS C RB B v4 v5 (.pointer (some ⟨OB, 0, none⟩)) v7 (.int .i64 j) (.pointer (some ⟨VB, 0, none⟩)) v117 a) (HO : Hd (ObS C B OB w1 n 1 0 j j w)) :
  stWay.wp Tryz.prog (Zd2 (Zlt C RB B OB v4 v5 v7 (.int .i64 j) w1 n 1 0 (j + 1) (j + 1))) a w := by
 obtain ⟨iV, hiV, hzV0, hzV1, hzV2⟩ := info_parts Zb9;obtain ⟨f, rfl⟩ := hf.opn;clear hf
 conv => arg 2; whnf
 obtain ⟨r, cs, F, aJ, aK, vi, vk, G, h1, h2, h3, h4⟩ := HO.o;obtain ⟨tag, vi', vk', e, i0, i1, i2, hi, hk⟩ := id h1.sp;simp only [List.cons.injEq, and_true, Value.int.injEq, true_and] at e;obtain ⟨rfl, rfl⟩ := e;obtain ⟨Ai, ci, rfl, hci, hcim, -⟩ := id hi;obtain ⟨Ak, ck, rfl, hck, hckm, -⟩ := id hk;have hli : aJ.length ≤ j := h2.len;have hlk : aK.length ≤ j := h3.len;have HOB := zh h1;have HI : Hd (Zae Zd 6 Za9 (fun y => G y ∧ tag y = 0) _ aJ (.slice Ai aJ.length ci)) := zh hi;have HK : Hd (Zae Zd 6 Za9 (fun y => G y ∧ tag y = 1) _ aK (.slice Ak aK.length ck)) := zh hk;have HSI := zh h2;have HSK := zh h3;have HSR := zh h4;have H64 := zh (And.intro i0 (And.intro i1 i2));clear h1 h2 h3 h4 hi hk i0 i1 i2 HO;unfold maxLen at hcim hckm;have HGO := zh (show ¬ G OB from fun hg => (HOB.o.fG OB hg).2.2.2.2 rfl);have HXO := zh HOB.o.blk;have o0 := cz5 HXO.o;have fo3 := fz HXO.o;have p0 := cz6 HX.o
 by_cases hl24 : aJ.length < 24
 ·have t6 : decide ((aJ.length : Int) < 24) = true := decide_eq_true (by omega);have hlx : Za w (w.alloc (.cells [.int .i64 v.kind, .int .i64 v.aH, .int .i64 v.index, .string v.text, .int .i64 v.set_.low, .int .i64 v.set_.high].toArray Za9)) := (Za.refl _).alloc _;have HXR := zh (HI.o.keep Zj.is (fun _ h => h) (Zg.later hlx));have HXOB := zh ((hlx.block _ (Zb HOB.o.blk)).trans HOB.o.blk);have HLX := zh hlx;clear hlx
  go_upto_region 16 with (at_builtin; refine Zan Zj rfl _ _ 27 rfl Za9 iV (.agg #[.int .i64 0, .int .i64 0, .int .i64 0, .string ⟨#[]⟩, .int .i64 0, .int .i64 0]) 56 Tryz.underlying27 hiV hzV0 hzV1 hzV2 rfl rfl HXR.o ⟨w.heap.size, 0, none⟩ 1 rfl v [.int .i64 v.kind, .int .i64 v.aH, .int .i64 v.index, .string v.text, .int .i64 v.set_.low, .int .i64 v.set_.high] (Zcl w [.int .i64 v.kind, .int .i64 v.aH, .int .i64 v.index, .string v.text, .int .i64 v.set_.low, .int .i64 v.set_.high] Za9) (by intro u hu; simp at hu; rcases hu with rfl | rfl | rfl | rfl | rfl | rfl <;> rfl) (HV.o.el (fun _ => False) _) (fun y hg hf => hg.elim) (by omega) (by decide) ?_; intro v2 Y hrow hkp hb0; have hYB := (hkp.same OB (fun h => HGO.o h.1) (Zb HXOB.o)).trans HXOB.o; have y0 := cell_of_row _ OB 0 _ _ _ hYB; have y3 := cell_of_row _ OB 3 _ _ _ hYB; simp only [nD, nE, nF] at y0 y3; have yf := frozen_of_row _ OB 3 _ _ hYB; obtain ⟨A2, c2, rfl, -, -, -⟩ := id hrow)
  obtain ⟨G', hob2, -⟩ := HOB.o.item HLX.o ⟨rfl, rfl, rfl, H64.o.1, H64.o.2.1, H64.o.2.2⟩ HK.o hrow hkp hb0;simp only [List.length_append, List.length_cons, List.length_nil, Nat.zero_add] at hob2;have HFIN := zh (show ObS C B OB w1 n 1 0 (j + 1) (j + 1) _ from ⟨r, cs, F, _, _, _, _, G', hob2, HSI.o.push HV.o, HSK.o.mono (by omega), HSR.o⟩);clear hrow hkp hb0 hob2 hYB;go_wp2_with fail;exact ⟨_, _, FrS.mk' rfl rfl rfl rfl rfl rfl rfl rfl rfl rfl rfl, HFIN.o⟩
 ·have t6 : decide ((aJ.length : Int) < 24) = false := decide_eq_false (by omega);have HFIN := zh (show ObS C B OB w1 n 1 0 (j + 1) (j + 1) w from ⟨r, cs, F, aJ, aK, _, _, G, HOB.o, HSI.o.mono (by omega), HSK.o.mono (by omega), HSR.o⟩);go_wp2_with fail;exact ⟨_, _, FrS.mk' rfl rfl rfl rfl rfl rfl rfl rfl rfl rfl rfl, HFIN.o⟩
theorem Ztn  {a : Act} {w : World} (C RB B OB VB : Nat) (v4 v5 v7 v117 : Value) (w1 : World) (n j : Nat) (hj : j ≤ 40) (v : Ze) (HV : Hd (vOk v)) (HX : Hd (w.heap[VB]? = some (.cells #[.int .i64 v.kind, .int .i64 v.aH, .int .i64 v.index, .string v.text, .int .i64 v.set_.low, .int .i64 v.set_.high] Za9 (0, 0))))(hf : FrS C RB B v4 v5 (.pointer (some ⟨OB, 0, none⟩)) v7 (.int .i64 j) (.pointer (some ⟨VB, 0, none⟩)) v117 a) (HO : Hd (ObS C B OB w1 n 2 0 j j w)) :
  stWay.wp Tryz.prog (Zd2 (Zlt C RB B OB v4 v5 v7 (.int .i64 j) w1 n 2 0 (j + 1) (j + 1))) a w := by
 obtain ⟨iV, hiV, hzV0, hzV1, hzV2⟩ := info_parts Zb9;obtain ⟨f, rfl⟩ := hf.opn;clear hf
 conv => arg 2; whnf
 obtain ⟨r, cs, F, aJ, aK, vi, vk, G, h1, h2, h3, h4⟩ := HO.o;obtain ⟨tag, vi', vk', e, i0, i1, i2, hi, hk⟩ := id h1.sp;simp only [List.cons.injEq, and_true, Value.int.injEq, true_and] at e;obtain ⟨rfl, rfl⟩ := e;obtain ⟨Ai, ci, rfl, hci, hcim, -⟩ := id hi;obtain ⟨Ak, ck, rfl, hck, hckm, -⟩ := id hk;have hli : aJ.length ≤ j := h2.len;have hlk : aK.length ≤ j := h3.len;have HOB := zh h1;have HI : Hd (Zae Zd 6 Za9 (fun y => G y ∧ tag y = 0) _ aJ (.slice Ai aJ.length ci)) := zh hi;have HK : Hd (Zae Zd 6 Za9 (fun y => G y ∧ tag y = 1) _ aK (.slice Ak aK.length ck)) := zh hk;have HSI := zh h2;have HSK := zh h3;have HSR := zh h4;have H64 := zh (And.intro i0 (And.intro i1 i2));clear h1 h2 h3 h4 hi hk i0 i1 i2 HO;unfold maxLen at hcim hckm;have HGO := zh (show ¬ G OB from fun hg => (HOB.o.fG OB hg).2.2.2.2 rfl);have HXO := zh HOB.o.blk;have o0 := cz5 HXO.o;have fo3 := fz HXO.o;have p0 := cz6 HX.o;have hlx : Za w (w.alloc (.cells [.int .i64 v.kind, .int .i64 v.aH, .int .i64 v.index, .string v.text, .int .i64 v.set_.low, .int .i64 v.set_.high].toArray Za9)) := (Za.refl _).alloc _;have HXR := zh (HI.o.keep Zj.is (fun _ h => h) (Zg.later hlx));have HXOB := zh ((hlx.block _ (Zb HOB.o.blk)).trans HOB.o.blk);have HLX := zh hlx;clear hlx
 go_upto_region 16 with (at_builtin; refine Zan Zj rfl _ _ 27 rfl Za9 iV (.agg #[.int .i64 0, .int .i64 0, .int .i64 0, .string ⟨#[]⟩, .int .i64 0, .int .i64 0]) 56 Tryz.underlying27 hiV hzV0 hzV1 hzV2 rfl rfl HXR.o ⟨w.heap.size, 0, none⟩ 1 rfl v [.int .i64 v.kind, .int .i64 v.aH, .int .i64 v.index, .string v.text, .int .i64 v.set_.low, .int .i64 v.set_.high] (Zcl w [.int .i64 v.kind, .int .i64 v.aH, .int .i64 v.index, .string v.text, .int .i64 v.set_.low, .int .i64 v.set_.high] Za9) (by intro u hu; simp at hu; rcases hu with rfl | rfl | rfl | rfl | rfl | rfl <;> rfl) (HV.o.el (fun _ => False) _) (fun y hg hf => hg.elim) (by omega) (by decide) ?_; intro v2 Y hrow hkp hb0; have hYB := (hkp.same OB (fun h => HGO.o h.1) (Zb HXOB.o)).trans HXOB.o; have y0 := cell_of_row _ OB 0 _ _ _ hYB; have y3 := cell_of_row _ OB 3 _ _ _ hYB; simp only [nD, nE, nF] at y0 y3; have yf := frozen_of_row _ OB 3 _ _ hYB; obtain ⟨A2, c2, rfl, -, -, -⟩ := id hrow)
 obtain ⟨G', hob2, -⟩ := HOB.o.item HLX.o ⟨rfl, rfl, rfl, H64.o.1, H64.o.2.1, H64.o.2.2⟩ HK.o hrow hkp hb0;simp only [List.length_append, List.length_cons, List.length_nil, Nat.zero_add] at hob2;have HFIN := zh (show ObS C B OB w1 n 2 0 (j + 1) (j + 1) _ from ⟨r, cs, F, _, _, _, _, G', hob2, HSI.o.push HV.o, HSK.o.mono (by omega), HSR.o⟩);clear hrow hkp hb0 hob2 hYB;go_wp2_with fail;exact ⟨_, _, FrS.mk' rfl rfl rfl rfl rfl rfl rfl rfl rfl rfl rfl, HFIN.o⟩
theorem Zrd {kd : Int} (q1 : (kd == 1) = false) (q2 : (kd == 2) = false) (q3 : (kd == 3) = false) (q4 : (kd == 4) = false)  {a : Act} {w : World} (C RB B OB VB : Nat) (v4 v5 v7 v117 : Value) (w1 : World) (n j : Nat) (hj : j ≤ 40) (v : Ze) (HV : Hd (vOk v)) (HX : Hd (w.heap[VB]? = some (.cells #[.int .i64 v.kind, .int .i64 v.aH, .int .i64 v.index, .string v.text, .int .i64 v.set_.low, .int .i64 v.set_.high] Za9 (0, 0))))(hf : FrS C RB B v4 v5 (.pointer (some ⟨OB, 0, none⟩)) v7 (.int .i64 j) (.pointer (some ⟨VB, 0, none⟩)) v117 a) (HO : Hd (ObS C B OB w1 n kd 0 j j w)) :
  stWay.wp Tryz.prog (Zd2 (Zlt C RB B OB v4 v5 v7 (.int .i64 j) w1 n kd 0 (j + 1) (j + 1))) a w := by
 obtain ⟨iV, hiV, hzV0, hzV1, hzV2⟩ := info_parts Zb9;obtain ⟨f, rfl⟩ := hf.opn;clear hf
 conv => arg 2; whnf
 obtain ⟨r, cs, F, aJ, aK, vi, vk, G, h1, h2, h3, h4⟩ := HO.o;obtain ⟨tag, vi', vk', e, i0, i1, i2, hi, hk⟩ := id h1.sp;simp only [List.cons.injEq, and_true, Value.int.injEq, true_and] at e;obtain ⟨rfl, rfl⟩ := e;obtain ⟨Ai, ci, rfl, hci, hcim, -⟩ := id hi;obtain ⟨Ak, ck, rfl, hck, hckm, -⟩ := id hk;have hli : aJ.length ≤ j := h2.len;have hlk : aK.length ≤ j := h3.len;have HOB := zh h1;have HI : Hd (Zae Zd 6 Za9 (fun y => G y ∧ tag y = 0) _ aJ (.slice Ai aJ.length ci)) := zh hi;have HK : Hd (Zae Zd 6 Za9 (fun y => G y ∧ tag y = 1) _ aK (.slice Ak aK.length ck)) := zh hk;have HSI := zh h2;have HSK := zh h3;have HSR := zh h4;have H64 := zh (And.intro i0 (And.intro i1 i2));clear h1 h2 h3 h4 hi hk i0 i1 i2 HO;unfold maxLen at hcim hckm;have HGO := zh (show ¬ G OB from fun hg => (HOB.o.fG OB hg).2.2.2.2 rfl);have HXO := zh HOB.o.blk;have o0 := cz5 HXO.o;have fo3 := fz HXO.o;have p0 := cz6 HX.o;have HFIN := zh (show ObS C B OB w1 n kd 0 (j + 1) (j + 1) w from ⟨r, cs, F, aJ, aK, _, _, G, HOB.o, HSI.o.mono (by omega), HSK.o.mono (by omega), HSR.o⟩);go_wp2_with fail;exact ⟨_, _, FrS.mk' rfl rfl rfl rfl rfl rfl rfl rfl rfl rfl rfl, HFIN.o⟩
set_option maxRecDepth 1000000
set_option maxHeartbeats 8000000
theorem Zto  {a : Act} {w : World} (C RB B OB VB : Nat) (v4 v5 v7 v117 : Value) (w1 : World) (n j : Nat) (hj : j ≤ 40) (v : Ze) (HV : Hd (vOk v)) (HX : Hd (w.heap[VB]? = some (.cells #[.int .i64 v.kind, .int .i64 v.aH, .int .i64 v.index, .string v.text, .int .i64 v.set_.low, .int .i64 v.set_.high] Za9 (0, 0))))(hf : FrS C RB B v4 v5 (.pointer (some ⟨OB, 0, none⟩)) v7 (.int .i64 j) (.pointer (some ⟨VB, 0, none⟩)) v117 a) (HO : Hd (ObS C B OB w1 n 3 0 j j w)) :
  stWay.wp Tryz.prog (Zd2 (Zlt C RB B OB v4 v5 v7 (.int .i64 j) w1 n 3 0 (j + 1) (j + 1))) a w := by
 obtain ⟨iV, hiV, hzV0, hzV1, hzV2⟩ := info_parts Zb9;obtain ⟨f, rfl⟩ := hf.opn;clear hf
 conv => arg 2; whnf
 obtain ⟨r, cs, F, aJ, aK, vi, vk, G, h1, h2, h3, h4⟩ := HO.o;obtain ⟨tag, vi', vk', e, i0, i1, i2, hi, hk⟩ := id h1.sp;simp only [List.cons.injEq, and_true, Value.int.injEq, true_and] at e;obtain ⟨rfl, rfl⟩ := e;obtain ⟨Ai, ci, rfl, hci, hcim, -⟩ := id hi;obtain ⟨Ak, ck, rfl, hck, hckm, -⟩ := id hk;have hli : aJ.length ≤ j := h2.len;have hlk : aK.length ≤ j := h3.len;have HOB := zh h1;have HI : Hd (Zae Zd 6 Za9 (fun y => G y ∧ tag y = 0) _ aJ (.slice Ai aJ.length ci)) := zh hi;have HK : Hd (Zae Zd 6 Za9 (fun y => G y ∧ tag y = 1) _ aK (.slice Ak aK.length ck)) := zh hk;have HSI := zh h2;have HSK := zh h3;have HSR := zh h4;have H64 := zh (And.intro i0 (And.intro i1 i2));clear h1 h2 h3 h4 hi hk i0 i1 i2 HO;unfold maxLen at hcim hckm;have HGO := zh (show ¬ G OB from fun hg => (HOB.o.fG OB hg).2.2.2.2 rfl);have HXO := zh HOB.o.blk;have o0 := cz5 HXO.o;have fo3 := fz HXO.o;have p0 := cz6 HX.o;go_wp2_with fail;refine (Zis aK 3 0 0 (.slice Ai aJ.length ci) (.slice Ak aK.length ck) v _ w (HK.o.el Zj)).mono ?_;rintro e u5 ⟨rfl, hl5⟩;have HOB5 := zh (HOB.o.later hl5);have HI5 := zh (HI.o.later Zj.is hl5);have HK5 := zh (HK.o.later Zj.is hl5);replace HX := zC hl5 HX;clear hl5 HXO o0 fo3 p0;have HXO := zh HOB5.o.blk;have o0 := cz5 HXO.o;have fo3 := fz HXO.o;have p0 := cz6 HX.o;obtain ⟨ff, hff⟩ : ∃ f, Zd7 aK v = f := ⟨_, rfl⟩
 rw [hff];clear hff
 by_cases hf0 : ff < 0
 ·have t6 : decide (ff < 0) = true := decide_eq_true hf0;have hlx : Za u5 (u5.alloc (.cells [.int .i64 v.kind, .int .i64 v.aH, .int .i64 v.index, .string v.text, .int .i64 v.set_.low, .int .i64 v.set_.high].toArray Za9)) := (Za.refl _).alloc _;have HXR := zh (HK5.o.keep Zj.is (fun _ h => h) (Zg.later hlx));have HXOB := zh ((hlx.block _ (Zb HOB5.o.blk)).trans HOB5.o.blk);have HLX := zh hlx;clear hlx
  go_upto_region 22 with (at_builtin; refine Zan Zj rfl _ _ 27 rfl Za9 iV (.agg #[.int .i64 0, .int .i64 0, .int .i64 0, .string ⟨#[]⟩, .int .i64 0, .int .i64 0]) 56 Tryz.underlying27 hiV hzV0 hzV1 hzV2 rfl rfl HXR.o ⟨u5.heap.size, 0, none⟩ 1 rfl v [.int .i64 v.kind, .int .i64 v.aH, .int .i64 v.index, .string v.text, .int .i64 v.set_.low, .int .i64 v.set_.high] (Zcl u5 [.int .i64 v.kind, .int .i64 v.aH, .int .i64 v.index, .string v.text, .int .i64 v.set_.low, .int .i64 v.set_.high] Za9) (by intro u hu; simp at hu; rcases hu with rfl | rfl | rfl | rfl | rfl | rfl <;> rfl) (HV.o.el (fun _ => False) _) (fun y hg hf => hg.elim) (by omega) (by decide) ?_; intro v2 Y hrow hkp hb0; have hYB := (hkp.same OB (fun h => HGO.o h.1) (Zb HXOB.o)).trans HXOB.o; have y0 := cell_of_row _ OB 0 _ _ _ hYB; have y4 := cell_of_row _ OB 4 _ _ _ hYB; simp only [nD, nE, nF] at y0 y4; have yf := frozen_of_row _ OB 4 _ _ hYB; obtain ⟨A2, c2, rfl, -, -, -⟩ := id hrow)
  obtain ⟨G', hob2, -⟩ := HOB5.o.key HLX.o ⟨rfl, rfl, rfl, H64.o.1, H64.o.2.1, H64.o.2.2⟩ HI5.o hrow hkp hb0;simp only [List.length_append, List.length_cons, List.length_nil, Nat.zero_add] at hob2;have HFIN := zh (show ObS C B OB w1 n 3 0 (j + 1) (j + 1) _ from ⟨r, cs, F, _, _, _, _, G', hob2, HSI.o.mono (by omega), HSK.o.push HV.o, HSR.o⟩);clear hrow hkp hb0 hob2 hYB;go_wp2_with fail;exact ⟨_, _, FrS.mk' rfl rfl rfl rfl rfl rfl rfl rfl rfl rfl rfl, HFIN.o⟩
 ·have t6 : decide (ff < 0) = false := decide_eq_false hf0;have HFIN := zh (show ObS C B OB w1 n 3 0 (j + 1) (j + 1) u5 from ⟨r, cs, F, aJ, aK, _, _, G, HOB5.o, HSI.o.mono (by omega), HSK.o.mono (by omega), HSR.o⟩);go_wp2_with fail;exact ⟨_, _, FrS.mk' rfl rfl rfl rfl rfl rfl rfl rfl rfl rfl rfl, HFIN.o⟩
set_option maxRecDepth 1000000
set_option maxHeartbeats 8000000
theorem Ztp  {a : Act} {w : World} (C RB B OB VB : Nat) (v4 v5 v7 v117 : Value) (w1 : World) (n j : Nat) (hj : j ≤ 40) (v : Ze) (HV : Hd (vOk v)) (HX : Hd (w.heap[VB]? = some (.cells #[.int .i64 v.kind, .int .i64 v.aH, .int .i64 v.index, .string v.text, .int .i64 v.set_.low, .int .i64 v.set_.high] Za9 (0, 0))))(hf : FrS C RB B v4 v5 (.pointer (some ⟨OB, 0, none⟩)) v7 (.int .i64 j) (.pointer (some ⟨VB, 0, none⟩)) v117 a) (HO : Hd (ObS C B OB w1 n 4 0 j j w)) :
  stWay.wp Tryz.prog (Zd2 (Zlt C RB B OB v4 v5 v7 (.int .i64 j) w1 n 4 0 (j + 1) (j + 1))) a w := by
 obtain ⟨iV, hiV, hzV0, hzV1, hzV2⟩ := info_parts Zb9;obtain ⟨f, rfl⟩ := hf.opn;clear hf
 conv => arg 2; whnf
 obtain ⟨r, cs, F, aJ, aK, vi, vk, G, h1, h2, h3, h4⟩ := HO.o;obtain ⟨tag, vi', vk', e, i0, i1, i2, hi, hk⟩ := id h1.sp;simp only [List.cons.injEq, and_true, Value.int.injEq, true_and] at e;obtain ⟨rfl, rfl⟩ := e;obtain ⟨Ai, ci, rfl, hci, hcim, -⟩ := id hi;obtain ⟨Ak, ck, rfl, hck, hckm, -⟩ := id hk;have hli : aJ.length ≤ j := h2.len;have hlk : aK.length ≤ j := h3.len;have HOB := zh h1;have HI : Hd (Zae Zd 6 Za9 (fun y => G y ∧ tag y = 0) _ aJ (.slice Ai aJ.length ci)) := zh hi;have HK : Hd (Zae Zd 6 Za9 (fun y => G y ∧ tag y = 1) _ aK (.slice Ak aK.length ck)) := zh hk;have HSI := zh h2;have HSK := zh h3;have HSR := zh h4;have H64 := zh (And.intro i0 (And.intro i1 i2));clear h1 h2 h3 h4 hi hk i0 i1 i2 HO;unfold maxLen at hcim hckm;have HGO := zh (show ¬ G OB from fun hg => (HOB.o.fG OB hg).2.2.2.2 rfl);have HXO := zh HOB.o.blk;have o0 := cz5 HXO.o;have fo3 := fz HXO.o;have p0 := cz6 HX.o;go_wp2_with fail;refine (Zis aK 4 0 0 (.slice Ai aJ.length ci) (.slice Ak aK.length ck) v _ w (HK.o.el Zj)).mono ?_;rintro e u5 ⟨rfl, hl5⟩;have HOB5 := zh (HOB.o.later hl5);have HI5 := zh (HI.o.later Zj.is hl5);have HK5 := zh (HK.o.later Zj.is hl5);replace HX := zC hl5 HX;clear hl5 HXO o0 fo3 p0;have HXO := zh HOB5.o.blk;have o0 := cz5 HXO.o;have fo3 := fz HXO.o;have p0 := cz6 HX.o;obtain ⟨ff, hff⟩ : ∃ f, Zd7 aK v = f := ⟨_, rfl⟩
 rw [hff];clear hff
 by_cases hf0 : ff < 0
 ·have t6 : decide (ff < 0) = true := decide_eq_true hf0;have hlx : Za u5 (u5.alloc (.cells [.int .i64 v.kind, .int .i64 v.aH, .int .i64 v.index, .string v.text, .int .i64 v.set_.low, .int .i64 v.set_.high].toArray Za9)) := (Za.refl _).alloc _;have HXR := zh (HK5.o.keep Zj.is (fun _ h => h) (Zg.later hlx));have HXOB := zh ((hlx.block _ (Zb HOB5.o.blk)).trans HOB5.o.blk);have HLX := zh hlx;clear hlx
  go_upto_region 22 with (at_builtin; refine Zan Zj rfl _ _ 27 rfl Za9 iV (.agg #[.int .i64 0, .int .i64 0, .int .i64 0, .string ⟨#[]⟩, .int .i64 0, .int .i64 0]) 56 Tryz.underlying27 hiV hzV0 hzV1 hzV2 rfl rfl HXR.o ⟨u5.heap.size, 0, none⟩ 1 rfl v [.int .i64 v.kind, .int .i64 v.aH, .int .i64 v.index, .string v.text, .int .i64 v.set_.low, .int .i64 v.set_.high] (Zcl u5 [.int .i64 v.kind, .int .i64 v.aH, .int .i64 v.index, .string v.text, .int .i64 v.set_.low, .int .i64 v.set_.high] Za9) (by intro u hu; simp at hu; rcases hu with rfl | rfl | rfl | rfl | rfl | rfl <;> rfl) (HV.o.el (fun _ => False) _) (fun y hg hf => hg.elim) (by omega) (by decide) ?_; intro v2 Y hrow hkp hb0; have hYB := (hkp.same OB (fun h => HGO.o h.1) (Zb HXOB.o)).trans HXOB.o; have y0 := cell_of_row _ OB 0 _ _ _ hYB; have y4 := cell_of_row _ OB 4 _ _ _ hYB; simp only [nD, nE, nF] at y0 y4; have yf := frozen_of_row _ OB 4 _ _ hYB; obtain ⟨A2, c2, rfl, -, -, -⟩ := id hrow)
  obtain ⟨G', hob2, -⟩ := HOB5.o.key HLX.o ⟨rfl, rfl, rfl, H64.o.1, H64.o.2.1, H64.o.2.2⟩ HI5.o hrow hkp hb0;simp only [List.length_append, List.length_cons, List.length_nil, Nat.zero_add] at hob2;have HFIN := zh (show ObS C B OB w1 n 4 0 (j + 1) (j + 1) _ from ⟨r, cs, F, _, _, _, _, G', hob2, HSI.o.mono (by omega), HSK.o.push HV.o, HSR.o⟩);clear hrow hkp hb0 hob2 hYB;go_wp2_with fail;exact ⟨_, _, FrS.mk' rfl rfl rfl rfl rfl rfl rfl rfl rfl rfl rfl, HFIN.o⟩
 ·have t6 : decide (ff < 0) = false := decide_eq_false hf0;have HFIN := zh (show ObS C B OB w1 n 4 0 (j + 1) (j + 1) u5 from ⟨r, cs, F, aJ, aK, _, _, G, HOB5.o, HSI.o.mono (by omega), HSK.o.mono (by omega), HSR.o⟩);go_wp2_with fail;exact ⟨_, _, FrS.mk' rfl rfl rfl rfl rfl rfl rfl rfl rfl rfl rfl, HFIN.o⟩
set_option maxRecDepth 1000000
set_option maxHeartbeats 8000000
theorem Zr9 {kd : Int} (h1 : 1 ≤ kd) {a : Act} {w : World} (C RB B OB VB : Nat) (v4 v5 v7 v117 : Value) (w1 : World) (n j : Nat) (hj : j ≤ 40) (v : Ze) (HV : Hd (vOk v)) (HX : Hd (w.heap[VB]? = some (.cells #[.int .i64 v.kind, .int .i64 v.aH, .int .i64 v.index, .string v.text, .int .i64 v.set_.low, .int .i64 v.set_.high] Za9 (0, 0)))) (hf : FrS C RB B v4 v5 (.pointer (some ⟨OB, 0, none⟩)) v7 (.int .i64 j) (.pointer (some ⟨VB, 0, none⟩)) v117 a) (HO : Hd (ObS C B OB w1 n kd 0 j j w)) :
  stWay.wp Tryz.prog (Zd2 (Zlt C RB B OB v4 v5 v7 (.int .i64 j) w1 n kd 0 (j + 1) (j + 1))) a w := by
 by_cases q1 : kd = 1
 ·subst q1;exact Ztm C RB B OB VB v4 v5 v7 v117 w1 n j hj v HV HX hf HO
 by_cases q2 : kd = 2
 ·subst q2;exact Ztn C RB B OB VB v4 v5 v7 v117 w1 n j hj v HV HX hf HO
 by_cases q3 : kd = 3
 ·subst q3;exact Zto C RB B OB VB v4 v5 v7 v117 w1 n j hj v HV HX hf HO
 by_cases q4 : kd = 4
 ·subst q4;exact Ztp C RB B OB VB v4 v5 v7 v117 w1 n j hj v HV HX hf HO
 exact Zrd (nH.2 q1) (nH.2 q2) (nH.2 q3) (nH.2 q4) C RB B OB VB v4 v5 v7 v117 w1 n j hj v HV HX hf HO
theorem Zo5 {a : Act} {w : World} (C RB B OB : Nat) (v4 v5 v9 v117 : Value) (w1 : World) (n k : Nat) (hk : k ≤ 40) (kd : Int) (h1 : 1 ≤ kd) (hn : n ≤ 100) (hf : FrS C RB B v4 v5 (.pointer (some ⟨OB, 0, none⟩)) (.int .i64 k) (.int .i64 0) v9 v117 a) (HO : Hd (ObS C B OB w1 n kd 0 0 0 w)) :
  stInner.wp Tryz.prog (Zd2 (Zlt C RB B OB v4 v5 (.int .i64 k) (.int .i64 k) w1 n kd 0 k k)) a w := by
 obtain ⟨f, rfl⟩ := hf.opn;clear hf
 conv => arg 2; whnf
 go_wp2_with fail;refine wp_loop_ghost_k (fun g a w => ∃ j : Nat, g + j = k ∧ Zlt C RB B OB v4 v5 (.int .i64 k) (.int .i64 j) w1 n kd 0 j j a w) k ⟨0, by omega, _, _, FrS.mk' rfl rfl rfl rfl rfl rfl rfl rfl rfl rfl rfl, HO.o⟩ ?_;clear HO v9 v117 f;rintro gk a wr ⟨j, hg, v9, v117, hf, ho⟩ J K hJ hK;have HO := zh ho;obtain ⟨f, rfl⟩ := hf.opn;clear ho hf
 by_cases hlj : j < k
 ·have t4 : decide ((j : Int) < k) = true := decide_eq_true (by omega);obtain ⟨r, cs, F, _, _, _, _, _, hb, -, -, -⟩ := HO.o;have HSB := zh hb.sb;clear hb;go_wp2_with fail;refine (Zcy C B r cs F wr HSB.o.cur HSB.o.st.at_ HSB.o.nC HSB.o.bC (by have := HSB.o.bd.len; omega)).mono ?_;rintro e u1 ⟨_, ⟨v, hv, rfl⟩, rfl, hc, hd⟩;have HO1 := zh (HO.o.draw hd hc);have HV := zh hv;clear hc hd HO HSB hv t4;obtain ⟨u2, hu2⟩ : ∃ y, y = u1.alloc (.cells #[.int .i64 v.kind, .int .i64 v.aH, .int .i64 v.index, .string v.text, .int .i64 v.set_.low, .int .i64 v.set_.high] Za9) := ⟨_, rfl⟩;have hl2 : Za u1 u2 := by rw [hu2]; exact (Za.refl _).alloc _
  have hx2 : u2.heap[u1.heap.size]? = some (.cells #[.int .i64 v.kind, .int .i64 v.aH, .int .i64 v.index, .string v.text, .int .i64 v.set_.low, .int .i64 v.set_.high] Za9 (0, 0)) := by rw [hu2]; exact heap_alloc_new _ _
  obtain ⟨VB, hVB⟩ : ∃ b, b = u1.heap.size := ⟨_, rfl⟩;rw [← hVB] at hx2;have HX2 := zh hx2;have HL2 := zh hl2;have HVB := zh (show u1.heap.size ≤ VB by omega);clear hl2 hx2;go_upto_region 18 with (fail);rw [← hu2, ← hVB];clear hu2 hVB
  go_upto_if 73 with (fail)
  go_cut [] from 65 to 115 (fun wc => ∃ v : Ze, vOk v ∧ wc.heap[VB]? = some (.cells #[.int .i64 v.kind, .int .i64 v.aH, .int .i64 v.index, .string v.text, .int .i64 v.set_.low, .int .i64 v.set_.high] Za9 (0, 0)) ∧ ObS C B OB w1 n kd 0 j j wc)
  case first =>
   by_cases hk30 : 30 < k
   ·have t5 : decide ((30 : Int) < k) = true := decide_eq_true (by omega);go_wp2_with fail;refine (Zbd j u2).mono ?_;rintro e u3 ⟨rfl, hl3⟩;have hx3 := (hl3.block _ (Zb HX2.o)).trans HX2.o;have HFL := zh (Z7 HVB.o [.int .i64 1, .int .i64 j, .int .i64 0, .string ⟨#[]⟩, .int .i64 0, .int .i64 0] u3 0 (HL2.o.trans hl3));have HFX := zh (Zaj (o := 5) (Zaj (o := 4) (Zaj (o := 3) (Zaj (o := 2) (Zaj (o := 1) (Zaj (o := 0) hx3 (.int .i64 1)) (.int .i64 j)) (.int .i64 0)) (.string ⟨#[]⟩)) (.int .i64 0)) (.int .i64 0));have HX3 := zh hx3;have p0 := cz6 HX3.o;have fp0 := fz HX3.o;clear hx3 hl3;go_wp2_with fail
    go_meet
    refine ⟨⟨1, j, 0, ⟨#[]⟩, ⟨0, 0⟩⟩, ⟨Ze7, inK (j : Int) (by omega) (by omega), in0, Nat.zero_le _, in0, in0⟩, ?_, HO1.o.later HFL.o⟩
    simpa using HFX.o
   ·have t5 : decide ((30 : Int) < k) = false := decide_eq_false (by omega);go_wp2_with fail
    go_meet
    exact ⟨v, HV.o, HX2.o, HO1.o.later HL2.o⟩
  case rest =>
   clear HO1 HX2 HL2 HVB HV;obtain ⟨v, hv, hx, ho⟩ := hcut;have HV := zh hv;have HX := zh hx;have HO := zh ho;clear hv hx ho
   go_step
   refine Zmi (Zr9 h1 C RB B OB VB _ _ _ _ w1 n j (by omega) v HV HX (FrS.mk' rfl rfl rfl rfl rfl rfl rfl rfl rfl rfl rfl) HO) ?_;clear HV HX HO;rintro a' w' ⟨v9, v117, hf, ho⟩;obtain ⟨f, rfl⟩ := hf.opn;have HO := zh ho;clear ho hf;go_wp2_with fail;refine Handed.intro (gk - 1) (by omega) (hJ _ _ _ ⟨j + 1, by omega, _, _, FrS.mk' rfl rfl rfl rfl rfl rfl rfl rfl rfl rfl rfl, HO.o⟩)
 ·have t4 : decide ((j : Int) < k) = false := decide_eq_false (by omega);obtain rfl : j = k := by omega
  go_wp2_with fail;exact ⟨_, _, FrS.mk' rfl rfl rfl rfl rfl rfl rfl rfl rfl rfl rfl, HO.o⟩
set_option maxRecDepth 1000000
set_option maxHeartbeats 8000000
theorem Zt0 {a : Act} {u10 : World} (C RB B OB : Nat) (v4 v5 v7 v8 v9 : Value) (w1 : World) (n : Nat) (hn : n ≤ 100) (hf : FrS C RB B v4 v5 (.pointer (some ⟨OB, 0, none⟩)) v7 v8 v9 (.int .i64 1) a) (HO : Hd (ObS C B OB w1 n 1 0 40 40 u10)) :
  stSw.wp Tryz.prog (Zd2 (Zje C RB B OB v4 v5 w1 (n + 2))) a u10 := by
 obtain ⟨f, rfl⟩ := hf.opn;clear hf
 conv => arg 2; whnf
 go_wp2_with fail;exact ⟨1, 0, _, _, _, _, .inl ⟨.inl rfl, rfl⟩, FrS.mk' rfl rfl rfl rfl rfl rfl rfl rfl rfl rfl rfl, HO.o.mono (by omega) (by omega) (by omega)⟩
theorem Zt1 {a : Act} {u10 : World} (C RB B OB : Nat) (v4 v5 v7 v8 v9 : Value) (w1 : World) (n : Nat) (hn : n ≤ 100) (hf : FrS C RB B v4 v5 (.pointer (some ⟨OB, 0, none⟩)) v7 v8 v9 (.int .i64 2) a) (HO : Hd (ObS C B OB w1 n 2 0 40 40 u10)) :
  stSw.wp Tryz.prog (Zd2 (Zje C RB B OB v4 v5 w1 (n + 2))) a u10 := by
 obtain ⟨f, rfl⟩ := hf.opn;clear hf
 conv => arg 2; whnf
 go_wp2_with fail;exact ⟨2, 0, _, _, _, _, .inr ⟨by decide, by decide⟩, FrS.mk' rfl rfl rfl rfl rfl rfl rfl rfl rfl rfl rfl, HO.o.mono (by omega) (by omega) (by omega)⟩
theorem Zt2 {a : Act} {u10 : World} (C RB B OB : Nat) (v4 v5 v7 v8 v9 : Value) (w1 : World) (n : Nat) (hn : n ≤ 100) (hf : FrS C RB B v4 v5 (.pointer (some ⟨OB, 0, none⟩)) v7 v8 v9 (.int .i64 4) a) (HO : Hd (ObS C B OB w1 n 4 0 40 40 u10)) :
  stSw.wp Tryz.prog (Zd2 (Zje C RB B OB v4 v5 w1 (n + 2))) a u10 := by
 obtain ⟨f, rfl⟩ := hf.opn;clear hf
 conv => arg 2; whnf
 go_wp2_with fail;exact ⟨4, 0, _, _, _, _, .inr ⟨by decide, by decide⟩, FrS.mk' rfl rfl rfl rfl rfl rfl rfl rfl rfl rfl rfl, HO.o.mono (by omega) (by omega) (by omega)⟩
theorem Zt3 {a : Act} {u10 : World} (C RB B OB : Nat) (v4 v5 v7 v8 v9 : Value) (w1 : World) (n : Nat) (hn : n ≤ 100) (hf : FrS C RB B v4 v5 (.pointer (some ⟨OB, 0, none⟩)) v7 v8 v9 (.int .i64 5) a) (HO : Hd (ObS C B OB w1 n 5 0 40 40 u10)) :
  stSw.wp Tryz.prog (Zd2 (Zje C RB B OB v4 v5 w1 (n + 2))) a u10 := by
 obtain ⟨f, rfl⟩ := hf.opn;clear hf
 conv => arg 2; whnf
 obtain ⟨r, cs, F, _, _, _, _, _, hb, -, -, -⟩ := HO.o;have HSB := zh hb.sb;clear hb;go_wp2_with fail;refine (Zcy C B r cs F u10 HSB.o.cur HSB.o.st.at_ HSB.o.nC HSB.o.bC (by have := HSB.o.bd.len; omega)).mono ?_;rintro e u11 ⟨_, ⟨a, ha, rfl⟩, rfl, hc, hd⟩;have HO1 := zh (HO.o.draw hd hc);have HSB11 := zh (HSB.o.draw hd hc);have HVa := zh ha;clear hc hd HO HSB ha;go_wp2_with fail;refine (Zcy C B r cs F u11 HSB11.o.cur HSB11.o.st.at_ HSB11.o.nC HSB11.o.bC (by have := HSB11.o.bd.len; omega)).mono ?_;rintro e u12 ⟨_, ⟨b, hb, rfl⟩, rfl, hc, hd⟩;have HO2 := zh (HO1.o.draw hd hc);have HSB12 := zh (HSB11.o.draw hd hc);have HVb := zh hb;clear hc hd HO1 HSB11 hb;obtain ⟨uN, huN⟩ : ∃ zz, zz = u12.alloc (.cells #[.int .i64 a.kind, .int .i64 a.aH, .int .i64 a.index, .string a.text, .int .i64 a.set_.low, .int .i64 a.set_.high, .int .i64 b.kind, .int .i64 b.aH, .int .i64 b.index, .string b.text, .int .i64 b.set_.low, .int .i64 b.set_.high] Za9) := ⟨_, rfl⟩;have hlN : Za u12 uN := by rw [huN]; exact (Za.refl _).alloc _
 have hN : uN.heap[u12.heap.size]? = some (.cells #[.int .i64 a.kind, .int .i64 a.aH, .int .i64 a.index, .string a.text, .int .i64 a.set_.low, .int .i64 a.set_.high, .int .i64 b.kind, .int .i64 b.aH, .int .i64 b.index, .string b.text, .int .i64 b.set_.low, .int .i64 b.set_.high] Za9 (0, 0)) := by rw [huN]; exact heap_alloc_new _ _
 have hvs : ∀ v ∈ ([a, b] : List Ze), vOk v := by
  intro v hv;simp only [List.mem_cons, List.not_mem_nil, or_false] at hv
  rcases hv with rfl | rfl
  ·exact HVa.o
  ·exact HVb.o
 have hrow := Zdw (w := uN) (b := u12.heap.size) (l := [a, b]) hN hvs (by simp) (fun y => u12.heap.size ≤ y) (Nat.le_refl _);have hfin := HO2.o.lit (mi' := 41) hlN hrow ⟨by simp, fun v hv => (hvs v hv).2.2.2.1⟩;simp only [List.length_cons, List.length_nil, Nat.zero_add, Nat.reduceAdd] at hfin;have HFIN := zh hfin;obtain ⟨Ai, li, ci, Ak, lk, ck, -, -, hblk⟩ := HO2.o.cells;have hbk := (hlN.block _ (Zb hblk)).trans hblk;have o3 := cq hbk 3;have fo3 := fz hbk;simp only [nD, nE, nF] at o3;clear hfin hrow hN hlN hvs hblk hbk;subst huN;go_wp2_with fail;exact ⟨5, 0, _, _, _, _, .inr ⟨by decide, by decide⟩, FrS.mk' rfl rfl rfl rfl rfl rfl rfl rfl rfl rfl rfl, HFIN.o.mono (by omega) (by omega) (by omega)⟩
theorem Zt4 {a : Act} {u10 : World} (C RB B OB : Nat) (v4 v5 v7 v8 v9 : Value) (w1 : World) (n : Nat) (hn : n ≤ 100) (hf : FrS C RB B v4 v5 (.pointer (some ⟨OB, 0, none⟩)) v7 v8 v9 (.int .i64 6) a) (HO : Hd (ObS C B OB w1 n 6 0 40 40 u10)) :
  stSw.wp Tryz.prog (Zd2 (Zje C RB B OB v4 v5 w1 (n + 2))) a u10 := by
 obtain ⟨f, rfl⟩ := hf.opn;clear hf
 conv => arg 2; whnf
 go_wp2_with fail;refine (Z0 C u10 HO.o.cur 3 (by omega)).mono ?_;rintro e u11 ⟨_, ⟨x, hx0, hx1, rfl⟩, rfl, hc, hd⟩;have HO1 := zh (HO.o.draw hd hc);clear hc hd HO;obtain ⟨Ai, li, ci, Ak, lk, ck, -, -, hblk⟩ := HO1.o.cells;have o1 := cq hblk 1;have fo1 := fz hblk;simp only [nD, nE, nF] at o1;clear hblk;have HO2 := zh (HO1.o.setTag (1 + x) (inK _ (by omega) (by omega)));obtain ⟨u12, hu12⟩ : ∃ zz, zz = u11.setCell ⟨OB, 1, none⟩ (.int .i64 (1 + x)) := ⟨_, rfl⟩;rw [← hu12] at HO2;go_upto_region 32 with (fail);rw [← hu12];clear hu12 o1 fo1 HO1;go_wp2_with fail;refine (Z0 C u12 HO2.o.cur 3 (by omega)).mono ?_;rintro e u13 ⟨_, ⟨y, hy0, hy1, rfl⟩, rfl, hc, hd⟩;have HO3 := zh (HO2.o.draw hd hc);clear hc hd HO2;go_wp2_with fail;refine (Zbd y u13).mono ?_;rintro e u14 ⟨rfl, hl⟩;have HO4 := zh (HO3.o.later hl);clear hl HO3;obtain ⟨uN, huN⟩ : ∃ zz, zz = u14.alloc (.cells #[.int .i64 19, .int .i64 0, .int .i64 0, .string ⟨#[]⟩, .int .i64 0, .int .i64 0, .int .i64 19, .int .i64 0, .int .i64 0, .string ⟨#[]⟩, .int .i64 0, .int .i64 0, .int .i64 1, .int .i64 y, .int .i64 0, .string ⟨#[]⟩, .int .i64 0, .int .i64 0] Za9) := ⟨_, rfl⟩;have hlN : Za u14 uN := by rw [huN]; exact (Za.refl _).alloc _
 have hN : uN.heap[u14.heap.size]? = some (.cells #[.int .i64 19, .int .i64 0, .int .i64 0, .string ⟨#[]⟩, .int .i64 0, .int .i64 0, .int .i64 19, .int .i64 0, .int .i64 0, .string ⟨#[]⟩, .int .i64 0, .int .i64 0, .int .i64 1, .int .i64 y, .int .i64 0, .string ⟨#[]⟩, .int .i64 0, .int .i64 0] Za9 (0, 0)) := by rw [huN]; exact heap_alloc_new _ _
 have hvs : ∀ v ∈ ([⟨19, 0, 0, ⟨#[]⟩, ⟨0, 0⟩⟩, ⟨19, 0, 0, ⟨#[]⟩, ⟨0, 0⟩⟩, ⟨1, y, 0, ⟨#[]⟩, ⟨0, 0⟩⟩] : List Ze), vOk v := by
  intro v hv;simp only [List.mem_cons, List.not_mem_nil, or_false] at hv
  rcases hv with rfl | rfl | rfl
  ·exact ⟨inK 19 (by omega) (by omega), in0, in0, Nat.zero_le _, in0, in0⟩
  ·exact ⟨inK 19 (by omega) (by omega), in0, in0, Nat.zero_le _, in0, in0⟩
  ·exact ⟨Ze7, inK y (by omega) (by omega), in0, Nat.zero_le _, in0, in0⟩
 have hrow := Zdw (w := uN) (b := u14.heap.size) (l := [⟨19, 0, 0, ⟨#[]⟩, ⟨0, 0⟩⟩, ⟨19, 0, 0, ⟨#[]⟩, ⟨0, 0⟩⟩, ⟨1, y, 0, ⟨#[]⟩, ⟨0, 0⟩⟩]) hN hvs (by simp) (fun y => u14.heap.size ≤ y) (Nat.le_refl _);have hfin := HO4.o.lit (mi' := 41) hlN hrow ⟨by simp, fun v hv => (hvs v hv).2.2.2.1⟩;simp only [List.length_cons, List.length_nil, Nat.zero_add, Nat.reduceAdd] at hfin;have HFIN := zh hfin;obtain ⟨Ai, li, ci, Ak, lk, ck, -, -, hblk⟩ := HO4.o.cells;have hbk := (hlN.block _ (Zb hblk)).trans hblk;have o3 := cq hbk 3;have fo3 := fz hbk;simp only [nD, nE, nF] at o3;clear hfin hrow hN hlN hvs hblk hbk;subst huN;go_wp2_with fail;exact ⟨6, (1 + x), _, _, _, _, .inr ⟨by decide, by decide⟩, FrS.mk' rfl rfl rfl rfl rfl rfl rfl rfl rfl rfl rfl, HFIN.o.mono (by omega) (by omega) (by omega)⟩
theorem Zt5 {a : Act} {u10 : World} (C RB B OB : Nat) (v4 v5 v7 v8 v9 : Value) (w1 : World) (n : Nat) (hn : n ≤ 100) (hf : FrS C RB B v4 v5 (.pointer (some ⟨OB, 0, none⟩)) v7 v8 v9 (.int .i64 9) a) (HO : Hd (ObS C B OB w1 n 9 0 40 40 u10)) :
  stSw.wp Tryz.prog (Zd2 (Zje C RB B OB v4 v5 w1 (n + 2))) a u10 := by
 obtain ⟨f, rfl⟩ := hf.opn;clear hf
 conv => arg 2; whnf
 go_wp2_with fail;refine (Zcx ⟨#[120, 121]⟩ u10).mono ?_;rintro e u11 ⟨rfl, hl⟩;have HO1 := zh (HO.o.later hl);clear hl HO;go_wp2_with fail;refine (Zbd 2 u11).mono ?_;rintro e u12 ⟨rfl, hl⟩;have HO2 := zh (HO1.o.later hl);clear hl HO1;obtain ⟨uN, huN⟩ : ∃ zz, zz = u12.alloc (.cells #[.int .i64 2, .int .i64 0, .int .i64 0, .string ⟨#[120, 121]⟩, .int .i64 0, .int .i64 0, .int .i64 1, .int .i64 2, .int .i64 0, .string ⟨#[]⟩, .int .i64 0, .int .i64 0] Za9) := ⟨_, rfl⟩;have hlN : Za u12 uN := by rw [huN]; exact (Za.refl _).alloc _
 have hN : uN.heap[u12.heap.size]? = some (.cells #[.int .i64 2, .int .i64 0, .int .i64 0, .string ⟨#[120, 121]⟩, .int .i64 0, .int .i64 0, .int .i64 1, .int .i64 2, .int .i64 0, .string ⟨#[]⟩, .int .i64 0, .int .i64 0] Za9 (0, 0)) := by rw [huN]; exact heap_alloc_new _ _
 have hvs : ∀ v ∈ ([⟨2, 0, 0, ⟨#[120, 121]⟩, ⟨0, 0⟩⟩, ⟨1, 2, 0, ⟨#[]⟩, ⟨0, 0⟩⟩] : List Ze), vOk v := by
  intro v hv;simp only [List.mem_cons, List.not_mem_nil, or_false] at hv
  rcases hv with rfl | rfl
  ·exact ⟨Zm8, in0, in0, (show (2 : Nat) ≤ 121 by omega), in0, in0⟩
  ·exact ⟨Ze7, Zm8, in0, Nat.zero_le _, in0, in0⟩
 have hrow := Zdw (w := uN) (b := u12.heap.size) (l := [⟨2, 0, 0, ⟨#[120, 121]⟩, ⟨0, 0⟩⟩, ⟨1, 2, 0, ⟨#[]⟩, ⟨0, 0⟩⟩]) hN hvs (by simp) (fun y => u12.heap.size ≤ y) (Nat.le_refl _);have hfin := HO2.o.lit (mi' := 41) hlN hrow ⟨by simp, fun v hv => (hvs v hv).2.2.2.1⟩;simp only [List.length_cons, List.length_nil, Nat.zero_add, Nat.reduceAdd] at hfin;have HFIN := zh hfin;obtain ⟨Ai, li, ci, Ak, lk, ck, -, -, hblk⟩ := HO2.o.cells;have hbk := (hlN.block _ (Zb hblk)).trans hblk;have o3 := cq hbk 3;have fo3 := fz hbk;simp only [nD, nE, nF] at o3;clear hfin hrow hN hlN hvs hblk hbk;subst huN;go_wp2_with fail;exact ⟨9, 0, _, _, _, _, .inl ⟨.inr (.inr rfl), rfl⟩, FrS.mk' rfl rfl rfl rfl rfl rfl rfl rfl rfl rfl rfl, HFIN.o.mono (by omega) (by omega) (by omega)⟩
set_option maxRecDepth 1000000
set_option maxHeartbeats 8000000
theorem Zt6 {a : Act} {u10 : World} (C RB B OB : Nat) (v4 v5 v7 v8 v9 : Value) (w1 : World) (n : Nat) (hn : n ≤ 100) (hf : FrS C RB B v4 v5 (.pointer (some ⟨OB, 0, none⟩)) v7 v8 v9 (.int .i64 3) a) (HO : Hd (ObS C B OB w1 n 3 0 40 40 u10)) :
  stSw.wp Tryz.prog (Zd2 (Zje C RB B OB v4 v5 w1 (n + 2))) a u10 := by
 obtain ⟨f, rfl⟩ := hf.opn;clear hf
 conv => arg 2; whnf
 obtain ⟨li0, hl0, ho⟩ : ∃ li, li ≤ 41 ∧ ObN C B OB w1 n 3 li u10 := by
  obtain ⟨r, cs, F, aJ, aK, vi, vk, G, h1, h2, h3, h4⟩ := HO.o;exact ⟨aJ.length, by have := h2.len; omega, r, cs, F, aJ, aK, vi, vk, G, h1, rfl, h2.mono (by omega), h3, h4⟩
 have HO3 := zh ho;clear ho HO;obtain ⟨iV, hiV, hzV0, hzV1, hzV2⟩ := info_parts Zb9;go_wp2_with fail;refine wp_loop_ghost_k (fun g a w => ∃ li, g + li = 41 ∧ FrS C RB B v4 v5 (.pointer (some ⟨OB, 0, none⟩)) v7 v8 v9 (.int .i64 3) a ∧ ObN C B OB w1 n 3 li w) (41 - li0) ⟨li0, by omega, FrS.mk' rfl rfl rfl rfl rfl rfl rfl rfl rfl rfl rfl, HO3.o⟩ ?_;clear HO3 f hl0 li0;rintro gk a wr ⟨li, hg, hf, ho⟩ J K hJ hK;obtain ⟨f, rfl⟩ := hf.opn;clear hf;obtain ⟨r, cs, F, aJ, aK, vi, vk, G, h1, hlen, h2, h3, h4⟩ := ho;obtain ⟨tag, vi', vk', e, i0, i1, i2, hi, hk⟩ := id h1.sp;simp only [List.cons.injEq, and_true, Value.int.injEq, true_and] at e;obtain ⟨rfl, rfl⟩ := e;obtain ⟨Ai, ci, rfl, hci, hcim, -⟩ := id hi;obtain ⟨Ak, ck, rfl, hck, hckm, -⟩ := id hk;have hli : aJ.length ≤ 41 := h2.len;have hlk : aK.length ≤ 40 := h3.len;have HOB := zh h1;have HI : Hd (Zae Zd 6 Za9 (fun y => G y ∧ tag y = 0) _ aJ (.slice Ai aJ.length ci)) := zh hi;have HK : Hd (Zae Zd 6 Za9 (fun y => G y ∧ tag y = 1) _ aK (.slice Ak aK.length ck)) := zh hk;have HSI := zh h2;have HSK := zh h3;have HSR := zh h4;have H64 := zh (And.intro i0 (And.intro i1 i2));clear h1 h2 h3 h4 hi hk i0 i1 i2;unfold maxLen at hcim hckm;obtain rfl := hlen;have HGO := zh (show ¬ G OB from fun hg => (HOB.o.fG OB hg).2.2.2.2 rfl);have HXO := zh HOB.o.blk;obtain ⟨o0, o1, o2, o3, o4⟩ := cz5 HXO.o;have fo3 := fz HXO.o
 by_cases hle : aJ.length ≤ aK.length
 ·have t5 : decide ((aJ.length : Int) ≤ aK.length) = true := decide_eq_true (by omega);go_upto_region 27 with (fail);refine Zcv [5, 6, 7] [] (fun x => x.heap[OB]? = some (.cells #[.int .i64 3, .int .i64 0, .int .i64 0, .slice Ai aJ.length ci, .slice Ak aK.length ck] Zls (0, 0))) (by kernel_rfl) (fun W hW => ?_);have HL0 := zh (show Za wr W by rw [hW]; exact (Za.refl _).drew);clear hW;have HOB1 := zh (HOB.o.later HL0.o);have HS := zh HOB1.o.blk;clear HOB HI HK HL0 HXO o0 o1 o2 o3 o4 fo3;refine tV 0 127 (v := ?_) rfl rfl HS.o (fun x hx => ?_) ?_;rotate_left
  ·go_simp;first|done|with_reducible rfl
  simp only [Act.put, nA, nB, nC];refine tV 1 128 (v := ?_) rfl rfl HS.o (fun x hx => ?_) ?_;rotate_left
  ·have o3 := cell_of_row _ OB 3 _ _ _ hx; have fo3 := frozen_of_row _ OB 3 _ _ hx; simp only [nD, nE, nF] at o3; go_simp;first|done|with_reducible rfl
  simp only [Act.put, nA, nB, nC];refine tV 2 129 (v := ?_) rfl rfl HS.o (fun x hx => ?_) ?_;rotate_left
  ·go_simp;first|done|with_reducible rfl
  simp only [Act.put, nA, nB, nC];refine Zbv 3 (by kernel_rfl) rfl rfl ?_;go_wp2_with fail;refine (Zcy C B r cs F W HOB1.o.sb.cur HOB1.o.sb.st.at_ HOB1.o.sb.nC HOB1.o.sb.bC (by have := HOB1.o.sb.bd.len; omega)).mono ?_;rintro e W2 ⟨_, ⟨v, hv, rfl⟩, rfl, hc, hd⟩;have HOB2 := zh (HOB1.o.draw hd hc);have HV := zh hv;clear hc hd hv;replace HS := zh HOB2.o.blk;go_wp2_with fail;refine ⟨HS.o, ?_⟩;refine Zbv 4 (by kernel_rfl) rfl rfl ?_;obtain ⟨tag2, vi', vk', e, -, -, -, hi, hk⟩ := id HOB2.o.sp;simp only [List.cons.injEq, and_true, Value.int.injEq, true_and] at e;obtain ⟨rfl, rfl⟩ := e;have HI2 : Hd (Zae Zd 6 Za9 (fun y => G y ∧ tag2 y = 0) _ aJ (.slice Ai aJ.length ci)) := zh hi;have HK2 : Hd (Zae Zd 6 Za9 (fun y => G y ∧ tag2 y = 1) _ aK (.slice Ak aK.length ck)) := zh hk;clear hi hk;have hlx : Za W2 (W2.alloc (.cells [.int .i64 v.kind, .int .i64 v.aH, .int .i64 v.index, .string v.text, .int .i64 v.set_.low, .int .i64 v.set_.high].toArray Za9)) := (Za.refl _).alloc _;have HXR := zh (HI2.o.keep Zj.is (fun _ h => h) (Zg.later hlx));have HXOB := zh ((hlx.block _ (Zb HOB2.o.blk)).trans HOB2.o.blk);have HLX := zh hlx;clear hlx;go_wp2_with fail;refine ⟨HXOB.o, ?_⟩;refine Zc2 [_, _, _] (by kernel_rfl) rfl rfl ?_;simp only [List.getElem_toArray, List.getElem_cons_succ, List.getElem_cons_zero]
  go_wp2_with (at_builtin; refine Zan Zj rfl _ _ 27 rfl Za9 iV (.agg #[.int .i64 0, .int .i64 0, .int .i64 0, .string ⟨#[]⟩, .int .i64 0, .int .i64 0]) 56 Tryz.underlying27 hiV hzV0 hzV1 hzV2 rfl rfl HXR.o ⟨W2.heap.size, 0, none⟩ 1 rfl v [.int .i64 v.kind, .int .i64 v.aH, .int .i64 v.index, .string v.text, .int .i64 v.set_.low, .int .i64 v.set_.high] (Zcl W2 [.int .i64 v.kind, .int .i64 v.aH, .int .i64 v.index, .string v.text, .int .i64 v.set_.low, .int .i64 v.set_.high] Za9) (by intro u hu; simp at hu; rcases hu with rfl | rfl | rfl | rfl | rfl | rfl <;> rfl) (HV.o.el (fun _ => False) _) (fun y hg hf => hg.elim) (by omega) (by decide) ?_; intro v2 Y hrow hkp hb0; have hYB := (hkp.same OB (fun h => HGO.o h.1) (Zb HXOB.o)).trans HXOB.o; have y0 := cell_of_row _ OB 0 _ _ _ hYB; have y3 := cell_of_row _ OB 3 _ _ _ hYB; simp only [nD, nE, nF] at y0 y3; have yf := frozen_of_row _ OB 3 _ _ hYB; obtain ⟨A2, c2, rfl, -, -, -⟩ := id hrow)
  obtain ⟨G', hob2, -⟩ := HOB2.o.item HLX.o ⟨rfl, rfl, rfl, H64.o.1, H64.o.2.1, H64.o.2.2⟩ HK2.o hrow hkp hb0;simp only [List.length_append, List.length_cons, List.length_nil, Nat.zero_add] at hob2;have HFIN := zh (show ObN C B OB w1 n 3 (aJ.length + 1) _ from ⟨r, cs, F, _, _, _, _, G', hob2, by simp, ⟨by simp; omega, (HSI.o.push HV.o).txt⟩, HSK.o, HSR.o⟩);clear hrow hkp hb0 hob2 hYB;go_wp2_with fail;refine Handed.intro (gk - 1) (by omega) (hJ _ _ _ ⟨aJ.length + 1, by omega, FrS.mk' rfl rfl rfl rfl rfl rfl rfl rfl rfl rfl rfl, HFIN.o⟩)
 ·have t5 : decide ((aJ.length : Int) ≤ aK.length) = false := decide_eq_false (by omega);have HFIN := zh (show ObS C B OB w1 n 3 0 42 42 wr from ⟨r, cs, F, aJ, aK, _, _, G, HOB.o, HSI.o.mono (by omega), HSK.o.mono (by omega), HSR.o⟩);go_wp2_with fail;exact ⟨3, 0, _, _, _, _, .inr ⟨by decide, by decide⟩, FrS.mk' rfl rfl rfl rfl rfl rfl rfl rfl rfl rfl rfl, HFIN.o.mono (by omega) (by omega) (by omega)⟩
set_option maxRecDepth 1000000
set_option maxHeartbeats 8000000
theorem Zt7 {a : Act} {u10 : World} (C RB B OB : Nat) (v4 v5 v7 v8 v9 : Value) (w1 : World) (n : Nat) (hn : n ≤ 100) (hf : FrS C RB B v4 v5 (.pointer (some ⟨OB, 0, none⟩)) v7 v8 v9 (.int .i64 8) a) (HO : Hd (ObS C B OB w1 n 8 0 40 40 u10)) :
  stSw.wp Tryz.prog (Zd2 (Zje C RB B OB v4 v5 w1 (n + 2))) a u10 := by
 obtain ⟨f, rfl⟩ := hf.opn;clear hf
 conv => arg 2; whnf
 go_wp2_with fail;refine (Zbd 0 u10).mono ?_;rintro e u11 ⟨rfl, hl⟩;have HO1 := zh (HO.o.later hl);clear hl HO;obtain ⟨u12, hu12⟩ : ∃ x, x = u11.alloc (.cells #[.int .i64 1, .int .i64 0, .int .i64 0, .string ⟨#[]⟩, .int .i64 0, .int .i64 0] Za9) := ⟨_, rfl⟩;have hl : Za u11 u12 := by rw [hu12]; exact (Za.refl _).alloc _
 have hN : u12.heap[u11.heap.size]? = some (.cells #[.int .i64 1, .int .i64 0, .int .i64 0, .string ⟨#[]⟩, .int .i64 0, .int .i64 0] Za9 (0, 0)) := by rw [hu12]; exact heap_alloc_new _ _
 obtain ⟨r, cs, F, aJ, aK, vi, vk, G, h1, h2, h3, h4⟩ := HO1.o;have hv1 : vOk ⟨1, 0, 0, ⟨#[]⟩, ⟨0, 0⟩⟩ := ⟨Ze7, in0, in0, Nat.zero_le _, in0, in0⟩;have hrow := Zdw (w := u12) (b := u11.heap.size) (l := [⟨1, 0, 0, ⟨#[]⟩, ⟨0, 0⟩⟩]) hN (by intro v hv; rw [List.mem_singleton] at hv; subst hv; exact hv1) (by simp) (fun y => y = u11.heap.size ∧ 0 = 0) ⟨rfl, rfl⟩;have HOBJ := zh (show Za2 (fun y => y = u11.heap.size) u12 ⟨3, 0, 0, [⟨1, 0, 0, ⟨#[]⟩, ⟨0, 0⟩⟩], []⟩ [.int .i64 3, .int .i64 0, .int .i64 0, .slice (some ⟨u11.heap.size, 0, none⟩) 1 1, .slice none 0 0] from ⟨fun _ => 0, _, _, rfl, inK 3 (by omega) (by omega), in0, in0, hrow, Zae.nil _ _ _ _ _⟩);have HN := zh (Zb hN);have HL := zh hl;have HOB := zh h1;have HSI := zh h2;have HSK := zh h3;have HSR := zh h4;clear hl hN hrow h1 h2 h3 h4 HO1;go_wp2_with fail;rw [← hu12];clear hu12;refine (Zfe C B w1 u12 n r cs F (fun y => y = u11.heap.size) _ _ (HOB.o.sb.later HL.o) (by omega) HOBJ.o (fun b hb => ⟨by have := HOB.o.sb.size; omega, by have := HN.o; omega, fun hf => by have := (HOB.o.sb.fF b hf).2; omega, by have := HOB.o.sb.lt; omega⟩) (.inr ⟨by decide, by decide⟩) ⟨by decide, by intro v hv; rw [List.mem_singleton] at hv; subst hv; exact hv1.2.2.2.1⟩ (Zbo.nil _)).mono ?_;rintro e u13 ⟨rfl, cs', F', hs, ht, hF⟩;have hob := HOB.o.inner hs (Tch.fl HL.o ht) (fun b hb => by
  rcases hF b hb with q | q | q
  ·exact .inl q
  ·exact .inr (by omega)
  ·exact .inr (by have := HL.o.size; omega))
 have HO3 := zh (show ObS C B OB w1 (n + 1) 8 0 40 40 u13 from ⟨_, cs', F', aJ, aK, vi, vk, G, hob, HSI.o, HSK.o, Rs.new HSR.o.1⟩);obtain ⟨nn, hnn, hnb⟩ : ∃ nn : Nat, nn = r.aA.length ∧ nn ≤ n := ⟨_, rfl, HOB.o.sb.bd.len⟩;rw [← hnn];clear hs ht hF hob HOB HOBJ HN HL HSI HSK HSR hnn cs' F' hv1;clear vi vk aJ aK cs F G r;obtain ⟨r, cs, F, _, _, _, _, _, hb, -, -, -⟩ := HO3.o;have HSB := zh hb.sb;clear hb;go_wp2_with fail;refine (Zcy C B r cs F u13 HSB.o.cur HSB.o.st.at_ HSB.o.nC HSB.o.bC (by have := HSB.o.bd.len; omega)).mono ?_;rintro e u14 ⟨_, ⟨b, hb, rfl⟩, rfl, hc, hd⟩;have HO4 := zh (HO3.o.draw hd hc);have HSB14 := zh (HSB.o.draw hd hc);have HVb := zh hb;clear hc hd HO3 HSB hb;obtain ⟨uN, huN⟩ : ∃ zz, zz = u14.alloc (.cells #[.int .i64 5, .int .i64 (nn : Int), .int .i64 0, .string ⟨#[]⟩, .int .i64 0, .int .i64 0, .int .i64 b.kind, .int .i64 b.aH, .int .i64 b.index, .string b.text, .int .i64 b.set_.low, .int .i64 b.set_.high] Za9) := ⟨_, rfl⟩;have hlN : Za u14 uN := by rw [huN]; exact (Za.refl _).alloc _
 have hN : uN.heap[u14.heap.size]? = some (.cells #[.int .i64 5, .int .i64 (nn : Int), .int .i64 0, .string ⟨#[]⟩, .int .i64 0, .int .i64 0, .int .i64 b.kind, .int .i64 b.aH, .int .i64 b.index, .string b.text, .int .i64 b.set_.low, .int .i64 b.set_.high] Za9 (0, 0)) := by rw [huN]; exact heap_alloc_new _ _
 have hvs : ∀ v ∈ ([⟨5, (nn : Int), 0, ⟨#[]⟩, ⟨0, 0⟩⟩, b] : List Ze), vOk v := by
  intro v hv;simp only [List.mem_cons, List.not_mem_nil, or_false] at hv
  rcases hv with rfl | rfl
  ·exact ⟨inK 5 (by omega) (by omega), (show Zs (nn : Int) from inK _ (by omega) (by omega)), in0, Nat.zero_le _, in0, in0⟩
  ·exact HVb.o
 have hrow := Zdw (w := uN) (b := u14.heap.size) (l := [⟨5, (nn : Int), 0, ⟨#[]⟩, ⟨0, 0⟩⟩, b]) hN hvs (by simp) (fun y => u14.heap.size ≤ y) (Nat.le_refl _);have hfin := HO4.o.lit (mi' := 41) hlN hrow ⟨by simp, fun v hv => (hvs v hv).2.2.2.1⟩;simp only [List.length_cons, List.length_nil, Nat.zero_add, Nat.reduceAdd] at hfin;have HFIN := zh hfin;obtain ⟨Ai, li, ci, Ak, lk, ck, -, -, hblk⟩ := HO4.o.cells;have hbk := (hlN.block _ (Zb hblk)).trans hblk;have o3 := cq hbk 3;have fo3 := fz hbk;simp only [nD, nE, nF] at o3;clear hfin hrow hN hlN hvs hblk hbk;subst huN;go_wp2_with fail;exact ⟨8, 0, _, _, _, _, .inl ⟨.inr (.inl rfl), rfl⟩, FrS.mk' rfl rfl rfl rfl rfl rfl rfl rfl rfl rfl rfl, HFIN.o.mono (by omega) (by omega) (by omega)⟩
end Go.Proofs.YtpmhelkiicigfaaGreatDoor
namespace Go.Proofs.YtpmhelkiicigfaaGreatDoor
open Go.RowKit
set_option maxRecDepth 1000000
set_option maxHeartbeats 8000000
def FrP (C RB B : Nat) (v4 v5 v6 v7 v8 v9 v10 v11 v117 : Value) (a : Act) : Prop := Fr 228 [(0, .pointer (some ⟨C, 0, none⟩)), (2, .pointer (some ⟨RB, 0, none⟩)), (3, .pointer (some ⟨B, 0, none⟩)), (4, v4), (5, v5), (6, v6), (7, v7), (8, v8), (9, v9), (10, v10), (11, v11), (117, v117)] a
section
variable {C RB B : Nat} {v4 v5 v6 v7 v8 v9 v10 v11 v117 : Value} {a : Act}
theorem FrP.opn (h : FrP C RB B v4 v5 v6 v7 v8 v9 v10 v11 v117 a) : ∃ f : Nat → Value, a = ⟨#[.pointer (some ⟨C, 0, none⟩), f 1, .pointer (some ⟨RB, 0, none⟩), .pointer (some ⟨B, 0, none⟩), v4, v5, v6, v7, v8, v9, v10, v11, f 12, f 13, f 14, f 15, f 16, f 17, f 18, f 19, f 20, f 21, f 22, f 23, f 24, f 25, f 26, f 27, f 28, f 29, f 30, f 31, f 32, f 33, f 34, f 35, f 36, f 37, f 38, f 39, f 40, f 41, f 42, f 43, f 44, f 45, f 46, f 47, f 48, f 49, f 50, f 51, f 52, f 53, f 54, f 55, f 56, f 57, f 58, f 59, f 60, f 61, f 62, f 63, f 64, f 65, f 66, f 67, f 68, f 69, f 70, f 71, f 72, f 73, f 74, f 75, f 76, f 77, f 78, f 79, f 80, f 81, f 82, f 83, f 84, f 85, f 86, f 87, f 88, f 89, f 90, f 91, f 92, f 93, f 94, f 95, f 96, f 97, f 98, f 99, f 100, f 101, f 102, f 103, f 104, f 105, f 106, f 107, f 108, f 109, f 110, f 111, f 112, f 113, f 114, f 115, f 116, v117, f 118, f 119, f 120, f 121, f 122, f 123, f 124, f 125, f 126, f 127, f 128, f 129, f 130, f 131, f 132, f 133, f 134, f 135, f 136, f 137, f 138, f 139, f 140, f 141, f 142, f 143, f 144, f 145, f 146, f 147, f 148, f 149, f 150, f 151, f 152, f 153, f 154, f 155, f 156, f 157, f 158, f 159, f 160, f 161, f 162, f 163, f 164, f 165, f 166, f 167, f 168, f 169, f 170, f 171, f 172, f 173, f 174, f 175, f 176, f 177, f 178, f 179, f 180, f 181, f 182, f 183, f 184, f 185, f 186, f 187, f 188, f 189, f 190, f 191, f 192, f 193, f 194, f 195, f 196, f 197, f 198, f 199, f 200, f 201, f 202, f 203, f 204, f 205, f 206, f 207, f 208, f 209, f 210, f 211, f 212, f 213, f 214, f 215, f 216, f 217, f 218, f 219, f 220, f 221, f 222, f 223, f 224, f 225, f 226, f 227], []⟩ := by
 obtain ⟨f, e, hf⟩ := Fr.lit h;obtain ⟨h0, h2, h3, h4, h5, h6, h7, h8, h9, h10, h11, h117, -⟩ := h.has;refine ⟨f, e.trans ?_⟩;have k0 := Zb6 h0 (hf 0 (by omega));have k2 := Zb6 h2 (hf 2 (by omega));have k3 := Zb6 h3 (hf 3 (by omega));have k4 := Zb6 h4 (hf 4 (by omega));have k5 := Zb6 h5 (hf 5 (by omega));have k6 := Zb6 h6 (hf 6 (by omega));have k7 := Zb6 h7 (hf 7 (by omega));have k8 := Zb6 h8 (hf 8 (by omega));have k9 := Zb6 h9 (hf 9 (by omega));have k10 := Zb6 h10 (hf 10 (by omega));have k11 := Zb6 h11 (hf 11 (by omega));have k117 := Zb6 h117 (hf 117 (by omega));rw [← k0];rw [← k2];rw [← k3];rw [← k4];rw [← k5];rw [← k6];rw [← k7];rw [← k8];rw [← k9];rw [← k10];rw [← k11];rw [← k117]
 rfl
theorem FrP.mk' {A : Array Value} (hs : A.size = 228) (h0 : A[0]? = some (.pointer (some ⟨C, 0, none⟩))) (h2 : A[2]? = some (.pointer (some ⟨RB, 0, none⟩))) (h3 : A[3]? = some (.pointer (some ⟨B, 0, none⟩))) (h4 : A[4]? = some (v4)) (h5 : A[5]? = some (v5)) (h6 : A[6]? = some (v6)) (h7 : A[7]? = some (v7)) (h8 : A[8]? = some (v8)) (h9 : A[9]? = some (v9)) (h10 : A[10]? = some (v10)) (h11 : A[11]? = some (v11)) (h117 : A[117]? = some (v117)) : FrP C RB B v4 v5 v6 v7 v8 v9 v10 v11 v117 ⟨A, []⟩ := ⟨hs, rfl, h0, h2, h3, h4, h5, h6, h7, h8, h9, h10, h11, h117, trivial⟩
end
theorem Zt8 {a : Act} {u10 : World} (C RB B OB : Nat) (v4 v5 v7 v8 v9 : Value) (w1 : World) (n : Nat) (hn : n ≤ 100) (hf : FrS C RB B v4 v5 (.pointer (some ⟨OB, 0, none⟩)) v7 v8 v9 (.int .i64 7) a) (HO : Hd (ObS C B OB w1 n 7 0 40 40 u10)) :
  stSw.wp Tryz.prog (Zd2 (Zje C RB B OB v4 v5 w1 (n + 2))) a u10 := by
 obtain ⟨f, rfl⟩ := hf.opn;clear hf
 conv => arg 2; whnf
 go_wp2_with fail;refine (Z0 C u10 HO.o.cur 23 (by omega)).mono ?_;rintro e u11 ⟨_, ⟨x, hx0, hx1, rfl⟩, rfl, hc, hd⟩;have HO1 := zh (HO.o.draw hd hc);clear hc hd HO;obtain ⟨Ai, li, ci, Ak, lk, ck, -, -, hblk⟩ := HO1.o.cells;have o1 := cq hblk 1;have fo1 := fz hblk;simp only [nD, nE, nF] at o1;clear hblk;have HO2 := zh (HO1.o.setTag (1 + x) (inK _ (by omega) (by omega)));obtain ⟨u12, hu12⟩ : ∃ zz, zz = u11.setCell ⟨OB, 1, none⟩ (.int .i64 (1 + x)) := ⟨_, rfl⟩;rw [← hu12] at HO2;go_upto_region 35 with (fail);rw [← hu12];clear hu12 o1 fo1 HO1;obtain ⟨tg, htg⟩ : ∃ tg : Int, tg = 1 + x := ⟨_, rfl⟩;rw [← htg] at HO2;obtain ⟨Ai, li, ci, Ak, lk, ck, -, -, hblk⟩ := HO2.o.cells;have o1 := cq hblk 1;simp only [nD, nE, nF] at o1;clear hblk;have HTG := zh htg;clear htg;go_wp2_with fail;refine (Zjd tg u12).mono ?_;rintro e u13 ⟨ks, hk2, hkm, A, c, rfl, hA, hl⟩;have HKM := zh hkm;have ho : ObL C B OB u12.heap.size w1 n tg ks 0 u13 := by
  obtain ⟨r, cs, F, aJ, aK, vi, vk, G, h1, h2, h3, h4⟩ := HO2.o;refine ⟨r, cs, F, aJ, aK, vi, vk, G, h1.later hl, h2, h3, h4, hA.imp id fun h => ⟨h.2, fun hf => ?_, fun hg => ?_, ?_, ?_, ?_⟩⟩
  ·have := (h1.sb.fF _ hf).2; omega
  ·have := (h1.fG _ hg).2.1; omega
  ·have := h1.sb.lt; omega
  ·have := Zb h1.blk; omega
  ·have := h1.sb.hC; have := h1.sb.size; omega
 have HA := zh (show ks = [] ∨ A = some ⟨u12.heap.size, 0, none⟩ from hA.imp id And.left);obtain ⟨LB, hLB⟩ : ∃ b, b = u12.heap.size := ⟨_, rfl⟩;rw [← hLB] at ho HA;have HO3 := zh ho;clear hkm hA ho hl HO2 o1 hLB;obtain ⟨iV, hiV, hzV0, hzV1, hzV2⟩ := info_parts Zb9
 go_upto_block 7 with (fail)
 go_wp2_with fail;refine wp_loop_ghost_k (fun g a w => ∃ j, g + j = ks.length ∧ FrP C RB B v4 v5 (.pointer (some ⟨OB, 0, none⟩)) v7 v8 v9 (.slice A ks.length c) (.int .i64 j) (.int .i64 7) a ∧ ObL C B OB LB w1 n tg ks j w) ks.length ⟨0, by omega, FrP.mk' rfl rfl rfl rfl rfl rfl rfl rfl rfl rfl rfl rfl rfl, HO3.o⟩ ?_;clear HO3 f;rintro gk a wr ⟨j, hg, hf, ho⟩ J K hJ hK;obtain ⟨f, rfl⟩ := hf.opn;clear hf
 by_cases hlt : j < ks.length
 ·obtain ⟨r, cs, F, aJ, aK, vi, vk, G, h1, h2, h3, h4, h5⟩ := ho;obtain ⟨tag, vi', vk', e, i0, i1, i2, hi, hk⟩ := id h1.sp;simp only [List.cons.injEq, and_true, Value.int.injEq, true_and] at e;obtain ⟨rfl, rfl⟩ := e;obtain ⟨Ai, ci, rfl, hci, hcim, -⟩ := id hi;obtain ⟨Ak, ck, rfl, hck, hckm, -⟩ := id hk;have hli : aJ.length ≤ 40 + j := h2.len;have hlk : aK.length ≤ 40 := h3.len;have HOB := zh h1;have HSI := zh h2;have HSK := zh h3;have HSR := zh h4;have HLB := zh h5;have H64 := zh (And.intro i0 (And.intro i1 i2));clear h1 h2 h3 h4 h5 hi hk i0 i1 i2;unfold maxLen at hcim hckm;have HGO := zh (show ¬ G OB from fun hg => (HOB.o.fG OB hg).2.2.2.2 rfl);have hLBx : wr.heap[LB]? = some (.cells (ks.map (Value.int .i64)).toArray 3 (0, 0)) ∧ ¬ F LB ∧ ¬ G LB ∧ LB ≠ B ∧ LB ≠ OB ∧ LB ≠ C := by
   rcases HLB.o with q | q
   ·rw [q] at hlt; simp at hlt
   ·exact q
  have HLK := zh hLBx.1;replace HLB := zh hLBx.2;have hAx : A = some ⟨LB, 0, none⟩ := by
   rcases HA.o with q | q
   ·rw [q] at hlt; simp at hlt
   ·exact q
  subst hAx;clear hLBx HA;have t5 : decide ((j : Int) < ks.length) = true := decide_eq_true (by omega);have t6 : (0 : Int) ≤ (j : Int) := by omega
  have t7 : (j : Int) < (ks.length : Int) := by omega
  go_upto_region 39 with (fail);refine Zcv [9, 10, 11] [] (fun x => x.heap[OB]? = some (.cells #[.int .i64 7, .int .i64 tg, .int .i64 0, .slice Ai aJ.length ci, .slice Ak aK.length ck] Zls (0, 0)) ∧ x.heap[LB]? = some (.cells (ks.map (Value.int .i64)).toArray 3 (0, 0))) (by kernel_rfl) (fun W hW => ?_);have HL0 := zh (show Za wr W by rw [hW]; exact (Za.refl _).drew);clear hW;have HOB1 := zh (HOB.o.later HL0.o);have HLK1 := zB HL0 HLK;have HS := zh (And.intro HOB1.o.blk HLK1.o);clear HOB HL0 HLK;refine tV 0 170 (v := ?_) rfl rfl HS.o (fun x hx => ?_) ?_;rotate_left
  ·go_simp;first|done|with_reducible rfl
  simp only [Act.put, nA, nB, nC];refine tV 1 171 (v := ?_) rfl rfl HS.o (fun x hx => ?_) ?_;rotate_left
  ·have o3 := cell_of_row _ OB 3 _ _ _ hx.1; have fo3 := frozen_of_row _ OB 3 _ _ hx.1; have y0 := cell_of_row _ LB j _ _ _ hx.2; simp only [nD, nE, nF] at o3; rw [List.getElem?_toArray, List.getElem?_map, List.getElem?_eq_getElem hlt] at y0; simp only [Option.map_some] at y0; go_simp;first|done|with_reducible rfl
  simp only [Act.put, nA, nB, nC];refine tV 2 172 (v := ?_) rfl rfl HS.o (fun x hx => ?_) ?_;rotate_left
  ·go_simp;first|done|with_reducible rfl
  simp only [Act.put, nA, nB, nC];refine tV 3 173 (v := ?_) rfl rfl HS.o (fun x hx => ?_) ?_;rotate_left
  ·go_simp;first|done|with_reducible rfl
  simp only [Act.put, nA, nB, nC];refine tV 4 174 (v := ?_) rfl rfl HS.o (fun x hx => ?_) ?_;rotate_left
  ·go_simp;first|done|with_reducible rfl
  simp only [Act.put, nA, nB, nC];refine tV 5 175 (v := ?_) rfl rfl HS.o (fun x hx => ?_) ?_;rotate_left
  ·go_simp;first|done|with_reducible rfl|rw[if_neg (by omega)]|rw[if_pos (by omega)]
  simp only [Act.put, nA, nB, nC];refine tV 6 176 (v := ?_) rfl rfl HS.o (fun x hx => ?_) ?_;rotate_left
  ·have o3 := cell_of_row _ OB 3 _ _ _ hx.1; have fo3 := frozen_of_row _ OB 3 _ _ hx.1; have y0 := cell_of_row _ LB j _ _ _ hx.2; simp only [nD, nE, nF] at o3; rw [List.getElem?_toArray, List.getElem?_map, List.getElem?_eq_getElem hlt] at y0; simp only [Option.map_some] at y0; go_simp;first|done|with_reducible rfl
  simp only [Act.put, nA, nB, nC];refine Zbv 7 (by kernel_rfl) rfl rfl ?_;go_wp2_with fail;refine (Zfx C B w1 W (n + j) r cs F HOB1.o.sb (by omega) ks[j] (HKM.o _ (List.getElem_mem hlt))).mono ?_;rintro e W2 ⟨v, hv, rfl, r2, cs2, F2, hr2, hs2, ht2, hF2⟩;have HOB2 := zh (HOB1.o.inner hs2 ht2 hF2);have HSR2 := zh (hr2 HSR.o);have HFL := zh (show ¬ F2 LB from fun hf => by
   rcases hF2 LB hf with q | q
   ·exact HLB.o.1 q
   ·have := Zb HLK1.o; omega)
  have HLK2 := zh (ht2.has HLK1.o (by rintro (q | q | q); exact HLB.o.2.2.2.2 q; exact HLB.o.2.2.1 q; exact HLB.o.1 q));have HV := zh hv;clear hr2 hs2 ht2 hF2 hv HOB1 HLK1;replace HS := zh (And.intro HOB2.o.blk HLK2.o);go_wp2_with fail;refine ⟨HS.o, ?_⟩;refine Zbv 8 (by kernel_rfl) rfl rfl ?_;obtain ⟨tag2, vi', vk', e, -, -, -, hi, hk⟩ := id HOB2.o.sp;simp only [List.cons.injEq, and_true, Value.int.injEq, true_and] at e;obtain ⟨rfl, rfl⟩ := e;have HI2 : Hd (Zae Zd 6 Za9 (fun y => G y ∧ tag2 y = 0) _ aJ (.slice Ai aJ.length ci)) := zh hi;have HK2 : Hd (Zae Zd 6 Za9 (fun y => G y ∧ tag2 y = 1) _ aK (.slice Ak aK.length ck)) := zh hk;clear hi hk;have hlx : Za W2 (W2.alloc (.cells [.int .i64 v.kind, .int .i64 v.aH, .int .i64 v.index, .string v.text, .int .i64 v.set_.low, .int .i64 v.set_.high].toArray Za9)) := (Za.refl _).alloc _;have HXR := zh (HI2.o.keep Zj.is (fun _ h => h) (Zg.later hlx));have HXOB := zh ((hlx.block _ (Zb HOB2.o.blk)).trans HOB2.o.blk);have HLX := zh hlx;clear hlx;go_wp2_with fail;have HLK3 := zB HLX HLK2;refine ⟨And.intro HXOB.o HLK3.o, ?_⟩;refine Zc2 [_, _, _] (by kernel_rfl) rfl rfl ?_;simp only [List.getElem_toArray, List.getElem_cons_succ, List.getElem_cons_zero]
  go_wp2_with (at_builtin; refine Zan Zj rfl _ _ 27 rfl Za9 iV (.agg #[.int .i64 0, .int .i64 0, .int .i64 0, .string ⟨#[]⟩, .int .i64 0, .int .i64 0]) 56 Tryz.underlying27 hiV hzV0 hzV1 hzV2 rfl rfl HXR.o ⟨W2.heap.size, 0, none⟩ 1 rfl v [.int .i64 v.kind, .int .i64 v.aH, .int .i64 v.index, .string v.text, .int .i64 v.set_.low, .int .i64 v.set_.high] (Zcl W2 [.int .i64 v.kind, .int .i64 v.aH, .int .i64 v.index, .string v.text, .int .i64 v.set_.low, .int .i64 v.set_.high] Za9) (by intro u hu; simp at hu; rcases hu with rfl | rfl | rfl | rfl | rfl | rfl <;> rfl) (HV.o.el (fun _ => False) _) (fun y hg hf => hg.elim) (by omega) (by decide) ?_; intro v2 Y hrow hkp hb0; have hYB := (hkp.same OB (fun h => HGO.o h.1) (Zb HXOB.o)).trans HXOB.o; have y0 := cell_of_row _ OB 0 _ _ _ hYB; have y3 := cell_of_row _ OB 3 _ _ _ hYB; simp only [nD, nE, nF] at y0 y3; have yf := frozen_of_row _ OB 3 _ _ hYB; obtain ⟨A2, c2, rfl, -, -, -⟩ := id hrow)
  obtain ⟨G', hob2, hG'⟩ := HOB2.o.item HLX.o ⟨rfl, rfl, rfl, H64.o.1, H64.o.2.1, H64.o.2.2⟩ HK2.o hrow hkp hb0;simp only [List.length_append, List.length_cons, List.length_nil, Nat.zero_add] at hob2;have hlk4 := (hkp.same LB (fun h => HLB.o.2.1 h.1) (Zb HLK3.o)).trans HLK3.o;have hlk5 := (Below.heap_setCell Y ⟨OB, 3, none⟩ (Value.slice A2 (aJ.length + 1) c2) LB HLB.o.2.2.2.1).trans hlk4;have HFIN := zh (show ObL C B OB LB w1 n tg ks (j + 1) _ from ⟨_, _, _, _, _, _, _, G', hob2, HSI.o.push HV.o, HSK.o, HSR2.o, .inr ⟨hlk5, HFL.o, fun hg => (by
   rcases hG' LB hg with q | q
   ·exact HLB.o.2.1 q
   ·have := Zb HLK2.o; omega), HLB.o.2.2⟩⟩)
  clear hrow hkp hb0 hob2 hYB hlk4 hlk5 hG';go_wp2_with fail;refine Handed.intro (gk - 1) (by omega) (hJ _ _ _ ⟨j + 1, by omega, FrP.mk' rfl rfl rfl rfl rfl rfl rfl rfl rfl rfl rfl rfl rfl, HFIN.o⟩)
 ·have t5 : decide ((j : Int) < ks.length) = false := decide_eq_false (by omega);obtain ⟨r, cs, F, aJ, aK, vi, vk, G, h1, h2, h3, h4, -⟩ := ho;have HFIN := zh (show ObS C B OB w1 (n + 2) 7 tg 42 42 wr from ⟨r, cs, F, aJ, aK, _, _, G, ⟨h1.sb.mono (by omega), h1.blk, h1.sp, h1.fG, h1.oB⟩, h2.mono (by omega), h3.mono (by omega), h4⟩);clear h1 h2 h3 h4;go_wp2_with fail;exact ⟨7, tg, _, _, _, _, .inr ⟨by decide, by decide⟩, FrS.mk' rfl rfl rfl rfl rfl rfl rfl rfl rfl rfl rfl, HFIN.o.mono (by omega) (by omega) (by omega)⟩
end Go.Proofs.YtpmhelkiicigfaaGreatDoor
namespace Go.Proofs.YtpmhelkiicigfaaGreatDoor
open Go.RowKit
set_option maxRecDepth 1000000
set_option maxHeartbeats 8000000
theorem Zs6 {kd : Int} (h1 : 1 ≤ kd) (h9 : kd ≤ 9) {a : Act} {u10 : World} (C RB B OB : Nat) (v4 v5 v7 v8 v9 : Value) (w1 : World) (n : Nat) (hn : n ≤ 100) (hf : FrS C RB B v4 v5 (.pointer (some ⟨OB, 0, none⟩)) v7 v8 v9 (.int .i64 kd) a) (HO : Hd (ObS C B OB w1 n kd 0 40 40 u10)) :
  stSw.wp Tryz.prog (Zd2 (Zje C RB B OB v4 v5 w1 (n + 2))) a u10 := by
 rcases (show kd = 1 ∨ kd = 2 ∨ kd = 3 ∨ kd = 4 ∨ kd = 5 ∨ kd = 6 ∨ kd = 7 ∨ kd = 8 ∨ kd = 9 by omega) with rfl | rfl | rfl | rfl | rfl | rfl | rfl | rfl | rfl
 ·exact Zt0 C RB B OB v4 v5 v7 v8 v9 w1 n hn hf HO
 ·exact Zt1 C RB B OB v4 v5 v7 v8 v9 w1 n hn hf HO
 ·exact Zt6 C RB B OB v4 v5 v7 v8 v9 w1 n hn hf HO
 ·exact Zt2 C RB B OB v4 v5 v7 v8 v9 w1 n hn hf HO
 ·exact Zt3 C RB B OB v4 v5 v7 v8 v9 w1 n hn hf HO
 ·exact Zt4 C RB B OB v4 v5 v7 v8 v9 w1 n hn hf HO
 ·exact Zt8 C RB B OB v4 v5 v7 v8 v9 w1 n hn hf HO
 ·exact Zt7 C RB B OB v4 v5 v7 v8 v9 w1 n hn hf HO
 ·exact Zt5 C RB B OB v4 v5 v7 v8 v9 w1 n hn hf HO
theorem Zo6 {a : Act} {w : World} (C RB B : Nat) (v6 v7 v8 v9 v117 : Value) (w1 : World) (m : Nat) (hm : m ≤ 8) (hf : FrS C RB B (.int .i64 m) (.int .i64 0) v6 v7 v8 v9 v117 a) (HS : Hd (SbS C B w1 1 w)) :
  stOuter.wp Tryz.prog (Zd2 (Ztz C RB B (.int .i64 m) w1 25)) a w := by
 obtain ⟨f, rfl⟩ := hf.opn;clear hf
 conv => arg 2; whnf
 go_wp2_with fail;refine wp_loop_ghost_k (fun g a w => ∃ i : Nat, g + i = m ∧ ∃ v6 v7 v8 v9 v117, FrS C RB B (.int .i64 m) (.int .i64 i) v6 v7 v8 v9 v117 a ∧ SbS C B w1 (1 + 3 * i) w) m ⟨0, by omega, _, _, _, _, _, FrS.mk' rfl rfl rfl rfl rfl rfl rfl rfl rfl rfl rfl, HS.o⟩ ?_;clear HS v6 v7 v8 v9 v117 f;rintro gk a wr ⟨i, hg, v6, v7, v8, v9, v117, hf, ho⟩ J K hJ hK;obtain ⟨f, rfl⟩ := hf.opn
 by_cases hlt2 : i < m
 ·have t1 : decide ((i : Int) < m) = true := decide_eq_true (by omega);obtain ⟨n, hn, hnb⟩ : ∃ n, n = 1 + 3 * i ∧ n ≤ 25 := ⟨_, rfl, by omega⟩;rw [← hn] at ho;have HN := zh hn;have HS := zh ho;clear ho hf hn;go_wp2_with fail;refine (Z0 C wr HS.o.cur 5 (by omega)).mono ?_;rintro e u1 ⟨_, ⟨x, hx0, hx1, rfl⟩, rfl, hc, hd⟩;have HS1 := zh (HS.o.draw hd hc);clear hc hd HS t1;obtain ⟨kd, hkd, hk0, hk1⟩ : ∃ kd : Int, 2 + x = kd ∧ 2 ≤ kd ∧ kd ≤ 6 := ⟨2 + x, rfl, by omega, by omega⟩;have t2 : wrap64 (2 + x) = kd := by unfold wrap64; omega
  obtain ⟨u2, hu2⟩ : ∃ y, y = u1.alloc (.cells #[.int .i64 kd, .int .i64 0, .int .i64 0, .slice none 0 0, .slice none 0 0] Zls) := ⟨_, rfl⟩;have ho := ObS.start HS1.o (inK kd (by omega) (by omega));rw [← hu2] at ho;obtain ⟨OB, hOB⟩ : ∃ b, b = u1.heap.size := ⟨_, rfl⟩;rw [← hOB] at ho;have HO := zh ho;clear ho HS1;go_upto_region 9 with (fail);rw [← hu2, ← hOB];clear hu2 hOB t2 hkd hx0 hx1;go_wp2_with fail;refine (Zci C u2 HO.o.cur 4 (by omega)).mono ?_;rintro e u3 ⟨_, ⟨b, rfl⟩, rfl, hc, hd⟩;have HO3 := zh (HO.o.draw hd hc);clear hc hd HO
  go_upto_if 53 with (fail)
  go_cut [] from 43 to 200 (fun wc => ∃ kd : Int, 1 ≤ kd ∧ kd ≤ 9 ∧ ObS C B OB w1 n kd 0 0 0 wc)
  case first =>
   cases b with
   | false =>
    go_wp2_with fail
    go_meet
    exact ⟨kd, by omega, by omega, HO3.o⟩
   | true =>
    go_wp2_with fail;refine (Zdc C _ (HO3.o.cur.later ((Za.refl _).alloc _)) (fun y => 1 ≤ y ∧ y ≤ 9) [1, 8, 9, 7, 7] (by simp) (by simp) u3.heap.size (heap_alloc_new _ _) (by have := HO3.o.cur.lt; omega) (by decide)).mono ?_;rintro e u4 ⟨_, ⟨z, ⟨hz0, hz1⟩, rfl⟩, rfl, hc, hd⟩;have HO4 := zh ((HO3.o.later ((Za.refl _).alloc _)).draw hd hc);clear hc hd HO3;obtain ⟨Ai, li, ci, Ak, lk, ck, -, -, hblk⟩ := HO4.o.cells;have o0 := cq hblk 0;have fo0 := fz hblk;simp only [List.getElem?_toArray, List.getElem?_cons_zero] at o0;have HFIN := zh (HO4.o.setKind z (inK z (by omega) (by omega)));clear hblk;go_wp2_with fail
    go_meet
    exact ⟨z, by omega, by omega, HFIN.o⟩
  case rest =>
  obtain ⟨u5, hnm⟩ : ∃ x, x = wc := ⟨_, rfl⟩;rw [← hnm] at hcut ⊢;clear hnm wc;clear HO3 hk0 hk1;obtain ⟨kd2, hk0, hk1, ho⟩ := hcut;have HO := zh ho;clear ho;go_wp2_with fail;refine (Z0 C u5 HO.o.cur 5 (by omega)).mono ?_;rintro e u6 ⟨_, ⟨y, hy0, hy1, rfl⟩, rfl, hc, hd⟩;have HO6 := zh (HO.o.draw hd hc);clear hc hd HO;obtain ⟨k0, rfl⟩ : ∃ k0 : Nat, y = k0 := ⟨y.toNat, by omega⟩;go_wp2_with fail;refine (Zci C u6 HO6.o.cur 30 (by omega)).mono ?_;rintro e u7 ⟨_, ⟨b2, rfl⟩, rfl, hc, hd⟩;have HO7 := zh (HO6.o.draw hd hc);clear hc hd HO6
  go_upto_if 61 with (fail)
  go_cut [7] from 43 to 200 (fun v wc => ∃ k : Nat, v = .int .i64 k ∧ k ≤ 40 ∧ ObS C B OB w1 n kd2 0 0 0 wc)
  case first =>
   cases b2 with
   | false =>
    go_wp2_with fail
    go_meet
    exact ⟨k0, rfl, by omega, HO7.o⟩
   | true =>
    go_wp2_with fail;refine (Z0 C u7 HO7.o.cur 3 (by omega)).mono ?_;rintro e u8 ⟨_, ⟨y, hz0, hz1, rfl⟩, rfl, hc, hd⟩;have HO8 := zh (HO7.o.draw hd hc);clear hc hd HO7;obtain ⟨y0, rfl⟩ : ∃ k0 : Nat, y = k0 := ⟨y.toNat, by omega⟩;obtain ⟨kk, hkk, hkk2⟩ : ∃ kk : Nat, 38 + (y0 : Int) = kk ∧ kk ≤ 40 := ⟨38 + y0, by omega, by omega⟩;go_wp2_with fail
    go_meet
    exact ⟨kk, rfl, hkk2, HO8.o⟩
  case rest =>
  obtain ⟨u9, hnm⟩ : ∃ x, x = wc := ⟨_, rfl⟩;rw [← hnm] at hcut ⊢;clear hnm wc;clear HO7;obtain ⟨k, rfl, hk40, ho⟩ := hcut;have HO := zh ho;clear ho hy0 hy1
  go_upto_block 2 with (fail)
  refine Zjy (Zo5 C RB B OB _ _ _ _ w1 n k hk40 kd2 hk0 (by omega) (FrS.mk' rfl rfl rfl rfl rfl rfl rfl rfl rfl rfl rfl) HO) ?_;clear HO;rintro a' w' ⟨v9, v117, hf, ho⟩;obtain ⟨f, rfl⟩ := hf.opn;have HO := zh (ho.mono (m := n) (mi' := 40) (mk' := 40) (Nat.le_refl _) hk40 hk40);clear ho hf;obtain ⟨Ai, li, ci, Ak, lk, ck, -, -, hblk⟩ := HO.o.cells;have o0 := cq hblk 0;simp only [List.getElem?_toArray, List.getElem?_cons_zero] at o0;clear hblk
  go_upto_block 4 with (fail)
  refine Zjy (Zs6 hk0 hk1 C RB B OB _ _ _ _ _ w1 n (by omega) (FrS.mk' rfl rfl rfl rfl rfl rfl rfl rfl rfl rfl rfl) HO) ?_;clear HO o0;rintro a' u20 ⟨kd, tg, v7, v8, v9, v117, hkt, hf, ho⟩;obtain ⟨f, rfl⟩ := hf.opn;have HO := zh ho;clear ho hf;obtain ⟨r, cs, F, aJ, aK, vi, vk, G, h1, h2, h3, h4⟩ := HO.o;obtain ⟨tag, vi', vk', e, i0, i1, i2, hi, hk⟩ := id h1.sp;simp only [List.cons.injEq, and_true, Value.int.injEq, true_and] at e;obtain ⟨rfl, rfl⟩ := e;obtain ⟨Ai, ci, rfl, hci, hcim, -⟩ := id hi;obtain ⟨Ak, ck, rfl, hck, hckm, -⟩ := id hk;have hli : aJ.length ≤ 42 := h2.len;have hlk : aK.length ≤ 42 := h3.len;have HOB := zh h1;have HI : Hd (Zae Zd 6 Za9 (fun y => G y ∧ tag y = 0) _ aJ (.slice Ai aJ.length ci)) := zh hi;have HK : Hd (Zae Zd 6 Za9 (fun y => G y ∧ tag y = 1) _ aK (.slice Ak aK.length ck)) := zh hk;have HSI := zh h2;have HSK := zh h3;have HSR := zh h4;have H64 := zh (And.intro i0 (And.intro i1 i2));clear h1 h2 h3 h4 hi hk i0 i1 i2 HO;unfold maxLen at hcim hckm;have HXO := zh HOB.o.blk;obtain ⟨o0, o1, o2, o3, o4⟩ := cz5 HXO.o;go_wp2_with fail;refine (Zfe C B w1 u20 (n + 2) r cs F G _ _ HOB.o.sb (by omega) HOB.o.sp (fun b hb => ⟨(HOB.o.fG b hb).1, (HOB.o.fG b hb).2.1, (HOB.o.fG b hb).2.2.1, (HOB.o.fG b hb).2.2.2.1⟩) (hkt.imp (fun h => ⟨h.1, h.2, rfl⟩) id) (HSI.o.mono (by omega)) (HSK.o.mono (by omega))).mono ?_;rintro e u21 ⟨rfl, cs', F', hs', -, -⟩;have HFIN := zh (show SbS C B w1 (1 + 3 * (i + 1)) u21 from ⟨_, cs', F', hs'.mono (by have := HN.o; omega), Rs.new HSR.o.1⟩)
  clear hs';go_wp2_with fail;refine Handed.intro (gk - 1) (by omega) (hJ _ _ _ ⟨i + 1, by omega, _, _, _, _, _, FrS.mk' rfl rfl rfl rfl rfl rfl rfl rfl rfl rfl rfl, HFIN.o⟩)
 ·have t1 : decide ((i : Int) < m) = false := decide_eq_false (by omega);have HFIN := zh (ho.mono (m := 25) (by omega));clear ho hf;go_wp2_with fail;exact ⟨_, _, _, _, _, _, FrS.mk' rfl rfl rfl rfl rfl rfl rfl rfl rfl rfl rfl, HFIN.o⟩
end Go.Proofs.YtpmhelkiicigfaaGreatDoor
namespace Go.Proofs.YtpmhelkiicigfaaGreatDoor
open Go.RowKit
theorem Zsa {w : World} {b : Nat} {x : Int} (hb : w.heap[b]? = some (.cells #[.int .i64 x, .int .i64 0] 89 (0, 0))) (hx : Zs x) (F : Nat → Prop) (hF : F b) :
  Zae Zch 2 89 F w [⟨x, 0⟩] (.slice (some ⟨b, 0, none⟩) 1 1) := by
 refine ⟨_, 1, rfl, Nat.le_refl _, by unfold maxLen; omega, fun _ => ⟨b, 0, _, fun _ => 0, rfl, hF, hb, ⟨rfl, by simp⟩, fun i hi => ?_⟩⟩;have hi0 : i = 0 := by simp at hi; exact hi
 subst hi0;refine ⟨[.int .i64 x, .int .i64 0], ⟨rfl, hx, in0⟩, fun j y hy => ?_⟩;rw [List.getElem?_toArray]
 simpa using hy
/-- A Store under way, its aA at least one. -/
def SbT (C B : Nat) (w1 : World) (n : Nat) (w : World) : Prop := ∃ r cs F, Sb C B w1 w n r cs F ∧ 1 ≤ r.aA.length
section
variable {C B n : Nat} {w0 w x : World} {r : Zf} {cs : List Value} {F : Nat → Prop}
theorem SbS.t (h : SbS C B w0 n w) : SbT C B w0 n w := by
 obtain ⟨r, cs, F, h1, h2⟩ := h;exact ⟨r, cs, F, h1, h2.2⟩
theorem SbT.draw (h : SbT C B w0 n w) (hd : Zbs C w x) (hc : Cur C x) : SbT C B w0 n x := by
 obtain ⟨r, cs, F, h1, h2⟩ := h;exact ⟨r, cs, F, h1.draw hd hc, h2⟩
theorem SbT.cur (h : SbT C B w0 n w) : Cur C w := by
 obtain ⟨r, cs, F, h1, h2⟩ := h;exact h1.cur
theorem SbS.acts (h : SbS C B w0 n w) {l : List Zc0} {v : Value} (hl : Za w x) (hrow : Zae Zch 2 89 (fun y => w.heap.size ≤ y) x l v) (hlen : l.length ≤ 1) : SbT C B w0 n (x.setCell ⟨B, 8, none⟩ v) := by
 obtain ⟨r, cs, F, h1, h2⟩ := h;obtain ⟨cs', F', h3⟩ := h1.acts hl hrow hlen h2.1;exact ⟨_, cs', F', h3, h2.2⟩
/-- The cells of a Store under way. -/
theorem Sb.cells (h : Sb C B w0 w n r cs F) : ∃ v0 v1 v2 v3 v6 v7 v8, cs = [v0, v1, v2, v3, .string r.aC, .int .i64 r.aD, v6, v7, v8, .bool r.aF, .int .i64 r.ticks, .int .i64 r.aG, .int .i64 r.made] ∧ w.heap[B]? = some (.cells #[v0, v1, v2, v3, .string r.aC, .int .i64 r.aD, v6, v7, v8, .bool r.aF, .int .i64 r.ticks, .int .i64 r.aG, .int .i64 r.made] 30 (0, 0)) := by
 obtain ⟨hblk, ⟨tag, v0, v1, v2, v3, v6, v7, v8, rfl, -⟩, -⟩ := h.st;exact ⟨v0, v1, v2, v3, v6, v7, v8, rfl, hblk⟩
/-- The tag of an object is set. -/
theorem Sb.tag (h : Sb C B w0 w n r cs F) {j : Nat} {z : Int} (hj : j < r.aA.length) (hz : Zs z) :
  ∃ b c, cs[2]? = some (.slice (some ⟨b, 0, none⟩) r.aA.length c) ∧ r.aA.length ≤ c ∧ c ≤ maxLen ∧ (∃ u, w.cell? ⟨b, j * 5 + 1, none⟩ = some u) ∧ w.frozen? ⟨b, j * 5 + 1, none⟩ = false ∧ b ≠ C ∧ b ≠ B ∧ b < w.heap.size ∧ SbT C B w0 n (w.setCell ⟨b, j * 5 + 1, none⟩ (.int .i64 z)) := by
 have hC := h.hC;obtain ⟨hblk, ⟨tag, aL, aM, aN, aO, aP, aQ, aR, rfl, aV, aW, aX, aY, aZ, bA, bB, bD, bE, bF, bG, bH⟩, hnB⟩ := h.st;obtain ⟨_, c0, e0, hc0, hcm, -⟩ := id aX;obtain ⟨b, n', c, rfl, hb, rfl, hc, hu, hf, hrow⟩ := aX.tagAt hj hz;have hbF := hb.1;have hbw := (h.fF b hbF);have hbB : b ≠ B := fun e => hnB (e ▸ hbF);have ht : Tch (fun y => y = b) w (w.setCell ⟨b, j * 5 + 1, none⟩ (.int .i64 z)) := Tch.set (P := fun y => y = b) (Tch.refl _ _) rfl _ _;have hk : ∀ i, i ≠ 2 → Zg (fun y => F y ∧ tag y = i) w (w.setCell ⟨b, j * 5 + 1, none⟩ (.int .i64 z)) := fun i hi => ht.keeps fun y hy e => hi (by rw [← hy.2, e]; exact hb.2);simp only [Value.slice.injEq] at e0;obtain ⟨-, -, rfl⟩ := e0;refine ⟨b, c, rfl, hc, hcm, hu, hf, by omega, hbB, hbw.2, { r with aA := r.aA.set j { r.aA[j] with tag := z } }, _, F, ⟨⟨?_, ⟨tag, aL, aM, _, aO, aP, aQ, aR, rfl, aV.keep Zt.is (fun _ h => h) (hk 0 (by decide)), aW.keep Zv.is (fun _ h => h) (hk 1 (by decide)), hrow, aY.keep Zj.is (fun _ h => h) (hk 3 (by decide)), aZ, bA, bB.keep Zt.is (fun _ h => h) (hk 4 (by decide)), bD.keep Zt.is (fun _ h => h) (hk 5 (by decide)), bE.keep Zav.is (fun _ h => h) (hk 6 (by decide)), bF, bG, bH⟩, hnB⟩, fun y hy => ⟨(h.fF y hy).1, by simpa using (h.fF y hy).2⟩, ⟨by rw [List.length_set]; exact h.bd.len, h.bd.made0, h.bd.made1, fun o ho => ?_, h.bd.rest⟩, h.cur.keep ht (fun y hy e => by omega), h.hC, h.hB, Tch.trans h.tch ht (fun _ h => h) (fun y _ e => .inr (by omega))⟩, by rw [List.length_set]; omega⟩
 ·exact (ht.keep.same B (fun e => hbB e.symm) (Zb hblk)).trans hblk
 ·rcases List.mem_or_eq_of_mem_set ho with h1 | rfl
  ·exact h.bd.obj o h1
  ·exact h.bd.obj r.aA[j] (List.getElem_mem hj)
end
/-- A Store that is done: it can be read. -/
def StX (C B : Nat) (w0 w : World) : Prop := ∃ r cs F, Z1 F w B r cs ∧ (∀ b, F b → w0.heap.size ≤ b ∧ b ≠ B ∧ b < w.heap.size) ∧ Zai r ≤ 500000 ∧ r.aA.length ≤ 1000 ∧ Cur C w ∧ C < w0.heap.size ∧ w0.heap.size ≤ B ∧ Tch (fun b => b = C ∨ w0.heap.size ≤ b) w0 w
section
variable {C B n : Nat} {w0 w x : World}
theorem SbT.done (h : SbT C B w0 n w) (hn : n ≤ 40) : StX C B w0 w := by
 obtain ⟨r, cs, F, h1, h2⟩ := h;exact ⟨r, cs, F, h1.st.at_, fun b hb => ⟨(h1.fF b hb).1, fun e => h1.st.nB (e ▸ hb), (h1.fF b hb).2⟩, h1.bd.size hn, by have := h1.bd.len; omega, h1.cur, h1.hC, h1.hB, h1.tch⟩
theorem Zp.drop1 {α : Type} {El : Zcg α} {size : Nat} {F : Nat → Prop} {w : World} {l : List α} {b n c : Nat} (h : Zp El size F w l (.slice (some ⟨b, 0, none⟩) n c)) (hn : 1 ≤ n) (A : Option Addr) (hA : A = some ⟨b, size, none⟩ ∨ c = 1) : Zp El size F w (l.drop 1) (.slice A (n - 1) (c - 1)) := by
 obtain ⟨A0, c0, e, h1, h2, h3⟩ := h;simp only [Value.slice.injEq] at e;obtain ⟨rfl, rfl, rfl⟩ := e;refine ⟨A, c - 1, by rw [List.length_drop], by rw [List.length_drop]; omega, by omega, fun i hi => ?_⟩;rw [List.length_drop] at hi;obtain ⟨b1, o1, cs, e, h4, h5, h6, h7⟩ := h3 (i + 1) (by omega);simp only [Option.some.injEq, Addr.mk.injEq, and_true] at e;obtain ⟨rfl, rfl⟩ := e
 rcases hA with rfl | hA
 ·refine ⟨b, size, cs, rfl, h4, h5, by rw [List.getElem_drop]; simpa [Nat.add_comm] using h6, fun j y hy => ?_⟩;rw [← h7 j y hy]
  congr 2
  rw [Nat.succ_mul]
  omega
 ·omega
theorem Znc {α : Type} (sz : α → Nat) (l : List α) : Zo sz (l.drop 1) ≤ Zo sz l := by
 cases l with
 | nil => exact Nat.le_refl _
 | cons a l => simp only [Zo, Za0, List.drop_succ_cons, List.drop_zero, List.length_cons]; omega
/-- The first object is cut off. -/
theorem SbT.cut (h : SbT C B w0 n w) (hn : n ≤ 40) : ∃ v0 v1 b ln c v3 v4 v5 v6 v7 v8 v9 v10 v11 v12, w.heap[B]? = some (.cells #[v0, v1, .slice (some ⟨b, 0, none⟩) ln c, v3, v4, v5, v6, v7, v8, v9, v10, v11, v12] 30 (0, 0)) ∧ 1 ≤ ln ∧ ln ≤ c ∧ c ≤ maxLen ∧
  ∀ A, (A = some ⟨b, 5, none⟩ ∨ c = 1) → StX C B w0 (w.setCell ⟨B, 2, none⟩ (.slice A (ln - 1) (c - 1))) := by
 obtain ⟨r, cs, F, h1, h2⟩ := h;have hC := h1.hC;have hB := h1.hB;have hsz := h1.bd.size hn;have hln := h1.bd.len;have hBk := h1.st.blk;obtain ⟨tag, aL, aM, aN, aO, aP, aQ, aR, rfl, aV, aW, aX, aY, aZ, bA, bB, bD, bE, bF, bG, bH⟩ := id h1.st.sp;obtain ⟨_, c, rfl, hc, hcm, hrow⟩ := id aX;obtain ⟨b, o, cur, tg, rfl, hb, hblk, ⟨rfl, hcs⟩, hel⟩ := hrow (by omega);refine ⟨_, _, b, _, c, _, _, _, _, _, _, _, _, _, _, hBk, h2, hc, hcm, fun A hA => ?_⟩;have ht : Tch (fun y => y = B) w (w.setCell ⟨B, 2, none⟩ (.slice A (r.aA.length - 1) (c - 1))) := Tch.set (P := fun y => y = B) (Tch.refl _ _) rfl _ _;have hk : Zg F w (w.setCell ⟨B, 2, none⟩ (.slice A (r.aA.length - 1) (c - 1))) := ht.keeps fun y hy e => h1.st.nB (e ▸ hy);obtain ⟨_, _, _, _, _, _, _, e, q0, q1, q2, q3, q4, q5, q6, q7, q8, q9, q10, q11⟩ := Zba.el h1.st.sp;simp only [List.cons.injEq, and_true, true_and] at e;obtain ⟨rfl, rfl, rfl, rfl, rfl, rfl, rfl⟩ := e;refine ⟨{ r with aA := r.aA.drop 1 }, _, F, ⟨?_, ⟨_, _, _, _, _, _, _, rfl, q0.keep Zad (fun _ h => h) hk, q1.keep Zbh (fun _ h => h) hk, (q2.drop1 h2 A hA).keep Zb4 (fun _ h => h) hk, q3.keep Zc (fun _ h => h) hk, q4, q5, q6.keep Zad (fun _ h => h) hk, q7.keep Zad (fun _ h => h) hk, q8.keep Zb5 (fun _ h => h) hk, q9, q10, q11⟩⟩, fun y hy => ⟨(h1.fF y hy).1, fun e => h1.st.nB (e ▸ hy), by simpa using (h1.fF y hy).2⟩, ?_, by rw [List.length_drop]; omega, h1.cur.keep ht (fun y hy e => by omega), hC, hB, Tch.trans h1.tch ht (fun _ h => h) (fun y _ e => .inr (by omega))⟩
 ·have := Zaj (o := 2) hBk (.slice A (r.aA.length - 1) (c - 1))
  simpa using this
 ·have := Znc Z3 r.aA;unfold Zai at hsz ⊢;show Zo ByteArray.size r.names + (Zo Z5 r.aB + (Zo Z3 (r.aA.drop 1) + (Zo Zah r.globals + (r.aC.size + (Zo ByteArray.size r.output + (Zo ByteArray.size r.trace + Zo (fun _ => 0) r.aE)))))) ≤ 500000
  omega
end
end Go.Proofs.YtpmhelkiicigfaaGreatDoor
namespace Go.Proofs.YtpmhelkiicigfaaGreatDoor
open Go.RowKit
set_option maxRecDepth 1000000
set_option maxHeartbeats 8000000
def Zo7 (C : Nat) (w : World) (e : Ending) (w' : World) : Prop :=
 ∃ r cs F, e = .returned (.agg cs.toArray) ∧ Zb1 F w' r cs ∧ Zai r ≤ 500000 ∧ r.aA.length ≤ 1000 ∧ Cur C w' ∧ Zbs C w w' ∧ ∀ b, F b → w.heap.size ≤ b ∧ b < w'.heap.size
theorem Zj8 (C : Nat) (w : World) (hcur : Cur C w) :
  Calls Tryz.prog 86 #[.pointer (some ⟨C, 0, none⟩)] w (Zo7 C w) := by
 have hlt := hcur.lt;obtain ⟨w1, hw1⟩ : ∃ x, x = w.alloc (.cells #[.slice none 0 0, .slice none 0 0, .slice none 0 0, .slice none 0 0, .string ⟨#[]⟩, .int .i64 0, .slice none 0 0, .slice none 0 0, .slice none 0 0, .bool false, .int .i64 0, .int .i64 0, .int .i64 0] 30) := ⟨_, rfl⟩;have hl1 : Za w w1 := by rw [hw1]; exact (Za.refl _).alloc _
 have HR1 := zh (show w1.heap[w.heap.size]? = some (.cells #[.slice none 0 0, .slice none 0 0, .slice none 0 0, .slice none 0 0, .string ⟨#[]⟩, .int .i64 0, .slice none 0 0, .slice none 0 0, .slice none 0 0, .bool false, .int .i64 0, .int .i64 0, .int .i64 0] 30 (0, 0)) by rw [hw1]; exact heap_alloc_new _ _);have HC1 := zh (hcur.later hl1);have HSZ1 := zh (show w1.heap.size = w.heap.size + 1 by rw [hw1]; simp);have HL1 := zh hl1;clear hcur hl1;obtain ⟨iV, hiV, hzV0, hzV1, hzV2⟩ := info_parts Zb9;go_enter Tryz.func86, Tryz.ntmps86;go_upto_region 1 with (fail);rw [← hw1];clear hw1;obtain ⟨wa, hwa⟩ : ∃ x, x = ((w1.alloc (.cells #[.string ⟨#[109, 97, 105, 110]⟩, .string ⟨#[102]⟩] 9)).alloc (.cells #[.string ⟨#[117]⟩, .string ⟨#[118]⟩] 9)).alloc (.cells #[.string ⟨#[112, 111, 105, 110, 116]⟩, .slice (some ⟨w1.heap.size + 1, 0, none⟩) 2 2, .int .i64 0] 136) := ⟨_, rfl⟩;have hN1 : wa.heap[w1.heap.size]? = some (.cells #[.string ⟨#[109, 97, 105, 110]⟩, .string ⟨#[102]⟩] 9 (0, 0)) := by rw [hwa]; exact ((((Za.refl _).alloc _).alloc _).block _ (by simp)).trans (heap_alloc_new _ _)
 have hN2 : wa.heap[w1.heap.size + 1]? = some (.cells #[.string ⟨#[117]⟩, .string ⟨#[118]⟩] 9 (0, 0)) := by rw [hwa]; exact (((Za.refl _).alloc _).block _ (by simp)).trans (Zz (by simp))
 have hN3 : wa.heap[w1.heap.size + 1 + 1]? = some (.cells #[.string ⟨#[112, 111, 105, 110, 116]⟩, .slice (some ⟨w1.heap.size + 1, 0, none⟩) 2 2, .int .i64 0] 136 (0, 0)) := by rw [hwa]; exact Zz (by simp)
 have hla : Za w1 wa := by rw [hwa]; exact (((Za.refl _).alloc _).alloc _).alloc _
 have HSZA := zh (show wa.heap.size = w1.heap.size + 3 by rw [hwa]; simp);have HN1 := zh hN1;have HN2 := zh hN2;have HN3 := zh hN3;have HLA := zh hla;clear hN1 hN2 hN3 hla;go_wp2_with fail;rw [← hwa];clear hwa;refine (Zbd 3 wa).mono ?_;rintro e w2 ⟨rfl, hl2⟩;obtain ⟨wb, hwb⟩ : ∃ x, x = (w2.alloc (.cells #[.int .i64 0, .int .i64 0, .int .i64 0, .string ⟨#[]⟩, .int .i64 0, .int .i64 0, .int .i64 1, .int .i64 3, .int .i64 0, .string ⟨#[]⟩, .int .i64 0, .int .i64 0] 34)).alloc (.cells #[.string ⟨#[]⟩, .string ⟨#[98, 97, 110, 97, 110, 97]⟩, .string ⟨#[97, 98, 44, 99]⟩] 9) := ⟨_, rfl⟩;have hlb : Za w2 wb := by rw [hwb]; exact ((Za.refl _).alloc _).alloc _
 have HN4 := zh (show wb.heap[w2.heap.size]? = some (.cells #[.int .i64 0, .int .i64 0, .int .i64 0, .string ⟨#[]⟩, .int .i64 0, .int .i64 0, .int .i64 1, .int .i64 3, .int .i64 0, .string ⟨#[]⟩, .int .i64 0, .int .i64 0] 34 (0, 0)) by rw [hwb]; exact ((Za.refl _).alloc _).block _ (by simp) |>.trans (heap_alloc_new _ _));have hN5 : wb.heap[w2.heap.size + 1]? = some (.cells #[.string ⟨#[]⟩, .string ⟨#[98, 97, 110, 97, 110, 97]⟩, .string ⟨#[97, 98, 44, 99]⟩] 9 (0, 0)) := by rw [hwb]; exact Zz (by simp)
 have hl := hl2.trans hlb;have HS2 := zh hl2.size;have HN1 := zC hl HN1;have HN2 := zC hl HN2;have HN3 := zC hl HN3;have HLB := zh (HLA.o.trans hl);have HCB := zh ((HC1.o.later HLA.o).later hl);have HN5 := zh hN5;clear hl2 hlb hN5 hl;go_wp2_with fail;rw [← hwb];refine (Zc9 C wb HCB.o (fun s => s.size ≤ 10) [⟨#[]⟩, ⟨#[98, 97, 110, 97, 110, 97]⟩, ⟨#[97, 98, 44, 99]⟩] (by simp) (by simp) (w2.heap.size + 1) HN5.o (by have := HS2.o; have := HSZA.o; have := HSZ1.o; omega) (by decide)).mono ?_;clear hwb;rintro e w3 ⟨_, ⟨s, hs, rfl⟩, rfl, hc3, hd3⟩;have hz : w.heap.size + 4 ≤ w2.heap.size := by have := HS2.o; have := HSZA.o; have := HSZ1.o; omega
 have HN1 := zh (hd3.has HN1.o (by have := HSZ1.o; omega));have HN2 := zh (hd3.has HN2.o (by have := HSZ1.o; omega));have HN3 := zh (hd3.has HN3.o (by have := HSZ1.o; omega));have HN4 := zh (hd3.has HN4.o (by omega));have HD3 := zh (Tch.fl HLB.o hd3);have HC3 := zh hc3;clear hc3 hd3 HN5 HCB HLB;go_wp2_with fail;refine (Z0 C w3 HC3.o 9 (by omega)).mono ?_;rintro e w4 ⟨_, ⟨t, ht0, ht1, rfl⟩, rfl, hc4, hd4⟩;have HN1 := zh (hd4.has HN1.o (by have := HSZ1.o; omega));have HN2 := zh (hd4.has HN2.o (by have := HSZ1.o; omega));have HN3 := zh (hd4.has HN3.o (by have := HSZ1.o; omega));have HN4 := zh (hd4.has HN4.o (by omega));have HD4 := zh (HD3.o.tr hd4);have HC4 := zh hc4;clear hc4 hd4 HC3 HD3;obtain ⟨w5, hw5⟩ : ∃ x, x = w4.alloc (.cells #[.slice (some ⟨w1.heap.size, 0, none⟩) 2 2, .slice (some ⟨w1.heap.size + 1 + 1, 0, none⟩) 1 1, .slice none 0 0, .slice (some ⟨w2.heap.size, 0, none⟩) 2 2, .string s, .int .i64 1, .slice none 0 0, .slice none 0 0, .slice none 0 0, .bool false, .int .i64 t, .int .i64 400, .int .i64 0] 30) := ⟨_, rfl⟩;have hl5 : Za w4 w5 := by rw [hw5]; exact (Za.refl _).alloc _
 have hblk5 : w5.heap[w4.heap.size]? = some (.cells #[.slice (some ⟨w1.heap.size, 0, none⟩) 2 2, .slice (some ⟨w1.heap.size + 1 + 1, 0, none⟩) 1 1, .slice none 0 0, .slice (some ⟨w2.heap.size, 0, none⟩) 2 2, .string s, .int .i64 1, .slice none 0 0, .slice none 0 0, .slice none 0 0, .bool false, .int .i64 t, .int .i64 400, .int .i64 0] 30 (0, 0)) := by rw [hw5]; exact heap_alloc_new _ _
 have hz4 := Zb HN4.o;have hst := Znb (w := w5) s t (by omega) (inK t (by omega) (by omega)) ((hl5.block _ (Zb HN1.o)).trans HN1.o) ((hl5.block _ (Zb HN2.o)).trans HN2.o) ((hl5.block _ (Zb HN3.o)).trans HN3.o) ((hl5.block _ (Zb HN4.o)).trans HN4.o) hblk5 (by omega) (by omega) (by have := HSZ1.o; omega) hz4;have hsz5 := Zb hblk5;have HSB := zh (Sb.start (n := 0) (w0 := w1) hst (by have := HSZ1.o; rintro b (rfl | rfl | rfl | rfl) <;> exact ⟨by omega, by omega⟩) (Ztl s t (by omega)) (HC4.o.later hl5) (by have := HSZ1.o; omega) (by have := HSZ1.o; omega) ((HD4.o.la hl5).mono fun b _ e => .inl e));obtain ⟨B, hB⟩ : ∃ B, B = w4.heap.size := ⟨_, rfl⟩;rw [← hB] at HSB hblk5;have HBLK5 := zh hblk5;clear hl5 hst hsz5 hblk5 HN1 HN2 HN3 HN4 HD4 HC4 hz4 hz;go_upto_region 2 with (fail);rw [← hw5, ← hB];clear hw5 hB;have b4 := cq HBLK5.o 4;simp only [nD, nE, nF] at b4;have hs2 : s.size ≤ 10 := hs;have e1 : wrap64 ((s.size : Int) + 1) = ((s.size + 1 : Nat) : Int) := by unfold wrap64; omega
 go_wp2_with fail;refine (Z0 C w5 HSB.o.cur (s.size + 1) (by omega)).mono ?_;rintro e w6 ⟨_, ⟨ps, hp0, hp1, rfl⟩, rfl, hc6, hd6⟩;have hbC := HSB.o.bC;have HSB6 := zh (HSB.o.draw hd6 hc6);have hblk6 := hd6.has HBLK5.o hbC;have b5 := cq hblk6 5;have fb5 := fz hblk6;simp only [nD, nE, nF] at b5;clear b4 e1 HSB HBLK5 hc6 hd6 hblk6;have t1 : wrap64 (1 + ps) = 1 + ps := by unfold wrap64; omega
 obtain ⟨cs7, hsb7⟩ := HSB6.o.pos (1 + ps) (inK _ (by omega) (by omega));have HSB7 := zh hsb7;clear hsb7;obtain ⟨w7, hw7⟩ : ∃ x, x = w6.setCell ⟨B, 5, none⟩ (.int .i64 (1 + ps)) := ⟨_, rfl⟩;obtain ⟨r7, hr7⟩ : ∃ x, x = { r0 s t with aD := 1 + ps } := ⟨_, rfl⟩;have hsr7 : Zfw r7 ≤ 1000 := by
  rw [hr7];show Zo ByteArray.size [⟨#[109, 97, 105, 110]⟩, ⟨#[102]⟩] + (Zo Z5 [⟨⟨#[112, 111, 105, 110, 116]⟩, [⟨#[117]⟩, ⟨#[118]⟩], 0⟩] + (Zo Zah [⟨0, 0, 0, ⟨#[]⟩, ⟨0, 0⟩⟩, ⟨1, 3, 0, ⟨#[]⟩, ⟨0, 0⟩⟩] + (s.size + (Zo ByteArray.size [] + (Zo ByteArray.size [] + Zo (fun _ => 0) ([] : List Zc0)))))) ≤ 1000;have h1 : Zo ByteArray.size [⟨#[109, 97, 105, 110]⟩, ⟨#[102]⟩] = 7 := rfl;have h2 : Zo Z5 [⟨⟨#[112, 111, 105, 110, 116]⟩, [⟨#[117]⟩, ⟨#[118]⟩], 0⟩] = 10 := rfl;have h3 : Zo Zah [⟨0, 0, 0, ⟨#[]⟩, ⟨0, 0⟩⟩, ⟨1, 3, 0, ⟨#[]⟩, ⟨0, 0⟩⟩] = 2 := rfl;have h4 : Zo ByteArray.size [] = 0 := rfl;have h5 : Zo (fun _ => 0) ([] : List Zc0) = 0 := rfl
  omega
 have HSR := zh hsr7;go_upto_region 3 with (fail);rw [← hw7, ← hr7] at HSB7;rw [← hw7];clear hw7 HSB6 t1 b5 fb5 hp0 hp1 hs2 hs hr7 hsr7;obtain ⟨F7, HSB7⟩ : ∃ F, Hd (Sb C B w1 w7 0 r7 cs7 F) := ⟨_, HSB7⟩;go_wp2_with fail;refine (Zbd 1 w7).mono ?_;rintro e w8 ⟨rfl, hl8⟩;go_wp2_with fail;refine (Zcx ⟨#[97, 98]⟩ w8).mono ?_;rintro e w9 ⟨rfl, hl9⟩;obtain ⟨w10, hw10⟩ : ∃ x, x = w9.alloc (.cells #[.int .i64 0, .int .i64 0, .int .i64 0, .string ⟨#[]⟩, .int .i64 0, .int .i64 0, .int .i64 1, .int .i64 1, .int .i64 0, .string ⟨#[]⟩, .int .i64 0, .int .i64 0, .int .i64 2, .int .i64 0, .int .i64 0, .string ⟨#[97, 98]⟩, .int .i64 0, .int .i64 0] 34) := ⟨_, rfl⟩;have hl10 : Za w9 w10 := by rw [hw10]; exact (Za.refl _).alloc _
 have hN10 : w10.heap[w9.heap.size]? = some (.cells #[.int .i64 0, .int .i64 0, .int .i64 0, .string ⟨#[]⟩, .int .i64 0, .int .i64 0, .int .i64 1, .int .i64 1, .int .i64 0, .string ⟨#[]⟩, .int .i64 0, .int .i64 0, .int .i64 2, .int .i64 0, .int .i64 0, .string ⟨#[97, 98]⟩, .int .i64 0, .int .i64 0] 34 (0, 0)) := by rw [hw10]; exact heap_alloc_new _ _
 have hsb10 := ((HSB7.o.later hl8).later hl9).later hl10;have HN := zh (Zb hN10);have HSZ := zh (Nat.le_trans hl8.size hl9.size);have hvs : ∀ v ∈ ([⟨0, 0, 0, ⟨#[]⟩, ⟨0, 0⟩⟩, ⟨1, 1, 0, ⟨#[]⟩, ⟨0, 0⟩⟩, ⟨2, 0, 0, ⟨#[97, 98]⟩, ⟨0, 0⟩⟩] : List Ze), vOk v := by
  intro v hv;simp only [List.mem_cons, List.not_mem_nil, or_false] at hv
  rcases hv with rfl | rfl | rfl
  ·exact ⟨in0, in0, in0, Nat.zero_le _, in0, in0⟩
  ·exact ⟨Ze7, Ze7, in0, Nat.zero_le _, in0, in0⟩
  ·exact ⟨Zm8, in0, in0, (show (2 : Nat) ≤ 121 by omega), in0, in0⟩
 have hrow := Zdw (w := w10) (b := w9.heap.size) (l := [⟨0, 0, 0, ⟨#[]⟩, ⟨0, 0⟩⟩, ⟨1, 1, 0, ⟨#[]⟩, ⟨0, 0⟩⟩, ⟨2, 0, 0, ⟨#[97, 98]⟩, ⟨0, 0⟩⟩]) hN10 hvs (by simp) (fun y => y = w9.heap.size ∧ 0 = 0) ⟨rfl, rfl⟩;have HOBJ := zh (show Za2 (fun y => y = w9.heap.size) w10 ⟨1, 0, 0, [⟨0, 0, 0, ⟨#[]⟩, ⟨0, 0⟩⟩, ⟨1, 1, 0, ⟨#[]⟩, ⟨0, 0⟩⟩, ⟨2, 0, 0, ⟨#[97, 98]⟩, ⟨0, 0⟩⟩], []⟩ [.int .i64 1, .int .i64 0, .int .i64 0, .slice (some ⟨w9.heap.size, 0, none⟩) 3 3, .slice none 0 0] from ⟨fun _ => 0, _, _, rfl, Ze7, in0, in0, hrow, Zae.nil _ _ _ _ _⟩);have HSB10 := zh hsb10;have HVS := zh hvs;clear hl8 hl9 hl10 hsb10 hN10 hrow hvs;go_wp2_with fail;rw [← hw10];clear hw10;refine (Zfe C B w1 w10 0 r7 cs7 F7 (fun y => y = w9.heap.size) _ _ HSB10.o (by omega) HOBJ.o (fun b hb => ⟨by have := HSB7.o.size; have := HSZ.o; omega, by have := HN.o; omega, fun hf => by have := (HSB7.o.fF b hf).2; have := HSZ.o; omega, by have := HSB7.o.lt; have := HSZ.o; omega⟩) (.inl ⟨.inl rfl, rfl, rfl⟩) ⟨by simp, fun v hv => (HVS.o v hv).2.2.2.1⟩ (Zbo.nil _)).mono ?_;rintro e w11 ⟨rfl, cs11, F11, hs11, -, -⟩;have HSB11 := zh hs11;have HSR11 := zh (Rs.new (r := r7) (o := ⟨1, 0, 0, [⟨0, 0, 0, ⟨#[]⟩, ⟨0, 0⟩⟩, ⟨1, 1, 0, ⟨#[]⟩, ⟨0, 0⟩⟩, ⟨2, 0, 0, ⟨#[97, 98]⟩, ⟨0, 0⟩⟩], []⟩) HSR.o);obtain ⟨r11, hr11⟩ : ∃ x, x = Zdi r7 ⟨1, 0, 0, [⟨0, 0, 0, ⟨#[]⟩, ⟨0, 0⟩⟩, ⟨1, 1, 0, ⟨#[]⟩, ⟨0, 0⟩⟩, ⟨2, 0, 0, ⟨#[97, 98]⟩, ⟨0, 0⟩⟩], []⟩ := ⟨_, rfl⟩;rw [← hr11] at HSB11 HSR11;clear hs11 HSB10 HOBJ HVS HN HSZ HSB7 HSR hr11;go_wp2_with fail
 refine (Z0 C w11 HSB11.o.cur 7 (by omega)).mono ?_;rintro e w12 ⟨_, ⟨mm, hm0, hm1, rfl⟩, rfl, hc12, hd12⟩;have HSB12 := zh (HSB11.o.draw hd12 hc12);clear hc12 hd12 HSB11;obtain ⟨m, hm, hm2⟩ : ∃ m : Nat, 2 + mm = m ∧ m ≤ 8 := ⟨(2 + mm).toNat, by omega, by omega⟩;have t1 : wrap64 (2 + mm) = (m : Int) := by unfold wrap64; omega
 have HSS := zh (show SbS C B w1 1 w12 from ⟨_, _, _, HSB12.o, HSR11.o⟩);clear HSB12 HSR11 hm0 hm1
 go_upto_block 0 with (fail)
 clear t1 hm;refine Zjy (Zo6 C w.heap.size B _ _ _ _ _ w1 m hm2 (FrS.mk' rfl rfl rfl rfl rfl rfl rfl rfl rfl rfl rfl) HSS) ?_;clear HSS;rintro a' y0 ⟨v5, v6, v7, v8, v9, v117, hf, ho⟩;obtain ⟨f, rfl⟩ := hf.opn;have HS := zh ho;clear ho hf;go_wp2_with fail;refine (Zci C y0 HS.o.cur 2 (by omega)).mono ?_;rintro e y1 ⟨_, ⟨b, rfl⟩, rfl, hc, hd⟩;have HS1 := zh (HS.o.draw hd hc);clear hc hd HS
 go_upto_if 202 with (fail)
 go_cut [] from 43 to 227 (fun wc => SbT C B w1 25 wc)
 case first =>
  cases b with
  | false =>
   go_wp2_with fail
   go_meet
   exact HS1.o.t
  | true =>
   go_wp2_with fail;refine (Z0 C y1 HS1.o.cur 2 (by omega)).mono ?_;rintro e y2 ⟨_, ⟨x, hx0, hx1, rfl⟩, rfl, hc, hd⟩;have HS2 := zh (HS1.o.draw hd hc);clear hc hd HS1;obtain ⟨y3, hy3⟩ : ∃ z, z = y2.alloc (.cells #[.int .i64 x, .int .i64 0] 89) := ⟨_, rfl⟩;have hl : Za y2 y3 := by rw [hy3]; exact (Za.refl _).alloc _
   have hN : y3.heap[y2.heap.size]? = some (.cells #[.int .i64 x, .int .i64 0] 89 (0, 0)) := by rw [hy3]; exact heap_alloc_new _ _
   obtain ⟨r, cs, F, hsb, -⟩ := HS2.o;obtain ⟨v0, v1, v2, v3, v6, v7, v8, -, hbk⟩ := hsb.cells;have hbk2 := (hl.block _ (Zb hbk)).trans hbk;have b8 := cq hbk2 8;have fb8 := fz hbk2;simp only [nD, nE, nF] at b8;have HFIN := zh (HS2.o.acts hl (Zsa hN (inK x (by omega) (by omega)) (fun y => y2.heap.size ≤ y) (Nat.le_refl _)) (by simp));clear hl hN hsb hbk hbk2;subst hy3;go_wp2_with fail
   go_meet
   exact HFIN.o
 case rest =>
 obtain ⟨y3, hnm⟩ : ∃ x, x = wc := ⟨_, rfl⟩;rw [← hnm] at hcut ⊢;clear hnm wc HS1;have HS := zh hcut;clear hcut;go_wp2_with fail;refine (Zci C y3 HS.o.cur 10 (by omega)).mono ?_;rintro e y4 ⟨_, ⟨b2, rfl⟩, rfl, hc, hd⟩;have HS4 := zh (HS.o.draw hd hc);clear hc hd HS
 go_upto_if 209 with (fail)
 go_cut [] from 43 to 227 (fun wc => SbT C B w1 25 wc)
 case first =>
  cases b2 with
  | false =>
   go_wp2_with fail
   go_meet
   exact HS4.o
  | true =>
   obtain ⟨y5, hy5⟩ : ∃ z, z = y4 := ⟨_, rfl⟩;rw [← hy5] at HS4 ⊢;clear hy5;obtain ⟨r, cs, F, hst, hlen⟩ := HS4.o;have hln := hst.bd.len;obtain ⟨v0, v1, v2, v3, v6, v7, v8, hcs, hbk⟩ := hst.cells;obtain ⟨ob, oc, e2, hlc, hcm, -⟩ := hst.tag (j := 0) (z := 0) (by omega) in0;rw [hcs] at e2;simp only [List.getElem?_cons_succ, List.getElem?_cons_zero, Option.some.injEq] at e2;subst e2;obtain ⟨sj, hsj⟩ : ∃ q, q = r.aC := ⟨_, rfl⟩;obtain ⟨ps, hps⟩ : ∃ q, q = r.aD := ⟨_, rfl⟩;obtain ⟨tr, htr⟩ : ∃ q, q = r.aF := ⟨_, rfl⟩;obtain ⟨tk, htk⟩ : ∃ q, q = r.ticks := ⟨_, rfl⟩;obtain ⟨bg, hbg⟩ : ∃ q, q = r.aG := ⟨_, rfl⟩;obtain ⟨md, hmd⟩ : ∃ q, q = r.made := ⟨_, rfl⟩;obtain ⟨ln, hln2⟩ : ∃ q, q = r.aA.length := ⟨_, rfl⟩;rw [← hsj, ← hps, ← htr, ← htk, ← hbg, ← hmd, ← hln2] at hbk hcs;clear hsj hps htr htk hbg hmd;rw [← hln2] at hlen hln hlc;have HLN := zh hln2;have HCS := zh hcs;have HST := zh hst;have HBK := zh hbk;unfold maxLen at hcm;have b2 := cq hbk 2;simp only [nD, nE, nF] at b2;clear hst hbk hln2 HS4 hcs;go_upto_region 49 with (fail);refine Zcv [11] [] (fun x => x.heap[B]? = some (.cells #[v0, v1, .slice (some ⟨ob, 0, none⟩) ln oc, v3, .string sj, .int .i64 ps, v6, v7, v8, .bool tr, .int .i64 tk, .int .i64 bg, .int .i64 md] 30 (0, 0))) (by kernel_rfl) (fun W hW => ?_);have HL0 := zh (show Za y5 W by rw [hW]; exact (Za.refl _).drew);clear hW;have HST1 := zh (HST.o.later HL0.o);have HS := zB HL0 HBK;clear HST HL0 HBK b2;refine tV 0 210 (v := ?_) rfl rfl HS.o (fun x hx => ?_) ?_
   rotate_left
   ·go_simp;first|done|with_reducible rfl
   simp only [Act.put, nA, nB, nC];refine tV 1 211 (v := ?_) rfl rfl HS.o (fun x hx => ?_) ?_;rotate_left
   ·have b2 := cell_of_row _ B 2 _ _ _ hx; simp only [nD, nE, nF] at b2; go_simp;first|done|with_reducible rfl
   simp only [Act.put, nA, nB, nC];refine tV 2 212 (v := ?_) rfl rfl HS.o (fun x hx => ?_) ?_;rotate_left
   ·go_simp;first|done|with_reducible rfl
   simp only [Act.put, nA, nB, nC];refine tV 3 213 (v := ?_) rfl rfl HS.o (fun x hx => ?_) ?_;rotate_left
   ·go_simp;first|done|with_reducible rfl
   simp only [Act.put, nA, nB, nC];refine tV 4 214 (v := ?_) rfl rfl HS.o (fun x hx => ?_) ?_;rotate_left
   ·have b2 := cell_of_row _ B 2 _ _ _ hx; simp only [nD, nE, nF] at b2; go_simp;first|done|with_reducible rfl
   simp only [Act.put, nA, nB, nC];refine tV 5 215 (v := ?_) rfl rfl HS.o (fun x hx => ?_) ?_;rotate_left
   ·go_simp;first|done|with_reducible rfl
   simp only [Act.put, nA, nB, nC];refine tV 7 217 (v := ?_) rfl rfl HS.o (fun x hx => ?_) ?_;rotate_left
   ·go_simp;first|done|with_reducible rfl
   simp only [Act.put, nA, nB, nC];refine Zbv 6 (by kernel_rfl) rfl rfl ?_;go_wp2_with fail;refine (Z0 C W HST1.o.cur ln (by omega)).mono ?_;rintro e W2 ⟨_, ⟨x, hx0, hx1, rfl⟩, rfl, hc, hd⟩;have HST2 := zh (HST1.o.draw hd hc);replace HS := zh (hd.has HS.o HST2.o.bC);clear hc hd HST1;go_wp2_with fail;refine ⟨HS.o, ?_⟩;obtain ⟨j, rfl⟩ : ∃ j : Nat, x = j := ⟨x.toNat, by omega⟩;have q1 : (0 : Int) ≤ (j : Int) := by omega
   have q2 : (j : Int) < (ln : Int) := by omega
   refine Zbv 8 (by kernel_rfl) rfl rfl ?_;go_wp2_with fail;refine (Z0 C W2 HST2.o.cur 4 (by omega)).mono ?_;rintro e W3 ⟨_, ⟨z, hz0, hz1, rfl⟩, rfl, hc, hd⟩;have HST3 := zh (HST2.o.draw hd hc);replace HS := zh (hd.has HS.o HST3.o.bC);clear hc hd HST2;go_wp2_with fail;refine ⟨HS.o, ?_⟩;have hjr : j < r.aA.length := by have := HLN.o; omega
   obtain ⟨ob', oc', e3, -, -, ⟨u, hu⟩, hfz, -, -, -, hfin⟩ := HST3.o.tag (z := z) hjr (inK z (by omega) (by omega));rw [HCS.o] at e3;simp only [List.getElem?_cons_succ, List.getElem?_cons_zero, Option.some.injEq, Value.slice.injEq, Addr.mk.injEq, and_true] at e3;obtain ⟨rfl, -, rfl⟩ := e3;have HFIN := zh hfin;clear hfin;refine tV 9 219 (v := ?_) rfl rfl HS.o (fun x hx => ?_) ?_;rotate_left
   ·go_simp;first|done|with_reducible rfl|rw[if_neg (by omega)]|rw[if_pos (by omega)]
   simp only [Act.put, nA, nB, nC];refine tV 10 220 (v := ?_) rfl rfl HS.o (fun x hx => ?_) ?_;rotate_left
   ·go_simp;first|done|with_reducible rfl
   simp only [Act.put, nA, nB, nC];refine Zc2 [_] (by kernel_rfl) rfl rfl ?_;simp only [List.getElem_toArray, List.getElem_cons_succ, List.getElem_cons_zero];go_wp2_with fail
   go_meet
   exact HFIN.o
 case rest =>
 obtain ⟨y6, hnm⟩ : ∃ x, x = wc := ⟨_, rfl⟩;rw [← hnm] at hcut ⊢;clear hnm wc HS4;have HS := zh hcut;clear hcut;go_wp2_with fail;refine (Zci C y6 HS.o.cur 20 (by omega)).mono ?_;rintro e y7 ⟨_, ⟨b3, rfl⟩, rfl, hc, hd⟩;have HS7 := zh (HS.o.draw hd hc);clear hc hd HS
 go_upto_if 222 with (fail)
 go_cut [] from 43 to 227 (fun wc => StX C B w1 wc)
 case first =>
  cases b3 with
  | false =>
   go_wp2_with fail
   go_meet
   exact HS7.o.done (by omega)
  | true =>
   obtain ⟨v0, v1, ob, ln, oc, v3, v4, v5, v6, v7, v8, v9, v10, v11, v12, hbk, hl1, hl2, hcm, hfin⟩ := HS7.o.cut (by omega);unfold maxLen at hcm;have b2 := cq hbk 2;have fb2 := fz hbk;simp only [nD, nE, nF] at b2;have HFIN := zh hfin;have q1 : (1 : Int) ≤ (ln : Int) := by omega
   have q2 : (1 : Int) ≤ (oc : Int) := by omega
   have q3 : (ln : Int) ≤ (oc : Int) := by omega
   clear hfin hbk HS7
   by_cases hoc : oc = 1
   ·subst hoc;obtain rfl : ln = 1 := by omega
    go_wp2_with fail
    go_meet
    exact HFIN.o _ (.inr (by simp))
   ·have q4 : ¬ (oc : Int) = 1 := by omega
    have q5 : (oc == 1) = false := by simp; omega
    go_wp2_with fail
    go_meet
    exact HFIN.o _ (.inl rfl)
 case rest =>
 obtain ⟨y8, hnm⟩ : ∃ x, x = wc := ⟨_, rfl⟩;rw [← hnm] at hcut ⊢;clear hnm wc HS7;obtain ⟨r, cs, F, hst, hF, hsz, hol, hc, hC, hB, ht⟩ := hcut;have hR := hlt;have HR8 := zh (ht.has HR1.o (by have := HSZ1.o; omega));obtain ⟨v0, v1, v2, v3, v6, v7, v8, rfl, q0, q1, q2, q3, -, -, q6, q7, q8, -⟩ := id hst.el;obtain ⟨A0, c0, rfl, -⟩ := q0;obtain ⟨A1, c1, rfl, -⟩ := q1;obtain ⟨A2, c2, rfl, -⟩ := q2;obtain ⟨A3, c3, rfl, -⟩ := q3;obtain ⟨A6, c6, rfl, -⟩ := q6;obtain ⟨A7, c7, rfl, -⟩ := q7;obtain ⟨A8, c8, rfl, -⟩ := q8;have HDX := zh (show Zbs C w y8 from Tch.mono (Tch.trans (Tch.later (P := fun _ => False) HL1.o) ht (fun _ h => h.elim) (fun b hb h => h)) (fun b hb h => h.elim id (fun h => by have := HSZ1.o; omega)));have HBK := zh hst.blk;have HEL := zh hst.el;have HC8 := zh hc;have HF := zh hF;clear hst hc ht hF;have z0 := Zbq HR8.o;have f0 := fz HR8.o;have g0 := Zbq HBK.o;go_wp2_with fail;have hvs := Z4 (F := fun b => b ≠ w.heap.size) (B := w.heap.size) (w := y8) (fun h => h rfl) [.slice A0 r.names.length c0, .slice A1 r.aB.length c1, .slice A2 r.aA.length c2, .slice A3 r.globals.length c3, .string r.aC, .int .i64 r.aD, .slice A6 r.output.length c6, .slice A7 r.trace.length c7, .slice A8 r.aE.length c8, .bool r.aF, .int .i64 r.ticks, .int .i64 r.aG, .int .i64 r.made] y8 0 (Zg.refl _ _);have hel2 := Zy.keep HEL.o (fun _ h => h) (hvs.mono fun b hb e => by have := (HF.o b hb).1; have := HSZ1.o; omega)
 have hd := Zao (Nat.le_refl _) HDX.o [.slice A0 r.names.length c0, .slice A1 r.aB.length c1, .slice A2 r.aA.length c2, .slice A3 r.globals.length c3, .string r.aC, .int .i64 r.aD, .slice A6 r.output.length c6, .slice A7 r.trace.length c7, .slice A8 r.aE.length c8, .bool r.aF, .int .i64 r.ticks, .int .i64 r.aG, .int .i64 r.made] 0;have hc := Za7 HC8.o (Nat.le_refl _) HDX.o hlt [.slice A0 r.names.length c0, .slice A1 r.aB.length c1, .slice A2 r.aA.length c2, .slice A3 r.globals.length c3, .string r.aC, .int .i64 r.aD, .slice A6 r.output.length c6, .slice A7 r.trace.length c7, .slice A8 r.aE.length c8, .bool r.aF, .int .i64 r.ticks, .int .i64 r.aG, .int .i64 r.made] 0;simp only [Zm, Nat.zero_add, Nat.reduceAdd] at hd hc hel2;exact bodyPost_ret (v := .agg #[.slice A0 r.names.length c0, .slice A1 r.aB.length c1, .slice A2 r.aA.length c2, .slice A3 r.globals.length c3, .string r.aC, .int .i64 r.aD, .slice A6 r.output.length c6, .slice A7 r.trace.length c7, .slice A8 r.aE.length c8, .bool r.aF, .int .i64 r.ticks, .int .i64 r.aG, .int .i64 r.made]) (by simp [results, Tryz.results86, go_sem, z0, f0]) rfl ⟨r, _, F, rfl, hel2, hsz, hol, hc, hd, fun b hb => ⟨by have := (HF.o b hb).1; have := HSZ1.o; omega, by have := (HF.o b hb).2.2; simpa using this⟩⟩
set_option maxRecDepth 1000000
set_option maxHeartbeats 8000000
/-- A Store and a value that were drawn. -/
def Zre (w : World) (r : Zf) (v : Ze) (cs : List Value) (w' : World) : Prop :=
 ∃ F, Zb1 F w' r cs ∧ Zai r ≤ 500000 ∧ r.aA.length ≤ 1000 ∧ vOk v ∧ Za w w' ∧ ∀ b, F b → w.heap.size ≤ b ∧ b < w'.heap.size
def Zs7 (w : World) (e : Ending) (w' : World) : Prop := ∃ r v cs, e = .returned (.tuple #[.agg cs.toArray, .agg #[.int .i64 v.kind, .int .i64 v.aH, .int .i64 v.index, .string v.text, .int .i64 v.set_.low, .int .i64 v.set_.high]]) ∧ Zre w r v cs w'
theorem Za.trans_drawn {w x y : World} {C : Nat} (h : Za w x) (hd : Zbs C x y) (hC : w.heap.size ≤ C) : Below w.heap.size w y := by
 have ht : Tch (fun b => w.heap.size ≤ b) w y := Tch.trans (Tch.later (P := fun _ => False) h) hd (fun _ h => h.elim) (fun b _ e => by omega);exact ⟨ht.below.os, ht.below.tape, ht.below.output, ht.keep.size, fun b hb => ht.keep.same b (by omega) hb⟩
theorem Zlu (A : Option Addr) (n c : Nat) (w : World) (hby : Zcm w A n c) (hn : n ≤ 1048577) : Calls Tryz.prog 37 #[.slice A n c] w (Zs7 w) := by
 have HBY := zh hby;clear hby;obtain ⟨w2, hw2⟩ : ∃ z, z = ((w.alloc (.cells #[.slice none 0 0, .slice none 0 0, .slice none 0 0, .slice none 0 0, .string ⟨#[]⟩, .int .i64 0, .slice none 0 0, .slice none 0 0, .slice none 0 0, .bool false, .int .i64 0, .int .i64 0, .int .i64 0] 30)).alloc (.cells #[.int .i64 0, .int .i64 0, .int .i64 0, .string ⟨#[]⟩, .int .i64 0, .int .i64 0] 34)) := ⟨_, rfl⟩;have hl2 : Za w w2 := by rw [hw2]; exact ((Za.refl w).alloc _).alloc _
 have HR2 := zh (show w2.heap[w.heap.size]? = some (.cells #[.slice none 0 0, .slice none 0 0, .slice none 0 0, .slice none 0 0, .string ⟨#[]⟩, .int .i64 0, .slice none 0 0, .slice none 0 0, .slice none 0 0, .bool false, .int .i64 0, .int .i64 0, .int .i64 0] 30 (0, 0)) by rw [hw2]; exact ((Za.refl _).alloc _).block w.heap.size (by simp) |>.trans (heap_alloc_new w _));have HV2 := zh (show w2.heap[(w.heap.size + 1)]? = some (.cells #[.int .i64 0, .int .i64 0, .int .i64 0, .string ⟨#[]⟩, .int .i64 0, .int .i64 0] 34 (0, 0)) by rw [hw2]; exact Zz (by simp));have HSZ := zh (show w2.heap.size = w.heap.size + 2 by rw [hw2]; simp);have HL2 := zh hl2;clear hl2;go_enter Tryz.func37, Tryz.ntmps37;go_upto_region 1 with (fail);rw [← hw2];clear hw2;go_wp2_with fail;refine (Zgx A n c w2 (HBY.o.later HL2.o) hn).mono ?_;rintro e w3 ⟨C, hC, rfl, hc3, hl3⟩;have hC2 : w.heap.size + 2 ≤ C := by have := HSZ.o; omega
 have HC3 := zh hc3;have HL3 := zh (HL2.o.trans hl3);have HR3 := zC hl3 HR2;have HV3 := zC hl3 HV2;clear hc3 hl3 hC HR2 HV2 HL2 HSZ HBY;go_wp2_with fail;refine (Zj8 C w3 HC3.o).mono ?_;rintro e w4 ⟨r, cs, F, rfl, hel, hsz, hol, hc4, hd4, hF⟩;obtain ⟨v0, v1, v2, v3, v6, v7, v8, rfl, q0, q1, q2, q3, -, -, q6, q7, q8, -⟩ := id hel;obtain ⟨A0, c0, rfl, -⟩ := q0;obtain ⟨A1, c1, rfl, -⟩ := q1;obtain ⟨A2, c2, rfl, -⟩ := q2;obtain ⟨A3, c3, rfl, -⟩ := q3;obtain ⟨A6, c6, rfl, -⟩ := q6;obtain ⟨A7, c7, rfl, -⟩ := q7;obtain ⟨A8, c8, rfl, -⟩ := q8;obtain ⟨w4b, hw4⟩ : ∃ z, z = w4.alloc (.cells #[.slice A0 r.names.length c0, .slice A1 r.aB.length c1, .slice A2 r.aA.length c2, .slice A3 r.globals.length c3, .string r.aC, .int .i64 r.aD, .slice A6 r.output.length c6, .slice A7 r.trace.length c7, .slice A8 r.aE.length c8, .bool r.aF, .int .i64 r.ticks, .int .i64 r.aG, .int .i64 r.made] 30) := ⟨_, rfl⟩;have hl4 : Za w4 w4b := by rw [hw4]; exact (Za.refl _).alloc _
 obtain ⟨B, hB⟩ : ∃ b, b = w4.heap.size := ⟨_, rfl⟩;have HBC : Hd (B ≠ C) := zh (by have := HC3.o.lt; have := hd4.size; omega);have HST4 := zh (show Z1 F w4b B r _ from ⟨by rw [hw4, hB]; exact heap_alloc_new _ _, Zy.keep hel (fun _ h => h) (Zg.later hl4)⟩);have HC4 := zh (hc4.later hl4);have hlt := HC3.o.lt;have hls := HL3.o.size;have HF := zh (show ∀ b, F b → C + 1 ≤ b ∧ w.heap.size + 2 ≤ b ∧ b < w4.heap.size from fun b hb => by have := hF b hb; omega);have HSZ4 := zh (show w4.heap.size ≤ w4b.heap.size from hl4.size);have HL4 := zh (show Za w w4b from (HL3.o.trans_drawn hd4 (by omega)).trans (Below.mono hl4 (by have := hd4.size; omega)));have HR4 := zh ((hl4.block _ (by have := hd4.size; have := Zb HR3.o; omega)).trans (hd4.has HR3.o (by omega)));have HV4 := zh ((hl4.block _ (by have := hd4.size; have := Zb HV3.o; omega)).trans (hd4.has HV3.o (by omega)));clear hel hc4 hd4 hF hl4 HL3 HR3 HV3 HC3 hlt hls;go_upto_region 3 with (fail);rw [← hw4, ← hB];clear hw4 hB;go_wp2_with fail;refine (Zci C w4b HC4.o 10 (by omega)).mono ?_;rintro e w5 ⟨_, ⟨b, rfl⟩, rfl, hc, hd⟩;have HC5 := zh hc;have HSZ5 := zh (show w4.heap.size ≤ w5.heap.size from Nat.le_trans HSZ4.o hd.size);have HST5 := zh (HST4.o.tch hd (fun b hb e => by have := (HF.o b hb).1; omega) HBC.o);have HL5 := zh (show Za w w5 from HL4.o.trans_drawn hd (by omega));have HR5 := zh (hd.has HR4.o (by omega));have HV5 := zh (hd.has HV4.o (by omega));clear hc hd HC4 HST4 HL4 HR4 HV4
 cases b with
 | true =>
  go_wp2_with fail;refine Zcv [3, 4] [] (fun x => x.heap[B]? = some (.cells #[.slice A0 r.names.length c0, .slice A1 r.aB.length c1, .slice A2 r.aA.length c2, .slice A3 r.globals.length c3, .string r.aC, .int .i64 r.aD, .slice A6 r.output.length c6, .slice A7 r.trace.length c7, .slice A8 r.aE.length c8, .bool r.aF, .int .i64 r.ticks, .int .i64 r.aG, .int .i64 r.made] 30 (0, 0))) (by kernel_rfl) (fun W hW => ?_);have hlW : Za w5 W := by rw [hW]; exact (Za.refl _).drew
  clear hW;have HC6 := zh (HC5.o.later hlW);have HST6 := zh (HST5.o.later hlW);have HL6 := zh (HL5.o.trans hlW);have HSZ6 := zh (show w4.heap.size ≤ W.heap.size from Nat.le_trans HSZ5.o hlW.size);have HR6 := zC hlW HR5;have HV6 := zC hlW HV5;have HS := zh HST6.o.blk;clear hlW HC5 HST5 HL5 HR5 HV5;refine tV 0 12 (v := ?_) rfl rfl HS.o (fun x hx => ?_) ?_;rotate_left
  ·have g0 := cell_of_row _ B 0 _ _ _ hx; have g1 := cell_of_row _ B 1 _ _ _ hx; have g2 := cell_of_row _ B 2 _ _ _ hx; have g3 := cell_of_row _ B 3 _ _ _ hx; have g4 := cell_of_row _ B 4 _ _ _ hx; have g5 := cell_of_row _ B 5 _ _ _ hx; have g6 := cell_of_row _ B 6 _ _ _ hx; have g7 := cell_of_row _ B 7 _ _ _ hx; have g8 := cell_of_row _ B 8 _ _ _ hx; have g9 := cell_of_row _ B 9 _ _ _ hx; have g10 := cell_of_row _ B 10 _ _ _ hx; have g11 := cell_of_row _ B 11 _ _ _ hx; have g12 := cell_of_row _ B 12 _ _ _ hx; simp only [nD, nE, nF] at g0 g1 g2 g3 g4 g5 g6 g7 g8 g9 g10 g11 g12; go_simp;first|done|with_reducible rfl
  simp only [Act.put, nA, nB, nC];refine tV 1 13 (v := ?_) rfl rfl HS.o (fun x hx => ?_) ?_;rotate_left
  ·go_simp;first|done|with_reducible rfl
  simp only [Act.put, nA, nB, nC];refine Zbv 2 (by kernel_rfl) rfl rfl ?_;go_wp2_with fail;refine (Zdg C W HC6.o).mono ?_;rintro e W2 ⟨_, ⟨v, hv, rfl⟩, rfl, hc, hd⟩;have HV := zh hv;replace HS := zh (hd.has HS.o HBC.o);have HR7 := zh (hd.has HR6.o (by omega));have HV7 := zh (hd.has HV6.o (by omega));have HD := zh hd;have HSZ7 := zh (show w4.heap.size ≤ W2.heap.size from Nat.le_trans HSZ6.o hd.size);clear hc hd hv HR6 HV6;go_wp2_with fail;refine ⟨HS.o, ?_⟩;refine Zc2 [_, _] (by kernel_rfl) rfl rfl ?_;simp only [List.getElem_toArray, List.getElem_cons_succ, List.getElem_cons_zero];have s0 := Zbq HR7.o;have fs0 := fz HR7.o;have u0 := cz6 HV7.o;have fu0 := fz HV7.o;go_wp2_with fail;have HK := zh (show Zg F W2 (Zm (Zm W2 w.heap.size 0 [.slice A0 r.names.length c0, .slice A1 r.aB.length c1, .slice A2 r.aA.length c2, .slice A3 r.globals.length c3, .string r.aC, .int .i64 r.aD, .slice A6 r.output.length c6, .slice A7 r.trace.length c7, .slice A8 r.aE.length c8, .bool r.aF, .int .i64 r.ticks, .int .i64 r.aG, .int .i64 r.made]) (w.heap.size + 1) 0 [.int .i64 v.kind, .int .i64 v.aH, .int .i64 v.index, .string v.text, .int .i64 v.set_.low, .int .i64 v.set_.high]) from (Z4 (fun h => by have := (HF.o _ h).1; omega) [.slice A0 r.names.length c0, .slice A1 r.aB.length c1, .slice A2 r.aA.length c2, .slice A3 r.globals.length c3, .string r.aC, .int .i64 r.aD, .slice A6 r.output.length c6, .slice A7 r.trace.length c7, .slice A8 r.aE.length c8, .bool r.aF, .int .i64 r.ticks, .int .i64 r.aG, .int .i64 r.made] W2 0 (Zg.refl _ _)).trans (Z4 (F := F) (fun h => by have := (HF.o _ h).1; omega) [.int .i64 v.kind, .int .i64 v.aH, .int .i64 v.index, .string v.text, .int .i64 v.set_.low, .int .i64 v.set_.high] _ 0 (Zg.refl _ _)))
  have hl := Z7 (Nat.le_succ _) [.int .i64 v.kind, .int .i64 v.aH, .int .i64 v.index, .string v.text, .int .i64 v.set_.low, .int .i64 v.set_.high] _ 0 (Z7 (Nat.le_refl _) [.slice A0 r.names.length c0, .slice A1 r.aB.length c1, .slice A2 r.aA.length c2, .slice A3 r.globals.length c3, .string r.aC, .int .i64 r.aD, .slice A6 r.output.length c6, .slice A7 r.trace.length c7, .slice A8 r.aE.length c8, .bool r.aF, .int .i64 r.ticks, .int .i64 r.aG, .int .i64 r.made] W2 0 (HL6.o.trans_drawn HD.o (by omega)));have hk := Zy.keep (Zy.keep HST6.o.el (fun _ h => h) (HD.o.keeps fun b hb e => by have := (HF.o b hb).1; omega)) (fun _ h => h) HK.o;simp only [Zm, Nat.zero_add, Nat.reduceAdd] at hk hl;exact bodyPost_ret (v := .tuple #[.agg #[.slice A0 r.names.length c0, .slice A1 r.aB.length c1, .slice A2 r.aA.length c2, .slice A3 r.globals.length c3, .string r.aC, .int .i64 r.aD, .slice A6 r.output.length c6, .slice A7 r.trace.length c7, .slice A8 r.aE.length c8, .bool r.aF, .int .i64 r.ticks, .int .i64 r.aG, .int .i64 r.made], .agg #[.int .i64 v.kind, .int .i64 v.aH, .int .i64 v.index, .string v.text, .int .i64 v.set_.low, .int .i64 v.set_.high]]) (by simp [results, Tryz.results37, go_sem, s0, fs0, u0, fu0]) rfl ⟨r, v, _, rfl, F, hk, hsz, hol, HV.o, hl, fun b hb => ⟨by have := (HF.o b hb).1; omega, by have := (HF.o b hb).2.2; have := HSZ7.o; simp; omega⟩⟩
 | false =>
  go_wp2_with fail;refine Zcv [3, 4] [] (fun x => x.heap[B]? = some (.cells #[.slice A0 r.names.length c0, .slice A1 r.aB.length c1, .slice A2 r.aA.length c2, .slice A3 r.globals.length c3, .string r.aC, .int .i64 r.aD, .slice A6 r.output.length c6, .slice A7 r.trace.length c7, .slice A8 r.aE.length c8, .bool r.aF, .int .i64 r.ticks, .int .i64 r.aG, .int .i64 r.made] 30 (0, 0))) (by kernel_rfl) (fun W hW => ?_);have hlW : Za w5 W := by rw [hW]; exact (Za.refl _).drew
  clear hW;have HC6 := zh (HC5.o.later hlW);have HST6 := zh (HST5.o.later hlW);have HL6 := zh (HL5.o.trans hlW);have HSZ6 := zh (show w4.heap.size ≤ W.heap.size from Nat.le_trans HSZ5.o hlW.size);have HR6 := zC hlW HR5;have HV6 := zC hlW HV5;have HS := zh HST6.o.blk;clear hlW HC5 HST5 HL5 HR5 HV5;refine tV 0 15 (v := ?_) rfl rfl HS.o (fun x hx => ?_) ?_;rotate_left
  ·have g0 := cell_of_row _ B 0 _ _ _ hx; have g1 := cell_of_row _ B 1 _ _ _ hx; have g2 := cell_of_row _ B 2 _ _ _ hx; have g3 := cell_of_row _ B 3 _ _ _ hx; have g4 := cell_of_row _ B 4 _ _ _ hx; have g5 := cell_of_row _ B 5 _ _ _ hx; have g6 := cell_of_row _ B 6 _ _ _ hx; have g7 := cell_of_row _ B 7 _ _ _ hx; have g8 := cell_of_row _ B 8 _ _ _ hx; have g9 := cell_of_row _ B 9 _ _ _ hx; have g10 := cell_of_row _ B 10 _ _ _ hx; have g11 := cell_of_row _ B 11 _ _ _ hx; have g12 := cell_of_row _ B 12 _ _ _ hx; simp only [nD, nE, nF] at g0 g1 g2 g3 g4 g5 g6 g7 g8 g9 g10 g11 g12; go_simp;first|done|with_reducible rfl
  simp only [Act.put, nA, nB, nC];refine tV 1 16 (v := ?_) rfl rfl HS.o (fun x hx => ?_) ?_;rotate_left
  ·go_simp;first|done|with_reducible rfl
  simp only [Act.put, nA, nB, nC];refine Zbv 2 (by kernel_rfl) rfl rfl ?_;go_wp2_with fail;refine (Zcy C B r _ F W HC6.o HST6.o (by have := HF.o; intro h; have := (this C h).1; omega) HBC.o (by omega)).mono ?_;rintro e W2 ⟨_, ⟨v, hv, rfl⟩, rfl, hc, hd⟩;have HV := zh hv;replace HS := zh (hd.has HS.o HBC.o);have HR7 := zh (hd.has HR6.o (by omega));have HV7 := zh (hd.has HV6.o (by omega));have HD := zh hd;have HSZ7 := zh (show w4.heap.size ≤ W2.heap.size from Nat.le_trans HSZ6.o hd.size);clear hc hd hv HR6 HV6;go_wp2_with fail;refine ⟨HS.o, ?_⟩;refine Zc2 [_, _] (by kernel_rfl) rfl rfl ?_;simp only [List.getElem_toArray, List.getElem_cons_succ, List.getElem_cons_zero];have s0 := Zbq HR7.o;have fs0 := fz HR7.o;have u0 := cz6 HV7.o;have fu0 := fz HV7.o;go_wp2_with fail;have HK := zh (show Zg F W2 (Zm (Zm W2 w.heap.size 0 [.slice A0 r.names.length c0, .slice A1 r.aB.length c1, .slice A2 r.aA.length c2, .slice A3 r.globals.length c3, .string r.aC, .int .i64 r.aD, .slice A6 r.output.length c6, .slice A7 r.trace.length c7, .slice A8 r.aE.length c8, .bool r.aF, .int .i64 r.ticks, .int .i64 r.aG, .int .i64 r.made]) (w.heap.size + 1) 0 [.int .i64 v.kind, .int .i64 v.aH, .int .i64 v.index, .string v.text, .int .i64 v.set_.low, .int .i64 v.set_.high]) from (Z4 (fun h => by have := (HF.o _ h).1; omega) [.slice A0 r.names.length c0, .slice A1 r.aB.length c1, .slice A2 r.aA.length c2, .slice A3 r.globals.length c3, .string r.aC, .int .i64 r.aD, .slice A6 r.output.length c6, .slice A7 r.trace.length c7, .slice A8 r.aE.length c8, .bool r.aF, .int .i64 r.ticks, .int .i64 r.aG, .int .i64 r.made] W2 0 (Zg.refl _ _)).trans (Z4 (F := F) (fun h => by have := (HF.o _ h).1; omega) [.int .i64 v.kind, .int .i64 v.aH, .int .i64 v.index, .string v.text, .int .i64 v.set_.low, .int .i64 v.set_.high] _ 0 (Zg.refl _ _)))
  have hl := Z7 (Nat.le_succ _) [.int .i64 v.kind, .int .i64 v.aH, .int .i64 v.index, .string v.text, .int .i64 v.set_.low, .int .i64 v.set_.high] _ 0 (Z7 (Nat.le_refl _) [.slice A0 r.names.length c0, .slice A1 r.aB.length c1, .slice A2 r.aA.length c2, .slice A3 r.globals.length c3, .string r.aC, .int .i64 r.aD, .slice A6 r.output.length c6, .slice A7 r.trace.length c7, .slice A8 r.aE.length c8, .bool r.aF, .int .i64 r.ticks, .int .i64 r.aG, .int .i64 r.made] W2 0 (HL6.o.trans_drawn HD.o (by omega)));have hk := Zy.keep (Zy.keep HST6.o.el (fun _ h => h) (HD.o.keeps fun b hb e => by have := (HF.o b hb).1; omega)) (fun _ h => h) HK.o;simp only [Zm, Nat.zero_add, Nat.reduceAdd] at hk hl;exact bodyPost_ret (v := .tuple #[.agg #[.slice A0 r.names.length c0, .slice A1 r.aB.length c1, .slice A2 r.aA.length c2, .slice A3 r.globals.length c3, .string r.aC, .int .i64 r.aD, .slice A6 r.output.length c6, .slice A7 r.trace.length c7, .slice A8 r.aE.length c8, .bool r.aF, .int .i64 r.ticks, .int .i64 r.aG, .int .i64 r.made], .agg #[.int .i64 v.kind, .int .i64 v.aH, .int .i64 v.index, .string v.text, .int .i64 v.set_.low, .int .i64 v.set_.high]]) (by simp [results, Tryz.results37, go_sem, s0, fs0, u0, fu0]) rfl ⟨r, v, _, rfl, F, hk, hsz, hol, HV.o, hl, fun b hb => ⟨by have := (HF.o b hb).1; omega, by have := (HF.o b hb).2.2; have := HSZ7.o; simp; omega⟩⟩
end Go.Proofs.YtpmhelkiicigfaaGreatDoor
