/- Part of the walks that the claim stands on. -/
import Derived.Test.YtpmhelkiicigfaaGreatDoorS3
import Derived.Test.YtpmhelkiicigfaaGreatDoorS2
import Derived.Test.YtpmhelkiicigfaaGreatDoorS1
set_option maxRecDepth 100000
set_option maxHeartbeats 40000000
namespace Go.Proofs.YtpmhelkiicigfaaGreatDoor
open Go.RowKit
theorem Zes (r : Zh) (cs : List Value) (F : Nat → Prop) (w : World) (hsz : Zad r ≤ 1048576) (h : Zb6 F w r cs) (ht : Spc w) :
  Calls Tryz.prog 13 #[.agg cs.toArray] w fun e w' => e = .returned (.bool (Zdh r)) ∧ Below w.heap.size w w' := by
 obtain ⟨R, hR⟩ : ∃ R, Zdh r = R := ⟨_, rfl⟩;rw [hR];have HR0 := zh hR;clear hR;have hel := h;obtain ⟨aL, aM, aN, aO, aP, aQ, aR, rfl, aV, aW, aX, aY, aZ, bA, bB, bC, bD, bE, bF, bG⟩ := h;obtain ⟨An, cn, rfl, kn, ln, _⟩ := id aV;obtain ⟨Ar, cr, rfl, kr, lr, _⟩ := id aW;obtain ⟨Ao, co, rfl, ko, lo, _⟩ := id aX;obtain ⟨Ag, cg, rfl, kg, lg, _⟩ := id aY;obtain ⟨Au, cu, rfl, ku, lu, _⟩ := id bB;obtain ⟨At, ct, rfl, kt, lt, _⟩ := id bC;obtain ⟨Aa, ca, rfl, ka, la, _⟩ := id bD;unfold maxLen at ln lr lo lg lu lt la;have HSO : Hd (∀ j (h : j < r.aA.length), r.aA[j].aK.length ≤ 1048576) := zh (fun j h => by
  have hz : Zk ByteArray.size r.names + (Zk Zo r.aB + (Zk Zr r.aA + (Zk Zs r.globals + (r.aC.size + (Zk ByteArray.size r.output + (Zk ByteArray.size r.trace + (Zk (fun _ => 0) r.aE))))))) ≤ 1048576 := hsz;have h1 : Zk Zr r.aA = r.aA.length + Zaq Zr r.aA := rfl;have h2 := Zb4 Zr r.aA _ (List.getElem_mem h);have h3 : Zr r.aA[j] = (r.aA[j].aJ.length + Zaq Zs r.aA[j].aJ) + (r.aA[j].aK.length + Zaq Zs r.aA[j].aK) := rfl
  omega)
 have HOL : Hd (r.aA.length ≤ 1048576) := zh (by
  have hz : Zk ByteArray.size r.names + (Zk Zo r.aB + (Zk Zr r.aA + (Zk Zs r.globals + (r.aC.size + (Zk ByteArray.size r.output + (Zk ByteArray.size r.trace + (Zk (fun _ => 0) r.aE))))))) ≤ 1048576 := hsz;have h1 : Zk Zr r.aA = r.aA.length + Zaq Zr r.aA := rfl
  omega)
 have HSL : Hd (r.aC.size ≤ 1048576) := zh (by
  have hz : Zk ByteArray.size r.names + (Zk Zo r.aB + (Zk Zr r.aA + (Zk Zs r.globals + (r.aC.size + (Zk ByteArray.size r.output + (Zk ByteArray.size r.trace + (Zk (fun _ => 0) r.aE))))))) ≤ 1048576 := hsz
  omega)
 have hl1 := (Za.refl w).alloc (.cells #[.slice An r.names.length cn, .slice Ar r.aB.length cr, .slice Ao r.aA.length co, .slice Ag r.globals.length cg, .string r.aC, .int .i64 r.aD, .slice Au r.output.length cu, .slice At r.trace.length ct, .slice Aa r.aE.length ca, .bool r.aF, .int .i64 r.ticks, .int .i64 r.aG, .int .i64 r.made] 30);have HEL := zh hel;have HQn := zh aV;have HQr := zh aW;have HQo := zh aX;have HQg := zh aY;have HQu := zh bB;have HQt := zh bC;have HQa := zh bD;have HP64 := zh (show Zac r.aD ∧ Zac r.ticks ∧ Zac r.aG ∧ Zac r.made from ⟨bA, bE, bF, bG⟩);have HM := zh (heap_alloc_new w (.cells #[.slice An r.names.length cn, .slice Ar r.aB.length cr, .slice Ao r.aA.length co, .slice Ag r.globals.length cg, .string r.aC, .int .i64 r.aD, .slice Au r.output.length cu, .slice At r.trace.length ct, .slice Aa r.aE.length ca, .bool r.aF, .int .i64 r.ticks, .int .i64 r.aG, .int .i64 r.made] 30));have HB := zh (show Below w.heap.size w _ from hl1);obtain ⟨M, hM⟩ : ∃ M, w.heap.size = M := ⟨_, rfl⟩;obtain ⟨w1, hw1⟩ : ∃ x, x = w.alloc (.cells #[.slice An r.names.length cn, .slice Ar r.aB.length cr, .slice Ao r.aA.length co, .slice Ag r.globals.length cg, .string r.aC, .int .i64 r.aD, .slice Au r.output.length cu, .slice At r.trace.length ct, .slice Aa r.aE.length ca, .bool r.aF, .int .i64 r.ticks, .int .i64 r.aG, .int .i64 r.made] 30) := ⟨_, rfl⟩
 rw [← hw1] at HM HB;rw [hM] at HM;clear hel hl1 hsz aV aW aX aY aZ bA bB bC bD bE bF bG;obtain ⟨n12, hn12⟩ : ∃ q, (decide (r.names.length ≤ 12)) = q := ⟨_, rfl⟩;have W0n12 : (decide (12 < (r.names.length : Int))) = !n12 := by rw [← hn12]; exact (by rw [Bool.eq_iff_iff]; simp only [nJ, nK, nL, ne_eq, nM, nI, nH] <;> omega)
 obtain ⟨nm, hnm⟩ : ∃ q, (r.names.all Zcj) = q := ⟨_, rfl⟩;obtain ⟨r8, hr8⟩ : ∃ q, (decide (r.aB.length ≤ 8)) = q := ⟨_, rfl⟩;have W0r8 : (decide (8 < (r.aB.length : Int))) = !r8 := by rw [← hr8]; exact (by rw [Bool.eq_iff_iff]; simp only [nJ, nK, nL, ne_eq, nM, nI, nH] <;> omega)
 obtain ⟨rok, hrok⟩ : ∃ q, (r.aB.all Ze9) = q := ⟨_, rfl⟩;obtain ⟨g12, hg12⟩ : ∃ q, (decide (r.globals.length ≤ 12)) = q := ⟨_, rfl⟩;have W0g12 : (decide (12 < (r.globals.length : Int))) = !g12 := by rw [← hg12]; exact (by rw [Bool.eq_iff_iff]; simp only [nJ, nK, nL, ne_eq, nM, nI, nH] <;> omega)
 obtain ⟨s120, hs120⟩ : ∃ q, (decide (r.aC.size ≤ 120)) = q := ⟨_, rfl⟩;have W0s120 : (decide (120 < (r.aC.size : Int))) = !s120 := by rw [← hs120]; exact (by rw [Bool.eq_iff_iff]; simp only [nJ, nK, nL, ne_eq, nM, nI, nH] <;> omega)
 obtain ⟨p1, hp1⟩ : ∃ q, (decide (1 ≤ r.aD)) = q := ⟨_, rfl⟩;have W0p1 : (decide (r.aD < 1)) = !p1 := by rw [← hp1]; exact (by rw [Bool.eq_iff_iff]; simp only [nJ, nK, nL, ne_eq, nM, nI, nH] <;> omega)
 obtain ⟨p2, hp2⟩ : ∃ q, (decide (r.aD ≤ (r.aC.size : Int) + 1)) = q := ⟨_, rfl⟩;have W0p2 : (decide ((r.aC.size : Int) + 1 < r.aD)) = !p2 := by rw [← hp2]; exact (by rw [Bool.eq_iff_iff]; simp only [nJ, nK, nL, ne_eq, nM, nI, nH] <;> omega)
 obtain ⟨a40, ha40⟩ : ∃ q, (decide (r.aE.length ≤ 40)) = q := ⟨_, rfl⟩;have W0a40 : (decide (40 < (r.aE.length : Int))) = !a40 := by rw [← ha40]; exact (by rw [Bool.eq_iff_iff]; simp only [nJ, nK, nL, ne_eq, nM, nI, nH] <;> omega)
 obtain ⟨acts, hacts⟩ : ∃ q, (r.aE.all (Zdl r)) = q := ⟨_, rfl⟩;obtain ⟨outs, houts⟩ : ∃ q, (r.output.all Zgq) = q := ⟨_, rfl⟩;obtain ⟨b0, hb0⟩ : ∃ q, (decide (0 ≤ r.aG)) = q := ⟨_, rfl⟩;have W0b0 : (decide (r.aG < 0)) = !b0 := by rw [← hb0]; exact (by rw [Bool.eq_iff_iff]; simp only [nJ, nK, nL, ne_eq, nM, nI, nH] <;> omega)
 obtain ⟨b4, hb4⟩ : ∃ q, (decide (r.aG ≤ 4000)) = q := ⟨_, rfl⟩;have W0b4 : (decide (4000 < r.aG)) = !b4 := by rw [← hb4]; exact (by rw [Bool.eq_iff_iff]; simp only [nJ, nK, nL, ne_eq, nM, nI, nH] <;> omega)
 obtain ⟨t0, ht0⟩ : ∃ q, (decide (0 ≤ r.ticks)) = q := ⟨_, rfl⟩;have W0t0 : (decide (r.ticks < 0)) = !t0 := by rw [← ht0]; exact (by rw [Bool.eq_iff_iff]; simp only [nJ, nK, nL, ne_eq, nM, nI, nH] <;> omega)
 obtain ⟨tb, htb⟩ : ∃ q, (decide (r.ticks ≤ r.aG)) = q := ⟨_, rfl⟩;have W0tb : (decide (r.aG < r.ticks)) = !tb := by rw [← htb]; exact (by rw [Bool.eq_iff_iff]; simp only [nJ, nK, nL, ne_eq, nM, nI, nH] <;> omega)
 obtain ⟨m0_, hm0_⟩ : ∃ q, (decide (0 ≤ r.made)) = q := ⟨_, rfl⟩;have W0m0_ : (decide (r.made < 0)) = !m0_ := by rw [← hm0_]; exact (by rw [Bool.eq_iff_iff]; simp only [nJ, nK, nL, ne_eq, nM, nI, nH] <;> omega)
 obtain ⟨gl, hgl⟩ : ∃ q, (Zbi r r.globals) = q := ⟨_, rfl⟩;obtain ⟨objs, hobjs⟩ : ∃ q, (r.aA.all (Za5 r)) = q := ⟨_, rfl⟩;obtain ⟨sers, hsers⟩ : ∃ q, (Zd0 r.aA) = q := ⟨_, rfl⟩;have HR := zh (show R = (n12 && (nm && (r8 && (rok && (g12 && (s120 && (p1 && (p2 && (a40 && (acts && (outs && (b0 && (b4 && (t0 && (tb && (m0_ && (gl && (objs && (sers))))))))))))))))))) by rw [← HR0.o, ← hn12, ← hnm, ← hr8, ← hrok, ← hg12, ← hs120, ← hp1, ← hp2, ← ha40, ← hacts, ← houts, ← hb0, ← hb4, ← ht0, ← htb, ← hm0_, ← hgl, ← hobjs, ← hsers]; try rfl);have Hn12 := zh hn12;clear hn12;have Hnm := zh hnm;clear hnm;have Hr8 := zh hr8;clear hr8;have Hrok := zh hrok;clear hrok;have Hg12 := zh hg12;clear hg12;have Hs120 := zh hs120;clear hs120;have Hp1 := zh hp1;clear hp1;have Hp2 := zh hp2;clear hp2;have Ha40 := zh ha40;clear ha40;have Hacts := zh hacts;clear hacts;have Houts := zh houts;clear houts;have Hb0 := zh hb0;clear hb0;have Hb4 := zh hb4;clear hb4;have Ht0 := zh ht0;clear ht0;have Htb := zh htb;clear htb;have Hm0_ := zh hm0_;clear hm0_;have Hgl := zh hgl;clear hgl;have Hobjs := zh hobjs;clear hobjs;have Hsers := zh hsers;clear hsers;have HT := zh ht;clear ht;go_enter Tryz.func13, Tryz.ntmps13;go_upto_region 1 with (fail);rw [← hw1]
 try rw [hM]
 have HMS := zh hM;clear hw1 hM;have m0 := Zae HM.o
 cases n12 with
 | false =>
  simp only [Bool.not_false] at W0n12;have hR0 : R = false := by rw [HR.o]; simp
  subst hR0;go_wp2_with fail;go_ret;exact ⟨rfl, HB.o⟩
 | true =>
  simp only [Bool.not_true] at W0n12;go_wp2_with fail;refine (Zh3 r.names _ F _ (HQn.o.later Z4 HB.o) (HT.o.below HB.o)).mono ?_;rw [Hnm.o];rintro e x1 ⟨rfl, hcl⟩;clear m0;replace HM := zC hcl HM;replace HB := zh (HB.o.trans (Below.mono hcl HB.o.size));clear hcl;have m0 := Zae HM.o
  cases nm with
  | false =>
   have hR0 : R = false := by rw [HR.o]; simp
   subst hR0;go_wp2_with fail;go_ret;exact ⟨rfl, HB.o⟩
  | true =>
   go_wp2_with fail;refine (Zit r.aB _ F _ (HQr.o.later Zak HB.o) (HT.o.below HB.o)).mono ?_;rw [Hrok.o, Hr8.o];rintro e x2 ⟨rfl, hcl⟩;clear m0;replace HM := zC hcl HM;replace HB := zh (HB.o.trans (Below.mono hcl HB.o.size));clear hcl;have m0 := Zae HM.o
   cases rok with
   | false =>
    have hR0 : R = false := by rw [HR.o]; simp
    subst hR0;go_wp2_with fail;go_ret;exact ⟨rfl, HB.o⟩
   | true =>
    cases r8 with
    | false =>
     simp only [Bool.not_false] at W0r8;have hR0 : R = false := by rw [HR.o]; simp
     subst hR0;go_wp2_with fail;go_ret;exact ⟨rfl, HB.o⟩
    | true =>
     simp only [Bool.not_true] at W0r8
     cases g12 with
     | false =>
      simp only [Bool.not_false] at W0g12;have hR0 : R = false := by rw [HR.o]; simp
      subst hR0;go_wp2_with fail;go_ret;exact ⟨rfl, HB.o⟩
     | true =>
      simp only [Bool.not_true] at W0g12
      cases s120 with
      | false =>
       simp only [Bool.not_false] at W0s120;have hR0 : R = false := by rw [HR.o]; simp
       subst hR0;go_wp2_with fail;go_ret;exact ⟨rfl, HB.o⟩
      | true =>
       simp only [Bool.not_true] at W0s120;have hs120 : r.aC.size ≤ 120 := of_decide_eq_true Hs120.o
       cases p1 with
       | false =>
        simp only [Bool.not_false] at W0p1;have hR0 : R = false := by rw [HR.o]; simp
        subst hR0;go_wp2_with fail;go_ret;exact ⟨rfl, HB.o⟩
       | true =>
        simp only [Bool.not_true] at W0p1
        cases p2 with
        | false =>
         simp only [Bool.not_false] at W0p2;have hR0 : R = false := by rw [HR.o]; simp
         subst hR0;go_wp2_with fail;go_ret;exact ⟨rfl, HB.o⟩
        | true =>
         simp only [Bool.not_true] at W0p2
         cases a40 with
         | false =>
          simp only [Bool.not_false] at W0a40;have hR0 : R = false := by rw [HR.o]; simp
          subst hR0;go_wp2_with fail;go_ret;exact ⟨rfl, HB.o⟩
         | true =>
          simp only [Bool.not_true] at W0a40;go_wp2_with fail;clear m0
          go_loopw [61] (fun i wr => ∃ j : Nat, i = .int .i64 j ∧ j ≤ r.aE.length ∧ Hd (∀ k (h : k < r.aE.length), k < j → Zdl r r.aE[k] = true) ∧ Hd (wr.heap[M]? = some (.cells #[.slice An r.names.length cn, .slice Ar r.aB.length cr, .slice Ao r.aA.length co, .slice Ag r.globals.length cg, .string r.aC, .int .i64 r.aD, .slice Au r.output.length cu, .slice At r.trace.length ct, .slice Aa r.aE.length ca, .bool r.aF, .int .i64 r.ticks, .int .i64 r.aG, .int .i64 r.made] 30 (0, 0))) ∧ Hd (Below w.heap.size w wr)) (fun i _ => r.aE.length - (intOf i).toNat)
          case atStart => exact ⟨0, rfl, Nat.zero_le _, zh (fun k _ h => by omega), HM, HB⟩
          case round =>
           clear HM HB;obtain ⟨j, rfl, hj, HD, HM, HB⟩ := hrel
           by_cases hlt : j < r.aE.length
           ·have t1 : decide ((j : Int) < r.aE.length) = true := decide_eq_true (by omega);obtain ⟨ob, oo, cs, rfl, _, hob, hE, hc⟩ := (HQa.o.later Zba HB.o).at__ hlt;obtain ⟨rfl, hr64, hf64⟩ := hE;have e0 := hc 0 _ rfl;have e1 := hc 1 _ rfl;simp only [Nat.add_zero] at e0;obtain ⟨y, hy⟩ : ∃ y, r.aE[j] = y := ⟨_, rfl⟩;rw [hy] at e0 e1 hr64 hf64;have HY := zh hy;clear hy hc;have hl4 := (Za.refl wr).alloc (.cells #[.int .i64 y.routine, .int .i64 y.frame] 89);have HM4 := zC hl4 HM;have HB4 := zh (HB.o.trans (Below.mono hl4 HB.o.size));obtain ⟨p, hp⟩ : ∃ p, Zb9 r y.frame 1 = p := ⟨_, rfl⟩;have HH := zh (Zbc r M _ F _ y.frame 1 (⟨HM4.o, Z7.keep HEL.o (fun _ h => h) (Zc.later HB4.o)⟩ : Zai F _ M r _));rw [hp] at HH;have HP := zh hp;clear hp hl4;have HNO : Hd (Zdl r y = false → R = false) := zh (fun e => by rw [HR.o]; have : r.aE.all (Zdl r) = false := Zei hlt (by rw [HY.o]; exact e); rw [← Hacts.o, this]; simp);have m0 := Zae HM4.o
            by_cases h0 : y.routine < 0
            ·have u1 : decide (y.routine < 0) = true := decide_eq_true h0;have hR0 : R = false := HNO.o (by unfold Zdl; rw [decide_eq_false (by omega)]; rfl);subst hR0;clear h0;go_wp2_with fail;go_ret;exact ⟨rfl, HB4.o⟩
            ·have u1 : decide (y.routine < 0) = false := decide_eq_false h0
             by_cases hn : y.routine < (r.names.length : Int)
             ·have u2 : decide ((r.names.length : Int) ≤ y.routine) = false := decide_eq_false (by omega);have HA := zh (show Zdl r y = p by unfold Zdl; rw [decide_eq_true (by omega), decide_eq_true hn, HP.o]; rfl);clear h0 hn;go_wp2_with fail;refine HH.o.mono ?_;rintro e w5 ⟨rfl, rfl⟩
              cases p with
              | true =>
               have HD2 : Hd (∀ k (h : k < r.aE.length), k < j + 1 → Zdl r r.aE[k] = true) := zh (Zdm HD.o (fun _ => by rw [HY.o]; exact HA.o));go_wp2_with fail
               go_roundw
               case rel => exact ⟨j + 1, by go_num, by omega, HD2, HM4, HB4⟩
               case measure => simp [intOf]; omega
              | false =>
               have hR0 : R = false := HNO.o HA.o;subst hR0;go_wp2_with fail;go_ret;exact ⟨rfl, HB4.o⟩
             ·have u2 : decide ((r.names.length : Int) ≤ y.routine) = true := decide_eq_true (by omega);have hR0 : R = false := HNO.o (by unfold Zdl; rw [decide_eq_false hn]; simp);subst hR0;clear h0 hn;go_wp2_with fail;go_ret;exact ⟨rfl, HB4.o⟩
           ·have t1 : decide ((j : Int) < r.aE.length) = false := decide_eq_false (by omega);have h1 : r.aE.all (Zdl r) = true := Zfo (fun k hk => HD.o k hk (by omega));replace HR := zh (show _ = _ from HR.o.trans (by rw [← Hacts.o, h1]));clear h1;go_upto_region 9 with (fail);have m0 := Zae HM.o;go_wp2_with fail
            go_loopw [86] (fun i wr => ∃ j : Nat, i = .int .i64 j ∧ j ≤ r.output.length ∧ Hd (∀ k (h : k < r.output.length), k < j → Zgq r.output[k] = true) ∧ Hd (wr.heap[M]? = some (.cells #[.slice An r.names.length cn, .slice Ar r.aB.length cr, .slice Ao r.aA.length co, .slice Ag r.globals.length cg, .string r.aC, .int .i64 r.aD, .slice Au r.output.length cu, .slice At r.trace.length ct, .slice Aa r.aE.length ca, .bool r.aF, .int .i64 r.ticks, .int .i64 r.aG, .int .i64 r.made] 30 (0, 0))) ∧ Hd (Below w.heap.size w wr)) (fun i _ => r.output.length - (intOf i).toNat)
            case atStart => exact ⟨0, rfl, Nat.zero_le _, zh (fun k _ h => by omega), HM, HB⟩
            case round =>
             clear HM HB m0;obtain ⟨j, rfl, hj, HD, HM, HB⟩ := hrel
             by_cases hlt : j < r.output.length
             ·have t1 : decide ((j : Int) < r.output.length) = true := decide_eq_true (by omega);obtain ⟨ob, oo, cs, rfl, _, hob, hE, hc⟩ := (HQu.o.later Z4 HB.o).at__ hlt;obtain ⟨rfl, hsm⟩ := hE;have e0 := hc 0 _ rfl;simp only [Nat.mul_one, Nat.add_zero] at e0;obtain ⟨y, hy⟩ : ∃ y, r.output[j] = y := ⟨_, rfl⟩;rw [hy] at e0 hsm;have HY := zh hy;clear hy hc
              by_cases h120 : y.size ≤ 120
              ·have u1 : decide (120 < (y.size : Int)) = false := decide_eq_false (by omega);have HD2 : Hd (∀ k (h : k < r.output.length), k < j + 1 → Zgq r.output[k] = true) := zh (Zdm HD.o (fun _ => by rw [HY.o]; exact decide_eq_true h120));clear h120 hsm;go_wp2_with fail
               go_roundw
               case rel => exact ⟨j + 1, by go_num, by omega, HD2, HM, HB⟩
               case measure => simp [intOf]; omega
              ·have u1 : decide (120 < (y.size : Int)) = true := decide_eq_true (by omega);have hR0 : R = false := by rw [HR.o]; have : r.output.all Zgq = false := Zei hlt (by rw [HY.o]; exact decide_eq_false h120); rw [← Houts.o, this]; simp
               subst hR0;clear h120 hsm;go_wp2_with fail;go_ret;exact ⟨rfl, HB.o⟩
             ·have t1 : decide ((j : Int) < r.output.length) = false := decide_eq_false (by omega);have h1 : r.output.all Zgq = true := Zfo (fun k hk => HD.o k hk (by omega));replace HR := zh (show _ = _ from HR.o.trans (by rw [← Houts.o, h1]));clear h1;go_upto_region 15 with (fail);have m0 := Zae HM.o
              cases b0 with
              | false =>
               simp only [Bool.not_false] at W0b0;have hR0 : R = false := by rw [HR.o]; simp
               subst hR0;go_wp2_with fail;go_ret;exact ⟨rfl, HB.o⟩
              | true =>
               simp only [Bool.not_true] at W0b0
               cases b4 with
               | false =>
                simp only [Bool.not_false] at W0b4;have hR0 : R = false := by rw [HR.o]; simp
                subst hR0;go_wp2_with fail;go_ret;exact ⟨rfl, HB.o⟩
               | true =>
                simp only [Bool.not_true] at W0b4
                cases t0 with
                | false =>
                 simp only [Bool.not_false] at W0t0;have hR0 : R = false := by rw [HR.o]; simp
                 subst hR0;go_wp2_with fail;go_ret;exact ⟨rfl, HB.o⟩
                | true =>
                 simp only [Bool.not_true] at W0t0
                 cases tb with
                 | false =>
                  simp only [Bool.not_false] at W0tb;have hR0 : R = false := by rw [HR.o]; simp
                  subst hR0;go_wp2_with fail;go_ret;exact ⟨rfl, HB.o⟩
                 | true =>
                  simp only [Bool.not_true] at W0tb
                  cases m0_ with
                  | false =>
                   simp only [Bool.not_false] at W0m0_;have hR0 : R = false := by rw [HR.o]; simp
                   subst hR0;go_wp2_with fail;go_ret;exact ⟨rfl, HB.o⟩
                  | true =>
                   simp only [Bool.not_true] at W0m0_;go_wp2_with fail;refine (Zbs r M _ F _ r.globals _ (⟨HM.o, Z7.keep HEL.o (fun _ h => h) (Zc.later HB.o)⟩ : Zai F _ M r _) (HQg.o.later Zb HB.o)).mono ?_;rw [Hgl.o];rintro e x3 ⟨rfl, hcl⟩;clear m0;replace HM := zC hcl HM;replace HB := zh (HB.o.trans (Below.mono hcl HB.o.size));clear hcl
                   cases gl with
                   | false =>
                    have hR0 : R = false := by rw [HR.o]; simp
                    subst hR0;go_wp2_with fail;go_ret;exact ⟨rfl, HB.o⟩
                   | true =>
                    have m0 := Zae HM.o;have hmm := @run_makeMap Tryz.prog;have HM3 := zh (((Za.refl x3).alloc (.map #[] 0)).block _ (Zd HM.o) |>.trans HM.o);have q2 := cq HM3.o 2;simp only [nD, nE, nF] at q2;go_wp2_with fail;clear hmm q2;have HMP := zh (Zc1.start x3 r.aA);obtain ⟨b, hb⟩ : ∃ b, x3.heap.size = b := ⟨_, rfl⟩;rw [hb] at HMP ⊢;have hMb : M < b := by rw [← hb]; exact Zd HM.o
                    have hWb : w.heap.size ≤ b := by rw [HMS.o]; omega
                    have HB3 := zh (HB.o.trans (Below.mono ((Za.refl x3).alloc (.map #[] 0)) HB.o.size));clear HM HB hb
                    go_loopw [129] (fun i wr => ∃ j : Nat, i = .int .i64 j ∧ j ≤ r.aA.length ∧ Hd (∀ k (h : k < r.aA.length), k < j → Za5 r r.aA[k] = true) ∧ Hd (∀ k (h : k < r.aA.length), k < j → r.aA[k].aI = 0 ∨ ∀ i (hi : i < r.aA.length), i < k → r.aA[i].aI ≠ r.aA[k].aI) ∧ Hd (Zc1 wr b r.aA j) ∧ Hd (wr.heap[M]? = some (.cells #[.slice An r.names.length cn, .slice Ar r.aB.length cr, .slice Ao r.aA.length co, .slice Ag r.globals.length cg, .string r.aC, .int .i64 r.aD, .slice Au r.output.length cu, .slice At r.trace.length ct, .slice Aa r.aE.length ca, .bool r.aF, .int .i64 r.ticks, .int .i64 r.aG, .int .i64 r.made] 30 (0, 0))) ∧ Hd (Below w.heap.size w wr)) (fun i _ => r.aA.length - (intOf i).toNat)
                    case atStart => exact ⟨0, rfl, Nat.zero_le _, zh (fun k _ h => by omega), zh (fun k _ h => by omega), HMP, HM3, HB3⟩
                    case round =>
                     obtain ⟨j, rfl, hj, HD, HE, HMP, HM, HB⟩ := hrel
                     by_cases hlt : j < r.aA.length
                     ·have t1 : decide ((j : Int) < r.aA.length) = true := decide_eq_true (by omega);obtain ⟨ob, oo, Ai, ci, Ak, ck, rfl, hob, e0, e1, e2, e3, e4, hrI, hrK, hk64, ht64, hs64⟩ := Zai.obj (HQo.o.later Za9 HB.o) hlt;have HRI := zh hrI;have HRK := zh hrK;have HJ := zh (show j ≤ 1048576 by have := HOL.o; omega);obtain ⟨y, hy⟩ : ∃ y, r.aA[j] = y := ⟨_, rfl⟩;have HKZ := zh (HSO.o j hlt);rw [hy] at e0 e1 e2 e3 e4 HRI HRK hk64 ht64 hs64 HKZ;have HY := zh hy;have H64 := zh (show Zac y.kind ∧ Zac y.tag ∧ Zac y.aI from ⟨hk64, ht64, hs64⟩);clear hy hrI hrK hk64 ht64 hs64;have hl4 := (Za.refl wr).alloc (.cells #[.int .i64 y.kind, .int .i64 y.tag, .int .i64 y.aI, .slice Ai y.aJ.length ci, .slice Ak y.aK.length ck] 94);have HN := zh (heap_alloc_new wr (.cells #[.int .i64 y.kind, .int .i64 y.tag, .int .i64 y.aI, .slice Ai y.aJ.length ci, .slice Ak y.aK.length ck] 94));have hbN : b < wr.heap.size := HMP.o.lt;obtain ⟨N, hN⟩ : ∃ N, wr.heap.size = N := ⟨_, rfl⟩;have HM4 := zC hl4 HM;have HB4 := zh (HB.o.trans (Below.mono hl4 HB.o.size));have HMP4 := zh (HMP.o.same (hl4.block _ HMP.o.lt));obtain ⟨p, hp⟩ : ∃ p, Za5 r y = p := ⟨_, rfl⟩;have HP := zh hp;have HH := zh (Zjl r M _ F _ y _ (⟨HM4.o, Z7.keep HEL.o (fun _ h => h) (Zc.later HB4.o)⟩ : Zai F _ M r _) (⟨_, _, rfl, H64.o.1, H64.o.2.1, H64.o.2.2, HRI.o.keep Zb (fun _ h => h) (Zc.later hl4), HRK.o.keep Zb (fun _ h => h) (Zc.later hl4)⟩ : Zbq F _ y [.int .i64 y.kind, .int .i64 y.tag, .int .i64 y.aI, .slice Ai y.aJ.length ci, .slice Ak y.aK.length ck]) HKZ.o)
                      rw [hp] at HH;rw [hN] at HN hbN;clear hp hl4 HM HB HMP;go_wp2_with fail;refine HH.o.mono ?_;rintro e w5 ⟨rfl, hcl⟩;clear e0 e1 e2 e3 e4 hob
                      try rw [hN]
                      have HM := zC hcl HM4;have HB := zh (HB4.o.trans (Below.mono hcl HB4.o.size));have HMP := zh (HMP4.o.same (Below.block hcl _ HMP4.o.lt));have HN5 := zC hcl HN;clear hcl HM4 HB4 HMP4 HN hN HH;have f2 := cq HN5.o 2;simp only [nD, nE, nF] at f2
                      cases p with
                      | false =>
                       have hR0 : R = false := by rw [HR.o]; have : r.aA.all (Za5 r) = false := Zei hlt (by rw [HY.o]; exact HP.o); rw [← Hobjs.o, this]; simp
                       subst hR0;go_wp2_with fail;go_ret;exact ⟨rfl, HB.o⟩
                      | true =>
                       have HD2 : Hd (∀ k (h : k < r.aA.length), k < j + 1 → Za5 r r.aA[k] = true) := zh (Zdm HD.o (fun _ => by rw [HY.o]; exact HP.o))
                       by_cases hs0 : y.aI = 0
                       ·have u1 : (y.aI != 0) = false := by rw [← Bool.not_eq_true, bne_iff_ne]; omega
                        have HE2 : Hd (∀ k (h : k < r.aA.length), k < j + 1 → r.aA[k].aI = 0 ∨ ∀ i (hi : i < r.aA.length), i < k → r.aA[i].aI ≠ r.aA[k].aI) := zh (fun k hk h => by
                         rcases Nat.lt_or_ge k j with h1 | h1
                         ·exact HE.o k hk h1
                         ·obtain rfl : k = j := by omega
                          exact .inl (by rw [HY.o]; exact hs0))
                        have HMP2 := zh (HMP.o.zero hlt (by rw [HY.o]; exact hs0));clear hs0;go_wp2_with fail
                        go_roundw
                        case rel => exact ⟨j + 1, by go_num, by omega, HD2, HE2, HMP2, HM, HB⟩
                        case measure => simp [intOf]; omega
                       ·have u1 : (y.aI != 0) = true := bne_iff_ne.2 hs0;have HS0 := zh hs0;clear hs0;obtain ⟨q, hq⟩ : ∃ q, Zfd r.aA j y.aI = q := ⟨_, rfl⟩;have HQ := zh hq;clear hq
                        cases q with
                        | true =>
                         have hR0 : R = false := by
                          have h1 := HQ.o;unfold Zfd at h1;rw [nJ] at h1;obtain ⟨_, q, hq, hqj, hqs⟩ := h1;rw [HR.o, ← Hsers.o, Zi9 hlt (by rw [HY.o]; exact HS0.o) hqj (by rw [HY.o]; exact hqs)];simp
                         subst hR0
                         go_wp2_with (at_lookup; refine Zc1.look HMP.o H64.o.2.2 rfl _ _ rfl rfl rfl ?_; rw [HQ.o])
                         go_ret;exact ⟨rfl, HB.o⟩
                        | false =>
                         have HE2 : Hd (∀ k (h : k < r.aA.length), k < j + 1 → r.aA[k].aI = 0 ∨ ∀ i (hi : i < r.aA.length), i < k → r.aA[i].aI ≠ r.aA[k].aI) := zh (fun k hk h => by
                          rcases Nat.lt_or_ge k j with h1 | h1
                          ·exact HE.o k hk h1
                          ·obtain rfl : k = j := by omega
                           refine .inr (fun i hi hik hs => ?_);have h2 := HQ.o;unfold Zfd at h2;rw [nI] at h2;exact h2 ⟨HS0.o, i, hi, hik, by rw [hs, HY.o]⟩)
                         go_wp2_with (first | (at_lookup; refine Zc1.look HMP.o H64.o.2.2 rfl _ _ rfl rfl rfl ?_; rw [HQ.o]) | (at_mapUpdate; refine Zc1.store HMP.o hlt (by rw [HY.o]; exact H64.o.2.2) (by rw [HY.o]; exact HS0.o) HJ.o rfl _ _ _ rfl rfl (by rw [HY.o]; rfl) rfl ?_; intro w6 hmp6 hgr6))
                         have HB6 := zh (HB.o.grown hgr6 HB.o.size (fun k hk => by cases hk; exact hWb));have HM6 := zh ((hgr6.block M (Zd HM.o) (by intro h; cases h; omega)).trans HM.o);have HMP6 := zh hmp6;clear hmp6 hgr6
                         go_roundw
                         case rel => exact ⟨j + 1, by go_num, by omega, HD2, HE2, HMP6, HM6, HB6⟩
                         case measure => simp [intOf]; omega
                     ·have t1 : decide ((j : Int) < r.aA.length) = false := decide_eq_false (by omega);have h1 : r.aA.all (Za5 r) = true := Zfo (fun k hk => HD.o k hk (by omega));have h2 : Zd0 r.aA = true := Zh8 (fun k hk => HE.o k hk (by omega));have hR0 : R = true := by rw [HR.o, ← Hobjs.o, ← Hsers.o, h1, h2]; rfl
                      subst hR0;clear h1 h2;go_wp2_with fail;go_ret;exact ⟨rfl, HB.o⟩
theorem Zr6 (r : Zh) (B : Nat) (cs : List Value) (F : Nat → Prop) (w : World) (tag aI : Int) (aJ aK : List Zj) (vi vk : Value) (h : Zai F w B r cs) (hi : Zu Ze 6 F w aJ vi) (hk : Zu Ze 6 F w aK vk) (hkz : aK.length ≤ 1048576) :
  Calls Tryz.prog 100 #[.pointer (some ⟨B, 0, none⟩), .agg #[.int .i64 1, .int .i64 tag, .int .i64 aI, vi, vk]] w fun e w' => e = .returned (.bool (Za5 r ⟨1, tag, aI, aJ, aK⟩)) ∧ Below w.heap.size w w' := by
 obtain ⟨R, hR⟩ : ∃ R, Za5 r ⟨1, tag, aI, aJ, aK⟩ = R := ⟨_, rfl⟩;rw [hR];have HR0 := zh hR;clear hR;obtain ⟨Ai, ci, rfl, hci, hcmi, _⟩ := id hi;obtain ⟨Ak, ck, rfl, hck, hcmk, _⟩ := id hk;unfold maxLen at hcmi hcmk;have hl1 := (Za.refl w).alloc (.cells #[.int .i64 1, .int .i64 tag, .int .i64 aI, .slice Ai aJ.length ci, .slice Ak aK.length ck] 94);have HS := zh (h.later hl1);have HI := zh (hi.later Zb hl1);have HK := zh (hk.later Zb hl1);have HM := zh (heap_alloc_new w (.cells #[.int .i64 1, .int .i64 tag, .int .i64 aI, .slice Ai aJ.length ci, .slice Ak aK.length ck] 94));have HB := zh hl1;obtain ⟨w1, hw1⟩ : ∃ x, x = w.alloc (.cells #[.int .i64 1, .int .i64 tag, .int .i64 aI, .slice Ai aJ.length ci, .slice Ak aK.length ck] 94) := ⟨_, rfl⟩;rw [← hw1] at HS HI HK HM HB;have HLC := zh (Za.refl w1);clear h hi hk hl1;obtain ⟨s0, hs0⟩ : ∃ q, (aI == 0) = q := ⟨_, rfl⟩;have W0s0 : (aI != 0) = !s0 := by rw [← hs0]; exact (by rw [Bool.eq_iff_iff]; simp only [nJ, nK, nL, ne_eq, nM, nI, nH] <;> omega)
 obtain ⟨tg, htg⟩ : ∃ q, (tag == 0) = q := ⟨_, rfl⟩;have W0tg : (tag != 0) = !tg := by rw [← htg]; exact (by rw [Bool.eq_iff_iff]; simp only [nJ, nK, nL, ne_eq, nM, nI, nH] <;> omega)
 have W1tg : (tag == 0) = tg := htg;obtain ⟨ky, hky⟩ : ∃ q, (decide (aK.length = 0)) = q := ⟨_, rfl⟩;have W0ky : ((aK.length : Int) != 0) = !ky := by rw [← hky]; exact (by rw [Bool.eq_iff_iff]; simp only [nJ, nK, nL, ne_eq, nM, nI, nH] <;> omega)
 have W1ky : ((aK.length : Int) == 0) = ky := by rw [← hky]; exact (by rw [Bool.eq_iff_iff]; simp only [nJ, nK, nL, ne_eq, nM, nI, nH] <;> omega)
 obtain ⟨b1, hb1⟩ : ∃ q, (decide (aJ.length ≤ 24)) = q := ⟨_, rfl⟩;have W0b1 : (decide ((aJ.length : Int) ≤ 24)) = b1 := by rw [← hb1]; exact (by rw [Bool.eq_iff_iff]; simp only [nJ, nK, nL, ne_eq, nM, nI, nH] <;> omega)
 obtain ⟨ai, hai⟩ : ∃ q, (Zbi r aJ) = q := ⟨_, rfl⟩;have HR := zh (show R = (s0 && (tg && (ky && (b1 && (ai))))) by rw [← HR0.o, ← hs0, ← htg, ← hky, ← hb1, ← hai]; try rfl);have Hs0 := zh hs0;clear hs0;have Htg := zh htg;clear htg;have Hky := zh hky;clear hky;have Hb1 := zh hb1;clear hb1;have Hai := zh hai;clear hai;go_enter Tryz.func100, Tryz.ntmps100;go_upto_region 4 with (fail);rw [← hw1];clear hw1;have HMC := zB HLC HM;have m0 := cz5 HMC.o
 cases s0 with
 | false =>
  simp only [Bool.not_false] at W0s0;have hR0 : R = false := by rw [HR.o]; simp
  subst hR0;go_wp2_with fail;go_ret;exact ⟨rfl, HB.o.trans HLC.o⟩
 | true =>
  simp only [Bool.not_true] at W0s0
  cases tg with
  | false =>
   simp only [Bool.not_false] at W0tg;have hR0 : R = false := by rw [HR.o]; simp
   subst hR0;go_wp2_with fail;go_ret;exact ⟨rfl, HB.o.trans HLC.o⟩
  | true =>
   simp only [Bool.not_true] at W0tg
   cases ky with
   | false =>
    simp only [Bool.not_false] at W0ky;have hR0 : R = false := by rw [HR.o]; simp
    subst hR0;go_wp2_with fail;go_ret;exact ⟨rfl, HB.o.trans HLC.o⟩
   | true =>
    simp only [Bool.not_true] at W0ky
    cases b1 with
    | false =>
     have hR0 : R = false := by rw [HR.o]; simp
     subst hR0;go_wp2_with fail;go_ret;exact ⟨rfl, HB.o.trans HLC.o⟩
    | true =>
     go_wp2_with fail;refine (Zcl r B cs F _ aJ _ (HS.o.later HLC.o) (HI.o.later Zb HLC.o)).mono ?_;rw [Hai.o];rintro e w5 ⟨rfl, hcl⟩;clear HMC m0;replace HLC := zh (HLC.o.trans hcl);clear hcl;have hR0 : R = ai := by rw [HR.o]; simp
     subst hR0;go_wp2_with fail;go_ret;exact ⟨rfl, HB.o.trans HLC.o⟩
theorem Zr7 (r : Zh) (B : Nat) (cs : List Value) (F : Nat → Prop) (w : World) (tag aI : Int) (aJ aK : List Zj) (vi vk : Value) (h : Zai F w B r cs) (hi : Zu Ze 6 F w aJ vi) (hk : Zu Ze 6 F w aK vk) (hkz : aK.length ≤ 1048576) :
  Calls Tryz.prog 100 #[.pointer (some ⟨B, 0, none⟩), .agg #[.int .i64 2, .int .i64 tag, .int .i64 aI, vi, vk]] w fun e w' => e = .returned (.bool (Za5 r ⟨2, tag, aI, aJ, aK⟩)) ∧ Below w.heap.size w w' := by
 obtain ⟨R, hR⟩ : ∃ R, Za5 r ⟨2, tag, aI, aJ, aK⟩ = R := ⟨_, rfl⟩;rw [hR];have HR0 := zh hR;clear hR;obtain ⟨Ai, ci, rfl, hci, hcmi, _⟩ := id hi;obtain ⟨Ak, ck, rfl, hck, hcmk, _⟩ := id hk;unfold maxLen at hcmi hcmk;have hl1 := (Za.refl w).alloc (.cells #[.int .i64 2, .int .i64 tag, .int .i64 aI, .slice Ai aJ.length ci, .slice Ak aK.length ck] 94);have HS := zh (h.later hl1);have HI := zh (hi.later Zb hl1);have HK := zh (hk.later Zb hl1);have HM := zh (heap_alloc_new w (.cells #[.int .i64 2, .int .i64 tag, .int .i64 aI, .slice Ai aJ.length ci, .slice Ak aK.length ck] 94));have HB := zh hl1;obtain ⟨w1, hw1⟩ : ∃ x, x = w.alloc (.cells #[.int .i64 2, .int .i64 tag, .int .i64 aI, .slice Ai aJ.length ci, .slice Ak aK.length ck] 94) := ⟨_, rfl⟩;rw [← hw1] at HS HI HK HM HB;have HLC := zh (Za.refl w1);clear h hi hk hl1;obtain ⟨s1, hs1⟩ : ∃ q, (decide (1 ≤ aI)) = q := ⟨_, rfl⟩;have W0s1 : (decide (aI < 1)) = !s1 := by rw [← hs1]; exact (by rw [Bool.eq_iff_iff]; simp only [nJ, nK, nL, ne_eq, nM, nI, nH] <;> omega)
 obtain ⟨s2, hs2⟩ : ∃ q, (decide (aI ≤ r.made)) = q := ⟨_, rfl⟩;have W0s2 : (decide (r.made < aI)) = !s2 := by rw [← hs2]; exact (by rw [Bool.eq_iff_iff]; simp only [nJ, nK, nL, ne_eq, nM, nI, nH] <;> omega)
 obtain ⟨tg, htg⟩ : ∃ q, (tag == 0) = q := ⟨_, rfl⟩;have W0tg : (tag != 0) = !tg := by rw [← htg]; exact (by rw [Bool.eq_iff_iff]; simp only [nJ, nK, nL, ne_eq, nM, nI, nH] <;> omega)
 have W1tg : (tag == 0) = tg := htg;obtain ⟨ky, hky⟩ : ∃ q, (decide (aK.length = 0)) = q := ⟨_, rfl⟩;have W0ky : ((aK.length : Int) != 0) = !ky := by rw [← hky]; exact (by rw [Bool.eq_iff_iff]; simp only [nJ, nK, nL, ne_eq, nM, nI, nH] <;> omega)
 have W1ky : ((aK.length : Int) == 0) = ky := by rw [← hky]; exact (by rw [Bool.eq_iff_iff]; simp only [nJ, nK, nL, ne_eq, nM, nI, nH] <;> omega)
 obtain ⟨b1, hb1⟩ : ∃ q, (decide (aJ.length ≤ 40)) = q := ⟨_, rfl⟩;have W0b1 : (decide ((aJ.length : Int) ≤ 40)) = b1 := by rw [← hb1]; exact (by rw [Bool.eq_iff_iff]; simp only [nJ, nK, nL, ne_eq, nM, nI, nH] <;> omega)
 obtain ⟨ai, hai⟩ : ∃ q, (Zbi r aJ) = q := ⟨_, rfl⟩;have HR := zh (show R = ((s1 && s2) && (tg && (ky && (b1 && (ai))))) by rw [← HR0.o, ← hs1, ← hs2, ← htg, ← hky, ← hb1, ← hai]; try rfl);have Hs1 := zh hs1;clear hs1;have Hs2 := zh hs2;clear hs2;have Htg := zh htg;clear htg;have Hky := zh hky;clear hky;have Hb1 := zh hb1;clear hb1;have Hai := zh hai;clear hai;go_enter Tryz.func100, Tryz.ntmps100;go_upto_region 2 with (fail);rw [← hw1];clear hw1
 cases s1 with
 | false =>
  simp only [Bool.not_false] at W0s1;refine Z6 (fun W hW => ?_);have hWL : Za w1 W := by rw [hW]; exact (Za.refl _).drew
  clear hW;replace HLC := zh (HLC.o.trans hWL);clear hWL;have HMC := zB HLC HM;have m0 := cz5 HMC.o;have y12 := (HS.o.later HLC.o).made_;have hMB := Zd HMC.o;have hSB := (HS.o.later HLC.o).lt
  repeat go_big_quiet_step (fail)
  refine wpQuiet_nil ?_;have hR0 : R = false := by rw [HR.o]; simp
  subst hR0;go_wp2_with fail;go_ret;exact ⟨rfl, HB.o.trans HLC.o⟩
 | true =>
  simp only [Bool.not_true] at W0s1
  cases s2 with
  | false =>
   simp only [Bool.not_false] at W0s2;refine Z6 (fun W hW => ?_);have hWL : Za w1 W := by rw [hW]; exact (Za.refl _).drew
   clear hW;replace HLC := zh (HLC.o.trans hWL);clear hWL;have HMC := zB HLC HM;have m0 := cz5 HMC.o;have y12 := (HS.o.later HLC.o).made_;have hMB := Zd HMC.o;have hSB := (HS.o.later HLC.o).lt
   repeat go_big_quiet_step (fail)
   refine wpQuiet_nil ?_;have hR0 : R = false := by rw [HR.o]; simp
   subst hR0;go_wp2_with fail;go_ret;exact ⟨rfl, HB.o.trans HLC.o⟩
  | true =>
   simp only [Bool.not_true] at W0s2;refine Z6 (fun V hV => ?_);have hVL : Za w1 V := by rw [hV]; exact (Za.refl _).drew
   clear hV;replace HLC := zh (HLC.o.trans hVL);clear hVL;have HMC := zB HLC HM;have m0 := cz5 HMC.o;have y12 := (HS.o.later HLC.o).made_;have hMB := Zd HMC.o;have hSB := (HS.o.later HLC.o).lt
   repeat go_big_quiet_step (fail)
   refine wpQuiet_nil ?_;clear y12 hMB hSB
   cases tg with
   | false =>
    simp only [Bool.not_false] at W0tg;have hR0 : R = false := by rw [HR.o]; simp
    subst hR0;go_wp2_with fail;go_ret;exact ⟨rfl, HB.o.trans HLC.o⟩
   | true =>
    simp only [Bool.not_true] at W0tg
    cases ky with
    | false =>
     simp only [Bool.not_false] at W0ky;have hR0 : R = false := by rw [HR.o]; simp
     subst hR0;go_wp2_with fail;go_ret;exact ⟨rfl, HB.o.trans HLC.o⟩
    | true =>
     simp only [Bool.not_true] at W0ky
     cases b1 with
     | false =>
      have hR0 : R = false := by rw [HR.o]; simp
      subst hR0;go_wp2_with fail;go_ret;exact ⟨rfl, HB.o.trans HLC.o⟩
     | true =>
      go_wp2_with fail;refine (Zcl r B cs F _ aJ _ (HS.o.later HLC.o) (HI.o.later Zb HLC.o)).mono ?_;rw [Hai.o];rintro e w5 ⟨rfl, hcl⟩;clear HMC m0;replace HLC := zh (HLC.o.trans hcl);clear hcl;have hR0 : R = ai := by rw [HR.o]; simp
      subst hR0;go_wp2_with fail;go_ret;exact ⟨rfl, HB.o.trans HLC.o⟩
theorem Zr8 (r : Zh) (B : Nat) (cs : List Value) (F : Nat → Prop) (w : World) (tag aI : Int) (aJ aK : List Zj) (vi vk : Value) (h : Zai F w B r cs) (hi : Zu Ze 6 F w aJ vi) (hk : Zu Ze 6 F w aK vk) (hkz : aK.length ≤ 1048576) :
  Calls Tryz.prog 100 #[.pointer (some ⟨B, 0, none⟩), .agg #[.int .i64 3, .int .i64 tag, .int .i64 aI, vi, vk]] w fun e w' => e = .returned (.bool (Za5 r ⟨3, tag, aI, aJ, aK⟩)) ∧ Below w.heap.size w w' := by
 obtain ⟨R, hR⟩ : ∃ R, Za5 r ⟨3, tag, aI, aJ, aK⟩ = R := ⟨_, rfl⟩;rw [hR];have HR0 := zh hR;clear hR;obtain ⟨Ai, ci, rfl, hci, hcmi, _⟩ := id hi;obtain ⟨Ak, ck, rfl, hck, hcmk, _⟩ := id hk;unfold maxLen at hcmi hcmk;have hl1 := (Za.refl w).alloc (.cells #[.int .i64 3, .int .i64 tag, .int .i64 aI, .slice Ai aJ.length ci, .slice Ak aK.length ck] 94);have HS := zh (h.later hl1);have HI := zh (hi.later Zb hl1);have HK := zh (hk.later Zb hl1);have HM := zh (heap_alloc_new w (.cells #[.int .i64 3, .int .i64 tag, .int .i64 aI, .slice Ai aJ.length ci, .slice Ak aK.length ck] 94));have HB := zh hl1;obtain ⟨w1, hw1⟩ : ∃ x, x = w.alloc (.cells #[.int .i64 3, .int .i64 tag, .int .i64 aI, .slice Ai aJ.length ci, .slice Ak aK.length ck] 94) := ⟨_, rfl⟩;rw [← hw1] at HS HI HK HM HB;have HLC := zh (Za.refl w1);clear h hi hk hl1;obtain ⟨s1, hs1⟩ : ∃ q, (decide (1 ≤ aI)) = q := ⟨_, rfl⟩;have W0s1 : (decide (aI < 1)) = !s1 := by rw [← hs1]; exact (by rw [Bool.eq_iff_iff]; simp only [nJ, nK, nL, ne_eq, nM, nI, nH] <;> omega)
 obtain ⟨s2, hs2⟩ : ∃ q, (decide (aI ≤ r.made)) = q := ⟨_, rfl⟩;have W0s2 : (decide (r.made < aI)) = !s2 := by rw [← hs2]; exact (by rw [Bool.eq_iff_iff]; simp only [nJ, nK, nL, ne_eq, nM, nI, nH] <;> omega)
 obtain ⟨tg, htg⟩ : ∃ q, (tag == 0) = q := ⟨_, rfl⟩;have W0tg : (tag != 0) = !tg := by rw [← htg]; exact (by rw [Bool.eq_iff_iff]; simp only [nJ, nK, nL, ne_eq, nM, nI, nH] <;> omega)
 have W1tg : (tag == 0) = tg := htg;obtain ⟨b1, hb1⟩ : ∃ q, (decide (aK.length ≤ 40)) = q := ⟨_, rfl⟩;have W0b1 : (decide ((aK.length : Int) ≤ 40)) = b1 := by rw [← hb1]; exact (by rw [Bool.eq_iff_iff]; simp only [nJ, nK, nL, ne_eq, nM, nI, nH] <;> omega)
 obtain ⟨b2, hb2⟩ : ∃ q, (decide (aJ.length = aK.length + 1)) = q := ⟨_, rfl⟩;have W0b2 : ((aJ.length : Int) == (aK.length : Int) + 1) = b2 := by rw [← hb2]; exact (by rw [Bool.eq_iff_iff]; simp only [nJ, nK, nL, ne_eq, nM, nI, nH] <;> omega)
 have W1b2 : ((aJ.length : Int) == 1 + (aK.length : Int)) = b2 := by rw [← hb2]; exact (by rw [Bool.eq_iff_iff]; simp only [nJ, nK, nL, ne_eq, nM, nI, nH] <;> omega)
 obtain ⟨ai, hai⟩ : ∃ q, (Zbi r aJ) = q := ⟨_, rfl⟩;obtain ⟨ak, hak⟩ : ∃ q, (Zbi r aK) = q := ⟨_, rfl⟩;obtain ⟨di, hdi⟩ : ∃ q, (Zca aK) = q := ⟨_, rfl⟩;have HR := zh (show R = ((s1 && s2) && (tg && (b1 && (b2 && (ai && (ak && (di))))))) by rw [← HR0.o, ← hs1, ← hs2, ← htg, ← hb1, ← hb2, ← hai, ← hak, ← hdi]; try rfl);have Hs1 := zh hs1;clear hs1;have Hs2 := zh hs2;clear hs2;have Htg := zh htg;clear htg;have Hb1 := zh hb1;clear hb1;have Hb2 := zh hb2;clear hb2;have Hai := zh hai;clear hai;have Hak := zh hak;clear hak;have Hdi := zh hdi;clear hdi;go_enter Tryz.func100, Tryz.ntmps100;go_upto_region 2 with (fail);rw [← hw1];clear hw1
 cases s1 with
 | false =>
  simp only [Bool.not_false] at W0s1;refine Z6 (fun W hW => ?_);have hWL : Za w1 W := by rw [hW]; exact (Za.refl _).drew
  clear hW;replace HLC := zh (HLC.o.trans hWL);clear hWL;have HMC := zB HLC HM;have m0 := cz5 HMC.o;have y12 := (HS.o.later HLC.o).made_;have hMB := Zd HMC.o;have hSB := (HS.o.later HLC.o).lt
  repeat go_big_quiet_step (fail)
  refine wpQuiet_nil ?_;have hR0 : R = false := by rw [HR.o]; simp
  subst hR0;go_wp2_with fail;go_ret;exact ⟨rfl, HB.o.trans HLC.o⟩
 | true =>
  simp only [Bool.not_true] at W0s1
  cases s2 with
  | false =>
   simp only [Bool.not_false] at W0s2;refine Z6 (fun W hW => ?_);have hWL : Za w1 W := by rw [hW]; exact (Za.refl _).drew
   clear hW;replace HLC := zh (HLC.o.trans hWL);clear hWL;have HMC := zB HLC HM;have m0 := cz5 HMC.o;have y12 := (HS.o.later HLC.o).made_;have hMB := Zd HMC.o;have hSB := (HS.o.later HLC.o).lt
   repeat go_big_quiet_step (fail)
   refine wpQuiet_nil ?_;have hR0 : R = false := by rw [HR.o]; simp
   subst hR0;go_wp2_with fail;go_ret;exact ⟨rfl, HB.o.trans HLC.o⟩
  | true =>
   simp only [Bool.not_true] at W0s2;refine Z6 (fun V hV => ?_);have hVL : Za w1 V := by rw [hV]; exact (Za.refl _).drew
   clear hV;replace HLC := zh (HLC.o.trans hVL);clear hVL;have HMC := zB HLC HM;have m0 := cz5 HMC.o;have y12 := (HS.o.later HLC.o).made_;have hMB := Zd HMC.o;have hSB := (HS.o.later HLC.o).lt
   repeat go_big_quiet_step (fail)
   refine wpQuiet_nil ?_;clear y12 hMB hSB
   cases tg with
   | false =>
    simp only [Bool.not_false] at W0tg;have hR0 : R = false := by rw [HR.o]; simp
    subst hR0;go_wp2_with fail;go_ret;exact ⟨rfl, HB.o.trans HLC.o⟩
   | true =>
    simp only [Bool.not_true] at W0tg
    cases b1 with
    | false =>
     have hR0 : R = false := by rw [HR.o]; simp
     subst hR0;go_wp2_with fail;go_ret;exact ⟨rfl, HB.o.trans HLC.o⟩
    | true =>
     cases b2 with
     | false =>
      have hR0 : R = false := by rw [HR.o]; simp
      subst hR0;go_wp2_with fail;go_ret;exact ⟨rfl, HB.o.trans HLC.o⟩
     | true =>
      go_wp2_with fail;refine (Zcl r B cs F _ aJ _ (HS.o.later HLC.o) (HI.o.later Zb HLC.o)).mono ?_;rw [Hai.o];rintro e w5 ⟨rfl, hcl⟩;clear HMC m0;replace HLC := zh (HLC.o.trans hcl);clear hcl;have HMC := zB HLC HM;have m0 := cz5 HMC.o
      cases ai with
      | false =>
       have hR0 : R = false := by rw [HR.o]; simp
       subst hR0;go_wp2_with fail;go_ret;exact ⟨rfl, HB.o.trans HLC.o⟩
      | true =>
       go_wp2_with fail;refine (Zcl r B cs F _ aK _ (HS.o.later HLC.o) (HK.o.later Zb HLC.o)).mono ?_;rw [Hak.o];rintro e w6 ⟨rfl, hcl⟩;clear HMC m0;replace HLC := zh (HLC.o.trans hcl);clear hcl;have HMC := zB HLC HM;have m0 := cz5 HMC.o
       cases ak with
       | false =>
        have hR0 : R = false := by rw [HR.o]; simp
        subst hR0;go_wp2_with fail;go_ret;exact ⟨rfl, HB.o.trans HLC.o⟩
       | true =>
        go_wp2_with fail;refine (Zge aK _ F _ (HK.o.later Zb HLC.o)).mono ?_;rw [Hdi.o];rintro e w7 ⟨rfl, hcl⟩;clear HMC m0;replace HLC := zh (HLC.o.trans hcl);clear hcl;have hR0 : R = di := by rw [HR.o]; simp
        subst hR0;go_wp2_with fail;go_ret;exact ⟨rfl, HB.o.trans HLC.o⟩
theorem Zr9 (r : Zh) (B : Nat) (cs : List Value) (F : Nat → Prop) (w : World) (tag aI : Int) (aJ aK : List Zj) (vi vk : Value) (h : Zai F w B r cs) (hi : Zu Ze 6 F w aJ vi) (hk : Zu Ze 6 F w aK vk) (hkz : aK.length ≤ 1048576) :
  Calls Tryz.prog 100 #[.pointer (some ⟨B, 0, none⟩), .agg #[.int .i64 4, .int .i64 tag, .int .i64 aI, vi, vk]] w fun e w' => e = .returned (.bool (Za5 r ⟨4, tag, aI, aJ, aK⟩)) ∧ Below w.heap.size w w' := by
 obtain ⟨R, hR⟩ : ∃ R, Za5 r ⟨4, tag, aI, aJ, aK⟩ = R := ⟨_, rfl⟩;rw [hR];have HR0 := zh hR;clear hR;obtain ⟨Ai, ci, rfl, hci, hcmi, _⟩ := id hi;obtain ⟨Ak, ck, rfl, hck, hcmk, _⟩ := id hk;unfold maxLen at hcmi hcmk;have hl1 := (Za.refl w).alloc (.cells #[.int .i64 4, .int .i64 tag, .int .i64 aI, .slice Ai aJ.length ci, .slice Ak aK.length ck] 94);have HS := zh (h.later hl1);have HI := zh (hi.later Zb hl1);have HK := zh (hk.later Zb hl1);have HM := zh (heap_alloc_new w (.cells #[.int .i64 4, .int .i64 tag, .int .i64 aI, .slice Ai aJ.length ci, .slice Ak aK.length ck] 94));have HB := zh hl1;obtain ⟨w1, hw1⟩ : ∃ x, x = w.alloc (.cells #[.int .i64 4, .int .i64 tag, .int .i64 aI, .slice Ai aJ.length ci, .slice Ak aK.length ck] 94) := ⟨_, rfl⟩;rw [← hw1] at HS HI HK HM HB;have HLC := zh (Za.refl w1);clear h hi hk hl1;obtain ⟨s1, hs1⟩ : ∃ q, (decide (1 ≤ aI)) = q := ⟨_, rfl⟩;have W0s1 : (decide (aI < 1)) = !s1 := by rw [← hs1]; exact (by rw [Bool.eq_iff_iff]; simp only [nJ, nK, nL, ne_eq, nM, nI, nH] <;> omega)
 obtain ⟨s2, hs2⟩ : ∃ q, (decide (aI ≤ r.made)) = q := ⟨_, rfl⟩;have W0s2 : (decide (r.made < aI)) = !s2 := by rw [← hs2]; exact (by rw [Bool.eq_iff_iff]; simp only [nJ, nK, nL, ne_eq, nM, nI, nH] <;> omega)
 obtain ⟨tg, htg⟩ : ∃ q, (tag == 0) = q := ⟨_, rfl⟩;have W0tg : (tag != 0) = !tg := by rw [← htg]; exact (by rw [Bool.eq_iff_iff]; simp only [nJ, nK, nL, ne_eq, nM, nI, nH] <;> omega)
 have W1tg : (tag == 0) = tg := htg;obtain ⟨b1, hb1⟩ : ∃ q, (decide (aK.length ≤ 40)) = q := ⟨_, rfl⟩;have W0b1 : (decide ((aK.length : Int) ≤ 40)) = b1 := by rw [← hb1]; exact (by rw [Bool.eq_iff_iff]; simp only [nJ, nK, nL, ne_eq, nM, nI, nH] <;> omega)
 obtain ⟨b2, hb2⟩ : ∃ q, (decide (aJ.length = 0)) = q := ⟨_, rfl⟩;have W0b2 : ((aJ.length : Int) == 0) = b2 := by rw [← hb2]; exact (by rw [Bool.eq_iff_iff]; simp only [nJ, nK, nL, ne_eq, nM, nI, nH] <;> omega)
 obtain ⟨ak, hak⟩ : ∃ q, (Zbi r aK) = q := ⟨_, rfl⟩;obtain ⟨di, hdi⟩ : ∃ q, (Zca aK) = q := ⟨_, rfl⟩;have HR := zh (show R = ((s1 && s2) && (tg && (b1 && (b2 && (ak && (di)))))) by rw [← HR0.o, ← hs1, ← hs2, ← htg, ← hb1, ← hb2, ← hak, ← hdi]; try rfl);have Hs1 := zh hs1;clear hs1;have Hs2 := zh hs2;clear hs2;have Htg := zh htg;clear htg;have Hb1 := zh hb1;clear hb1;have Hb2 := zh hb2;clear hb2;have Hak := zh hak;clear hak;have Hdi := zh hdi;clear hdi;go_enter Tryz.func100, Tryz.ntmps100;go_upto_region 2 with (fail);rw [← hw1];clear hw1
 cases s1 with
 | false =>
  simp only [Bool.not_false] at W0s1;refine Z6 (fun W hW => ?_);have hWL : Za w1 W := by rw [hW]; exact (Za.refl _).drew
  clear hW;replace HLC := zh (HLC.o.trans hWL);clear hWL;have HMC := zB HLC HM;have m0 := cz5 HMC.o;have y12 := (HS.o.later HLC.o).made_;have hMB := Zd HMC.o;have hSB := (HS.o.later HLC.o).lt
  repeat go_big_quiet_step (fail)
  refine wpQuiet_nil ?_;have hR0 : R = false := by rw [HR.o]; simp
  subst hR0;go_wp2_with fail;go_ret;exact ⟨rfl, HB.o.trans HLC.o⟩
 | true =>
  simp only [Bool.not_true] at W0s1
  cases s2 with
  | false =>
   simp only [Bool.not_false] at W0s2;refine Z6 (fun W hW => ?_);have hWL : Za w1 W := by rw [hW]; exact (Za.refl _).drew
   clear hW;replace HLC := zh (HLC.o.trans hWL);clear hWL;have HMC := zB HLC HM;have m0 := cz5 HMC.o;have y12 := (HS.o.later HLC.o).made_;have hMB := Zd HMC.o;have hSB := (HS.o.later HLC.o).lt
   repeat go_big_quiet_step (fail)
   refine wpQuiet_nil ?_;have hR0 : R = false := by rw [HR.o]; simp
   subst hR0;go_wp2_with fail;go_ret;exact ⟨rfl, HB.o.trans HLC.o⟩
  | true =>
   simp only [Bool.not_true] at W0s2;refine Z6 (fun V hV => ?_);have hVL : Za w1 V := by rw [hV]; exact (Za.refl _).drew
   clear hV;replace HLC := zh (HLC.o.trans hVL);clear hVL;have HMC := zB HLC HM;have m0 := cz5 HMC.o;have y12 := (HS.o.later HLC.o).made_;have hMB := Zd HMC.o;have hSB := (HS.o.later HLC.o).lt
   repeat go_big_quiet_step (fail)
   refine wpQuiet_nil ?_;clear y12 hMB hSB
   cases tg with
   | false =>
    simp only [Bool.not_false] at W0tg;have hR0 : R = false := by rw [HR.o]; simp
    subst hR0;go_wp2_with fail;go_ret;exact ⟨rfl, HB.o.trans HLC.o⟩
   | true =>
    simp only [Bool.not_true] at W0tg
    cases b1 with
    | false =>
     have hR0 : R = false := by rw [HR.o]; simp
     subst hR0;go_wp2_with fail;go_ret;exact ⟨rfl, HB.o.trans HLC.o⟩
    | true =>
     cases b2 with
     | false =>
      have hR0 : R = false := by rw [HR.o]; simp
      subst hR0;go_wp2_with fail;go_ret;exact ⟨rfl, HB.o.trans HLC.o⟩
     | true =>
      go_wp2_with fail;refine (Zcl r B cs F _ aK _ (HS.o.later HLC.o) (HK.o.later Zb HLC.o)).mono ?_;rw [Hak.o];rintro e w6 ⟨rfl, hcl⟩;clear HMC m0;replace HLC := zh (HLC.o.trans hcl);clear hcl;have HMC := zB HLC HM;have m0 := cz5 HMC.o
      cases ak with
      | false =>
       have hR0 : R = false := by rw [HR.o]; simp
       subst hR0;go_wp2_with fail;go_ret;exact ⟨rfl, HB.o.trans HLC.o⟩
      | true =>
       go_wp2_with fail;refine (Zge aK _ F _ (HK.o.later Zb HLC.o)).mono ?_;rw [Hdi.o];rintro e w7 ⟨rfl, hcl⟩;clear HMC m0;replace HLC := zh (HLC.o.trans hcl);clear hcl;have hR0 : R = di := by rw [HR.o]; simp
       subst hR0;go_wp2_with fail;go_ret;exact ⟨rfl, HB.o.trans HLC.o⟩
theorem Zsa (r : Zh) (B : Nat) (cs : List Value) (F : Nat → Prop) (w : World) (tag aI : Int) (aJ aK : List Zj) (vi vk : Value) (h : Zai F w B r cs) (hi : Zu Ze 6 F w aJ vi) (hk : Zu Ze 6 F w aK vk) (hkz : aK.length ≤ 1048576) :
  Calls Tryz.prog 100 #[.pointer (some ⟨B, 0, none⟩), .agg #[.int .i64 7, .int .i64 tag, .int .i64 aI, vi, vk]] w fun e w' => e = .returned (.bool (Za5 r ⟨7, tag, aI, aJ, aK⟩)) ∧ Below w.heap.size w w' := by
 obtain ⟨R, hR⟩ : ∃ R, Za5 r ⟨7, tag, aI, aJ, aK⟩ = R := ⟨_, rfl⟩;rw [hR];have HR0 := zh hR;clear hR;obtain ⟨Ai, ci, rfl, hci, hcmi, _⟩ := id hi;obtain ⟨Ak, ck, rfl, hck, hcmk, _⟩ := id hk;unfold maxLen at hcmi hcmk;have hl1 := (Za.refl w).alloc (.cells #[.int .i64 7, .int .i64 tag, .int .i64 aI, .slice Ai aJ.length ci, .slice Ak aK.length ck] 94);have HS := zh (h.later hl1);have HI := zh (hi.later Zb hl1);have HK := zh (hk.later Zb hl1);have HM := zh (heap_alloc_new w (.cells #[.int .i64 7, .int .i64 tag, .int .i64 aI, .slice Ai aJ.length ci, .slice Ak aK.length ck] 94));have HB := zh hl1;obtain ⟨w1, hw1⟩ : ∃ x, x = w.alloc (.cells #[.int .i64 7, .int .i64 tag, .int .i64 aI, .slice Ai aJ.length ci, .slice Ak aK.length ck] 94) := ⟨_, rfl⟩;rw [← hw1] at HS HI HK HM HB;have HLC := zh (Za.refl w1);clear h hi hk hl1;obtain ⟨s1, hs1⟩ : ∃ q, (decide (1 ≤ aI)) = q := ⟨_, rfl⟩;have W0s1 : (decide (aI < 1)) = !s1 := by rw [← hs1]; exact (by rw [Bool.eq_iff_iff]; simp only [nJ, nK, nL, ne_eq, nM, nI, nH] <;> omega)
 obtain ⟨s2, hs2⟩ : ∃ q, (decide (aI ≤ r.made)) = q := ⟨_, rfl⟩;have W0s2 : (decide (r.made < aI)) = !s2 := by rw [← hs2]; exact (by rw [Bool.eq_iff_iff]; simp only [nJ, nK, nL, ne_eq, nM, nI, nH] <;> omega)
 obtain ⟨ky, hky⟩ : ∃ q, (decide (aK.length = 0)) = q := ⟨_, rfl⟩;have W0ky : ((aK.length : Int) != 0) = !ky := by rw [← hky]; exact (by rw [Bool.eq_iff_iff]; simp only [nJ, nK, nL, ne_eq, nM, nI, nH] <;> omega)
 have W1ky : ((aK.length : Int) == 0) = ky := by rw [← hky]; exact (by rw [Bool.eq_iff_iff]; simp only [nJ, nK, nL, ne_eq, nM, nI, nH] <;> omega)
 obtain ⟨pa, hpa⟩ : ∃ q, (Zan r tag aJ) = q := ⟨_, rfl⟩;have HR := zh (show R = ((s1 && s2) && (ky && (pa))) by rw [← HR0.o, ← hs1, ← hs2, ← hky, ← hpa]; try rfl);have Hs1 := zh hs1;clear hs1;have Hs2 := zh hs2;clear hs2;have Hky := zh hky;clear hky;have Hpa := zh hpa;clear hpa;go_enter Tryz.func100, Tryz.ntmps100;go_upto_region 2 with (fail);rw [← hw1];clear hw1
 cases s1 with
 | false =>
  simp only [Bool.not_false] at W0s1;refine Z6 (fun W hW => ?_);have hWL : Za w1 W := by rw [hW]; exact (Za.refl _).drew
  clear hW;replace HLC := zh (HLC.o.trans hWL);clear hWL;have HMC := zB HLC HM;have m0 := cz5 HMC.o;have y12 := (HS.o.later HLC.o).made_;have hMB := Zd HMC.o;have hSB := (HS.o.later HLC.o).lt
  repeat go_big_quiet_step (fail)
  refine wpQuiet_nil ?_;have hR0 : R = false := by rw [HR.o]; simp
  subst hR0;go_wp2_with fail;go_ret;exact ⟨rfl, HB.o.trans HLC.o⟩
 | true =>
  simp only [Bool.not_true] at W0s1
  cases s2 with
  | false =>
   simp only [Bool.not_false] at W0s2;refine Z6 (fun W hW => ?_);have hWL : Za w1 W := by rw [hW]; exact (Za.refl _).drew
   clear hW;replace HLC := zh (HLC.o.trans hWL);clear hWL;have HMC := zB HLC HM;have m0 := cz5 HMC.o;have y12 := (HS.o.later HLC.o).made_;have hMB := Zd HMC.o;have hSB := (HS.o.later HLC.o).lt
   repeat go_big_quiet_step (fail)
   refine wpQuiet_nil ?_;have hR0 : R = false := by rw [HR.o]; simp
   subst hR0;go_wp2_with fail;go_ret;exact ⟨rfl, HB.o.trans HLC.o⟩
  | true =>
   simp only [Bool.not_true] at W0s2;refine Z6 (fun V hV => ?_);have hVL : Za w1 V := by rw [hV]; exact (Za.refl _).drew
   clear hV;replace HLC := zh (HLC.o.trans hVL);clear hVL;have HMC := zB HLC HM;have m0 := cz5 HMC.o;have y12 := (HS.o.later HLC.o).made_;have hMB := Zd HMC.o;have hSB := (HS.o.later HLC.o).lt
   repeat go_big_quiet_step (fail)
   refine wpQuiet_nil ?_;clear y12 hMB hSB
   cases ky with
   | false =>
    simp only [Bool.not_false] at W0ky;have hR0 : R = false := by rw [HR.o]; simp
    subst hR0;go_wp2_with fail;go_ret;exact ⟨rfl, HB.o.trans HLC.o⟩
   | true =>
    simp only [Bool.not_true] at W0ky;go_wp2_with fail;refine (Zke r B cs F _ 7 tag aI aJ _ _ (HS.o.later HLC.o) (HI.o.later Zb HLC.o)).mono ?_;rw [Hpa.o];rintro e w5 ⟨rfl, hcl⟩;clear HMC m0;replace HLC := zh (HLC.o.trans hcl);clear hcl;have hR0 : R = pa := by rw [HR.o]; simp
    subst hR0;go_wp2_with fail;go_ret;exact ⟨rfl, HB.o.trans HLC.o⟩
theorem Zsb (r : Zh) (B : Nat) (cs : List Value) (F : Nat → Prop) (w : World) (tag aI : Int) (aJ aK : List Zj) (vi vk : Value) (h : Zai F w B r cs) (hi : Zu Ze 6 F w aJ vi) (hk : Zu Ze 6 F w aK vk) (hkz : aK.length ≤ 1048576) :
  Calls Tryz.prog 100 #[.pointer (some ⟨B, 0, none⟩), .agg #[.int .i64 6, .int .i64 tag, .int .i64 aI, vi, vk]] w fun e w' => e = .returned (.bool (Za5 r ⟨6, tag, aI, aJ, aK⟩)) ∧ Below w.heap.size w w' := by
 obtain ⟨R, hR⟩ : ∃ R, Za5 r ⟨6, tag, aI, aJ, aK⟩ = R := ⟨_, rfl⟩;rw [hR];have HR0 := zh hR;clear hR;obtain ⟨Ai, ci, rfl, hci, hcmi, _⟩ := id hi;obtain ⟨Ak, ck, rfl, hck, hcmk, _⟩ := id hk;unfold maxLen at hcmi hcmk;have hl1 := (Za.refl w).alloc (.cells #[.int .i64 6, .int .i64 tag, .int .i64 aI, .slice Ai aJ.length ci, .slice Ak aK.length ck] 94);have HS := zh (h.later hl1);have HI := zh (hi.later Zb hl1);have HK := zh (hk.later Zb hl1);have HM := zh (heap_alloc_new w (.cells #[.int .i64 6, .int .i64 tag, .int .i64 aI, .slice Ai aJ.length ci, .slice Ak aK.length ck] 94));have HB := zh hl1;obtain ⟨w1, hw1⟩ : ∃ x, x = w.alloc (.cells #[.int .i64 6, .int .i64 tag, .int .i64 aI, .slice Ai aJ.length ci, .slice Ak aK.length ck] 94) := ⟨_, rfl⟩;rw [← hw1] at HS HI HK HM HB;have HLC := zh (Za.refl w1);clear h hi hk hl1;obtain ⟨s1, hs1⟩ : ∃ q, (decide (1 ≤ aI)) = q := ⟨_, rfl⟩;have W0s1 : (decide (aI < 1)) = !s1 := by rw [← hs1]; exact (by rw [Bool.eq_iff_iff]; simp only [nJ, nK, nL, ne_eq, nM, nI, nH] <;> omega)
 obtain ⟨s2, hs2⟩ : ∃ q, (decide (aI ≤ r.made)) = q := ⟨_, rfl⟩;have W0s2 : (decide (r.made < aI)) = !s2 := by rw [← hs2]; exact (by rw [Bool.eq_iff_iff]; simp only [nJ, nK, nL, ne_eq, nM, nI, nH] <;> omega)
 obtain ⟨ky, hky⟩ : ∃ q, (decide (aK.length = 0)) = q := ⟨_, rfl⟩;have W0ky : ((aK.length : Int) != 0) = !ky := by rw [← hky]; exact (by rw [Bool.eq_iff_iff]; simp only [nJ, nK, nL, ne_eq, nM, nI, nH] <;> omega)
 have W1ky : ((aK.length : Int) == 0) = ky := by rw [← hky]; exact (by rw [Bool.eq_iff_iff]; simp only [nJ, nK, nL, ne_eq, nM, nI, nH] <;> omega)
 obtain ⟨t1, ht1⟩ : ∃ q, (decide (1 ≤ tag)) = q := ⟨_, rfl⟩;have W0t1 : (decide (1 ≤ tag)) = t1 := ht1;obtain ⟨b1, hb1⟩ : ∃ q, (decide (aJ.length = 3)) = q := ⟨_, rfl⟩;have W0b1 : ((aJ.length : Int) == 3) = b1 := by rw [← hb1]; exact (by rw [Bool.eq_iff_iff]; simp only [nJ, nK, nL, ne_eq, nM, nI, nH] <;> omega)
 obtain ⟨X, hX⟩ : ∃ X, Za1 r ⟨6, tag, aI, aJ, aK⟩ = X := ⟨_, rfl⟩;have HR := zh (show R = ((s1 && s2) && (ky && (X))) by rw [← HR0.o, ← hs1, ← hs2, ← hky, ← hX]; try rfl);have Hs1 := zh hs1;clear hs1;have Hs2 := zh hs2;clear hs2;have Hky := zh hky;clear hky;have Ht1 := zh ht1;clear ht1;have Hb1 := zh hb1;clear hb1;have HX := zh hX;clear hX;go_enter Tryz.func100, Tryz.ntmps100;go_upto_region 2 with (fail);rw [← hw1];clear hw1
 cases s1 with
 | false =>
  simp only [Bool.not_false] at W0s1;refine Z6 (fun W hW => ?_);have hWL : Za w1 W := by rw [hW]; exact (Za.refl _).drew
  clear hW;replace HLC := zh (HLC.o.trans hWL);clear hWL;have HMC := zB HLC HM;have m0 := cz5 HMC.o;have y12 := (HS.o.later HLC.o).made_;have hMB := Zd HMC.o;have hSB := (HS.o.later HLC.o).lt
  repeat go_big_quiet_step (fail)
  refine wpQuiet_nil ?_;have hR0 : R = false := by rw [HR.o]; simp
  subst hR0;go_wp2_with fail;go_ret;exact ⟨rfl, HB.o.trans HLC.o⟩
 | true =>
  simp only [Bool.not_true] at W0s1
  cases s2 with
  | false =>
   simp only [Bool.not_false] at W0s2;refine Z6 (fun W hW => ?_);have hWL : Za w1 W := by rw [hW]; exact (Za.refl _).drew
   clear hW;replace HLC := zh (HLC.o.trans hWL);clear hWL;have HMC := zB HLC HM;have m0 := cz5 HMC.o;have y12 := (HS.o.later HLC.o).made_;have hMB := Zd HMC.o;have hSB := (HS.o.later HLC.o).lt
   repeat go_big_quiet_step (fail)
   refine wpQuiet_nil ?_;have hR0 : R = false := by rw [HR.o]; simp
   subst hR0;go_wp2_with fail;go_ret;exact ⟨rfl, HB.o.trans HLC.o⟩
  | true =>
   simp only [Bool.not_true] at W0s2;refine Z6 (fun V hV => ?_);have hVL : Za w1 V := by rw [hV]; exact (Za.refl _).drew
   clear hV;replace HLC := zh (HLC.o.trans hVL);clear hVL;have HMC := zB HLC HM;have m0 := cz5 HMC.o;have y12 := (HS.o.later HLC.o).made_;have hMB := Zd HMC.o;have hSB := (HS.o.later HLC.o).lt
   repeat go_big_quiet_step (fail)
   refine wpQuiet_nil ?_;clear y12 hMB hSB
   cases ky with
   | false =>
    simp only [Bool.not_false] at W0ky;have hR0 : R = false := by rw [HR.o]; simp
    subst hR0;go_wp2_with fail;go_ret;exact ⟨rfl, HB.o.trans HLC.o⟩
   | true =>
    simp only [Bool.not_true] at W0ky;go_upto_region 20 with (fail);simp only [List.append_eq, List.cons_append, List.nil_append]
    cases t1 with
    | false =>
     have hX0 : X = false := by rw [← HX.o]; have := of_decide_eq_false Ht1.o; simp [Za1, this]
     have hR0 : R = false := by rw [HR.o, hX0]; simp
     subst hR0;go_wp2_with fail;go_ret;exact ⟨rfl, HB.o.trans HLC.o⟩
    | true =>
     cases b1 with
     | false =>
      have hX0 : X = false := by
       rw [← HX.o]
       match aJ, of_decide_eq_false Hb1.o with
       | [], _ => first | rfl | simp [Za1]
       | [_], _ => first | rfl | simp [Za1]
       | [_, _], _ => first | rfl | simp [Za1]
       | _ :: _ :: _ :: _ :: _, _ => first | rfl | simp [Za1]
       | [_, _, _], h => exact absurd rfl h
      have hR0 : R = false := by rw [HR.o, hX0]; simp
      subst hR0;go_wp2_with fail;go_ret;exact ⟨rfl, HB.o.trans HLC.o⟩
     | true =>
      have hlen : aJ.length = 3 := of_decide_eq_true Hb1.o;clear W0b1 Hb1;obtain ⟨a, b, c, rfl⟩ : ∃ a b c, aJ = [a, b, c] := by
       match aJ, hlen with
       | [a0, b0, c0], _ => exact ⟨a0, b0, c0, rfl⟩
      clear hlen;obtain ⟨b0, o0, e0, hb0, hat0, hel0⟩ := (HI.o.later Zb HLC.o).vat (j := 0) (by simp);cases e0;simp only [List.getElem_cons_succ, List.getElem_cons_zero, Nat.reduceMul, Nat.add_zero] at hat0 hel0;obtain ⟨i00, i01, i02, i03, i04, i05⟩ := hat0;obtain ⟨b1, o1, e1, hb1, hat1, hel1⟩ := (HI.o.later Zb HLC.o).vat (j := 1) (by simp);cases e1;simp only [List.getElem_cons_succ, List.getElem_cons_zero, Nat.reduceMul, Nat.add_zero] at hat1 hel1;obtain ⟨i10, i11, i12, i13, i14, i15⟩ := hat1;obtain ⟨b2, o2, e2, hb2, hat2, hel2⟩ := (HI.o.later Zb HLC.o).vat (j := 2) (by simp);cases e2;simp only [List.getElem_cons_succ, List.getElem_cons_zero, Nat.reduceMul, Nat.add_zero] at hat2 hel2;obtain ⟨i20, i21, i22, i23, i24, i25⟩ := hat2;obtain ⟨k0, hk0⟩ : ∃ q, (a.kind == 19) = q := ⟨_, rfl⟩;have W0k0 : (a.kind == 19) = k0 := hk0;obtain ⟨k1, hk1⟩ : ∃ q, (b.kind == 19) = q := ⟨_, rfl⟩;have W0k1 : (b.kind == 19) = k1 := hk1;obtain ⟨k2, hk2⟩ : ∃ q, (c.kind == 1) = q := ⟨_, rfl⟩;have W0k2 : (c.kind == 1) = k2 := hk2;obtain ⟨nn, hnn⟩ : ∃ q, (decide (0 ≤ c.aH)) = q := ⟨_, rfl⟩;have W0nn : (decide (0 ≤ c.aH)) = nn := hnn;obtain ⟨q0, hq0⟩ : ∃ q, (Zz r a) = q := ⟨_, rfl⟩;obtain ⟨q1, hq1⟩ : ∃ q, (Zz r b) = q := ⟨_, rfl⟩;obtain ⟨q2, hq2⟩ : ∃ q, (Zz r c) = q := ⟨_, rfl⟩;replace HR := zh (show R = ((true && true) && (true && (true && (k0 && (q0 && (k1 && (q1 && (k2 && (q2 && (nn)))))))))) by rw [HR.o, ← HX.o, ← hk0, ← hq0, ← hk1, ← hq1, ← hk2, ← hq2, ← hnn]; have := of_decide_eq_true Ht1.o; simp [Za1, this])
      have Hk0 := zh hk0;clear hk0;have Hk1 := zh hk1;clear hk1;have Hk2 := zh hk2;clear hk2;have Hnn := zh hnn;clear hnn;have Hq0 := zh hq0;clear hq0;have Hq1 := zh hq1;clear hq1;have Hq2 := zh hq2;clear hq2
      cases k0 with
      | false =>
       have hR0 : R = false := by rw [HR.o]; simp
       subst hR0;go_wp2_with fail;go_ret;exact ⟨rfl, HB.o.trans HLC.o⟩
      | true =>
       cases k1 with
       | false =>
        have hR0 : R = false := by rw [HR.o]; simp
        subst hR0;go_wp2_with fail;go_ret;exact ⟨rfl, HB.o.trans HLC.o⟩
       | true =>
        cases k2 with
        | false =>
                  have hR0 : R = false := by rw [HR.o]; simp
                  subst hR0;go_wp2_with fail;go_ret;exact ⟨rfl, HB.o.trans HLC.o⟩
        | true =>
                  cases nn with
                  | false =>
                   have hR0 : R = false := by rw [HR.o]; simp
                   subst hR0;go_wp2_with fail;go_ret;exact ⟨rfl, HB.o.trans HLC.o⟩
                  | true =>
                   go_wp2_with fail;refine (Zbz r B cs F _ a _ (HS.o.later HLC.o) hel0).mono ?_;rw [Hq0.o];rintro e w5 ⟨rfl, hcl⟩;clear HMC m0;clear hel0 hb0 i00 i01 i02 i03 i04 i05 hel1 hb1 i10 i11 i12 i13 i14 i15 hel2 hb2 i20 i21 i22 i23 i24 i25;replace HLC := zh (HLC.o.trans hcl);clear hcl;have HMC := zB HLC HM;have m0 := cz5 HMC.o;obtain ⟨b0, o0, e0, hb0, hat0, hel0⟩ := (HI.o.later Zb HLC.o).vat (j := 0) (by simp);cases e0;simp only [List.getElem_cons_succ, List.getElem_cons_zero, Nat.reduceMul, Nat.add_zero] at hat0 hel0;obtain ⟨i00, i01, i02, i03, i04, i05⟩ := hat0;obtain ⟨b1, o1, e1, hb1, hat1, hel1⟩ := (HI.o.later Zb HLC.o).vat (j := 1) (by simp);cases e1;simp only [List.getElem_cons_succ, List.getElem_cons_zero, Nat.reduceMul, Nat.add_zero] at hat1 hel1;obtain ⟨i10, i11, i12, i13, i14, i15⟩ := hat1;obtain ⟨b2, o2, e2, hb2, hat2, hel2⟩ := (HI.o.later Zb HLC.o).vat (j := 2) (by simp);cases e2;simp only [List.getElem_cons_succ, List.getElem_cons_zero, Nat.reduceMul, Nat.add_zero] at hat2 hel2;obtain ⟨i20, i21, i22, i23, i24, i25⟩ := hat2
                   cases q0 with
                   | false =>
                    have hR0 : R = false := by rw [HR.o]; simp
                    subst hR0;go_wp2_with fail;go_ret;exact ⟨rfl, HB.o.trans HLC.o⟩
                   | true =>
                    go_wp2_with fail;refine (Zbz r B cs F _ b _ (HS.o.later HLC.o) hel1).mono ?_;rw [Hq1.o];rintro e w6 ⟨rfl, hcl⟩;clear HMC m0;clear hel0 hb0 i00 i01 i02 i03 i04 i05 hel1 hb1 i10 i11 i12 i13 i14 i15 hel2 hb2 i20 i21 i22 i23 i24 i25;replace HLC := zh (HLC.o.trans hcl);clear hcl;have HMC := zB HLC HM;have m0 := cz5 HMC.o;obtain ⟨b0, o0, e0, hb0, hat0, hel0⟩ := (HI.o.later Zb HLC.o).vat (j := 0) (by simp);cases e0;simp only [List.getElem_cons_succ, List.getElem_cons_zero, Nat.reduceMul, Nat.add_zero] at hat0 hel0;obtain ⟨i00, i01, i02, i03, i04, i05⟩ := hat0;obtain ⟨b1, o1, e1, hb1, hat1, hel1⟩ := (HI.o.later Zb HLC.o).vat (j := 1) (by simp);cases e1;simp only [List.getElem_cons_succ, List.getElem_cons_zero, Nat.reduceMul, Nat.add_zero] at hat1 hel1;obtain ⟨i10, i11, i12, i13, i14, i15⟩ := hat1;obtain ⟨b2, o2, e2, hb2, hat2, hel2⟩ := (HI.o.later Zb HLC.o).vat (j := 2) (by simp);cases e2;simp only [List.getElem_cons_succ, List.getElem_cons_zero, Nat.reduceMul, Nat.add_zero] at hat2 hel2;obtain ⟨i20, i21, i22, i23, i24, i25⟩ := hat2
                    cases q1 with
                    | false =>
                     have hR0 : R = false := by rw [HR.o]; simp
                     subst hR0;go_wp2_with fail;go_ret;exact ⟨rfl, HB.o.trans HLC.o⟩
                    | true =>
                     go_wp2_with fail;refine (Zbz r B cs F _ c _ (HS.o.later HLC.o) hel2).mono ?_;rw [Hq2.o];rintro e w7 ⟨rfl, hcl⟩;clear HMC m0;clear hel0 hb0 i00 i01 i02 i03 i04 i05 hel1 hb1 i10 i11 i12 i13 i14 i15 hel2 hb2 i20 i21 i22 i23 i24 i25;replace HLC := zh (HLC.o.trans hcl);clear hcl;have hR0 : R = q2 := by rw [HR.o]; simp
                     subst hR0;go_wp2_with fail;go_ret;exact ⟨rfl, HB.o.trans HLC.o⟩
theorem Zsc (r : Zh) (B : Nat) (cs : List Value) (F : Nat → Prop) (w : World) (tag aI : Int) (aJ aK : List Zj) (vi vk : Value) (h : Zai F w B r cs) (hi : Zu Ze 6 F w aJ vi) (hk : Zu Ze 6 F w aK vk) (hkz : aK.length ≤ 1048576) :
  Calls Tryz.prog 100 #[.pointer (some ⟨B, 0, none⟩), .agg #[.int .i64 8, .int .i64 tag, .int .i64 aI, vi, vk]] w fun e w' => e = .returned (.bool (Za5 r ⟨8, tag, aI, aJ, aK⟩)) ∧ Below w.heap.size w w' := by
 obtain ⟨R, hR⟩ : ∃ R, Za5 r ⟨8, tag, aI, aJ, aK⟩ = R := ⟨_, rfl⟩;rw [hR];have HR0 := zh hR;clear hR;obtain ⟨Ai, ci, rfl, hci, hcmi, _⟩ := id hi;obtain ⟨Ak, ck, rfl, hck, hcmk, _⟩ := id hk;unfold maxLen at hcmi hcmk;have hl1 := (Za.refl w).alloc (.cells #[.int .i64 8, .int .i64 tag, .int .i64 aI, .slice Ai aJ.length ci, .slice Ak aK.length ck] 94);have HS := zh (h.later hl1);have HI := zh (hi.later Zb hl1);have HK := zh (hk.later Zb hl1);have HM := zh (heap_alloc_new w (.cells #[.int .i64 8, .int .i64 tag, .int .i64 aI, .slice Ai aJ.length ci, .slice Ak aK.length ck] 94));have HB := zh hl1;obtain ⟨w1, hw1⟩ : ∃ x, x = w.alloc (.cells #[.int .i64 8, .int .i64 tag, .int .i64 aI, .slice Ai aJ.length ci, .slice Ak aK.length ck] 94) := ⟨_, rfl⟩;rw [← hw1] at HS HI HK HM HB;have HLC := zh (Za.refl w1);clear h hi hk hl1;obtain ⟨s0, hs0⟩ : ∃ q, (aI == 0) = q := ⟨_, rfl⟩;have W0s0 : (aI != 0) = !s0 := by rw [← hs0]; exact (by rw [Bool.eq_iff_iff]; simp only [nJ, nK, nL, ne_eq, nM, nI, nH] <;> omega)
 obtain ⟨tg, htg⟩ : ∃ q, (tag == 0) = q := ⟨_, rfl⟩;have W0tg : (tag != 0) = !tg := by rw [← htg]; exact (by rw [Bool.eq_iff_iff]; simp only [nJ, nK, nL, ne_eq, nM, nI, nH] <;> omega)
 have W1tg : (tag == 0) = tg := htg;obtain ⟨ky, hky⟩ : ∃ q, (decide (aK.length = 0)) = q := ⟨_, rfl⟩;have W0ky : ((aK.length : Int) != 0) = !ky := by rw [← hky]; exact (by rw [Bool.eq_iff_iff]; simp only [nJ, nK, nL, ne_eq, nM, nI, nH] <;> omega)
 have W1ky : ((aK.length : Int) == 0) = ky := by rw [← hky]; exact (by rw [Bool.eq_iff_iff]; simp only [nJ, nK, nL, ne_eq, nM, nI, nH] <;> omega)
 obtain ⟨b1, hb1⟩ : ∃ q, (decide (aJ.length = 2)) = q := ⟨_, rfl⟩;have W0b1 : ((aJ.length : Int) == 2) = b1 := by rw [← hb1]; exact (by rw [Bool.eq_iff_iff]; simp only [nJ, nK, nL, ne_eq, nM, nI, nH] <;> omega)
 obtain ⟨X, hX⟩ : ∃ X, Za1 r ⟨8, tag, aI, aJ, aK⟩ = X := ⟨_, rfl⟩;have HR := zh (show R = (s0 && (tg && (ky && (X)))) by rw [← HR0.o, ← hs0, ← htg, ← hky, ← hX]; try rfl);have Hs0 := zh hs0;clear hs0;have Htg := zh htg;clear htg;have Hky := zh hky;clear hky;have Hb1 := zh hb1;clear hb1;have HX := zh hX;clear hX;go_enter Tryz.func100, Tryz.ntmps100;go_upto_region 4 with (fail);rw [← hw1];clear hw1;have HMC := zB HLC HM;have m0 := cz5 HMC.o
 cases s0 with
 | false =>
  simp only [Bool.not_false] at W0s0;have hR0 : R = false := by rw [HR.o]; simp
  subst hR0;go_wp2_with fail;go_ret;exact ⟨rfl, HB.o.trans HLC.o⟩
 | true =>
  simp only [Bool.not_true] at W0s0
  cases tg with
  | false =>
   simp only [Bool.not_false] at W0tg;have hR0 : R = false := by rw [HR.o]; simp
   subst hR0;go_wp2_with fail;go_ret;exact ⟨rfl, HB.o.trans HLC.o⟩
  | true =>
   simp only [Bool.not_true] at W0tg
   cases ky with
   | false =>
    simp only [Bool.not_false] at W0ky;have hR0 : R = false := by rw [HR.o]; simp
    subst hR0;go_wp2_with fail;go_ret;exact ⟨rfl, HB.o.trans HLC.o⟩
   | true =>
    simp only [Bool.not_true] at W0ky
    cases b1 with
    | false =>
     have hX0 : X = false := by
      rw [← HX.o]
      match aJ, of_decide_eq_false Hb1.o with
      | [], _ => first | rfl | simp [Za1]
      | [_], _ => first | rfl | simp [Za1]
      | _ :: _ :: _ :: _, _ => first | rfl | simp [Za1]
      | [_, _], h => exact absurd rfl h
     have hR0 : R = false := by rw [HR.o, hX0]; simp
     subst hR0;go_wp2_with fail;go_ret;exact ⟨rfl, HB.o.trans HLC.o⟩
    | true =>
     have hlen : aJ.length = 2 := of_decide_eq_true Hb1.o;clear W0b1 Hb1;obtain ⟨a, b, rfl⟩ : ∃ a b, aJ = [a, b] := by
      match aJ, hlen with
      | [a0, b0], _ => exact ⟨a0, b0, rfl⟩
     clear hlen;obtain ⟨b0, o0, e0, hb0, hat0, hel0⟩ := (HI.o.later Zb HLC.o).vat (j := 0) (by simp);cases e0;simp only [List.getElem_cons_succ, List.getElem_cons_zero, Nat.reduceMul, Nat.add_zero] at hat0 hel0;obtain ⟨i00, i01, i02, i03, i04, i05⟩ := hat0;obtain ⟨b1, o1, e1, hb1, hat1, hel1⟩ := (HI.o.later Zb HLC.o).vat (j := 1) (by simp);cases e1;simp only [List.getElem_cons_succ, List.getElem_cons_zero, Nat.reduceMul, Nat.add_zero] at hat1 hel1;obtain ⟨i10, i11, i12, i13, i14, i15⟩ := hat1;obtain ⟨k0, hk0⟩ : ∃ q, (a.kind == 5) = q := ⟨_, rfl⟩;have W0k0 : (a.kind == 5) = k0 := hk0;obtain ⟨q0, hq0⟩ : ∃ q, (Zz r a) = q := ⟨_, rfl⟩;obtain ⟨q1, hq1⟩ : ∃ q, (Zb5 r b) = q := ⟨_, rfl⟩;replace HR := zh (show R = (true && (true && (true && (k0 && (q0 && (q1)))))) by rw [HR.o, ← HX.o, ← hk0, ← hq0, ← hq1]; cases e : (a.kind == 5) with | false => simp [Za1, e] | true => have e3 := beq_iff_eq.1 e; simp [Za1, Zb5, e3]);have Hk0 := zh hk0;clear hk0;have Hq0 := zh hq0;clear hq0;have Hq1 := zh hq1;clear hq1
     cases k0 with
     | false =>
      have hR0 : R = false := by rw [HR.o]; simp
      subst hR0;go_wp2_with fail;go_ret;exact ⟨rfl, HB.o.trans HLC.o⟩
     | true =>
      go_wp2_with fail;refine (Zbz r B cs F _ a _ (HS.o.later HLC.o) hel0).mono ?_;rw [Hq0.o];rintro e w5 ⟨rfl, hcl⟩;clear HMC m0;clear hel0 hb0 i00 i01 i02 i03 i04 i05 hel1 hb1 i10 i11 i12 i13 i14 i15;replace HLC := zh (HLC.o.trans hcl);clear hcl;have HMC := zB HLC HM;have m0 := cz5 HMC.o;obtain ⟨b0, o0, e0, hb0, hat0, hel0⟩ := (HI.o.later Zb HLC.o).vat (j := 0) (by simp);cases e0;simp only [List.getElem_cons_succ, List.getElem_cons_zero, Nat.reduceMul, Nat.add_zero] at hat0 hel0;obtain ⟨i00, i01, i02, i03, i04, i05⟩ := hat0;obtain ⟨b1, o1, e1, hb1, hat1, hel1⟩ := (HI.o.later Zb HLC.o).vat (j := 1) (by simp);cases e1;simp only [List.getElem_cons_succ, List.getElem_cons_zero, Nat.reduceMul, Nat.add_zero] at hat1 hel1;obtain ⟨i10, i11, i12, i13, i14, i15⟩ := hat1
      cases q0 with
      | false =>
       have hR0 : R = false := by rw [HR.o]; simp
       subst hR0;go_wp2_with fail;go_ret;exact ⟨rfl, HB.o.trans HLC.o⟩
      | true =>
       go_wp2_with fail;refine (Zer r B cs F _ b _ (HS.o.later HLC.o) hel1).mono ?_;rw [Hq1.o];rintro e w6 ⟨rfl, hcl⟩;clear HMC m0;clear hel0 hb0 i00 i01 i02 i03 i04 i05 hel1 hb1 i10 i11 i12 i13 i14 i15;replace HLC := zh (HLC.o.trans hcl);clear hcl;have hR0 : R = q1 := by rw [HR.o]; simp
       subst hR0;go_wp2_with fail;go_ret;exact ⟨rfl, HB.o.trans HLC.o⟩
theorem Zsd (r : Zh) (B : Nat) (cs : List Value) (F : Nat → Prop) (w : World) (tag aI : Int) (aJ aK : List Zj) (vi vk : Value) (h : Zai F w B r cs) (hi : Zu Ze 6 F w aJ vi) (hk : Zu Ze 6 F w aK vk) (hkz : aK.length ≤ 1048576) :
  Calls Tryz.prog 100 #[.pointer (some ⟨B, 0, none⟩), .agg #[.int .i64 5, .int .i64 tag, .int .i64 aI, vi, vk]] w fun e w' => e = .returned (.bool (Za5 r ⟨5, tag, aI, aJ, aK⟩)) ∧ Below w.heap.size w w' := by
 obtain ⟨R, hR⟩ : ∃ R, Za5 r ⟨5, tag, aI, aJ, aK⟩ = R := ⟨_, rfl⟩;rw [hR];have HR0 := zh hR;clear hR;obtain ⟨Ai, ci, rfl, hci, hcmi, _⟩ := id hi;obtain ⟨Ak, ck, rfl, hck, hcmk, _⟩ := id hk;unfold maxLen at hcmi hcmk;have hl1 := (Za.refl w).alloc (.cells #[.int .i64 5, .int .i64 tag, .int .i64 aI, .slice Ai aJ.length ci, .slice Ak aK.length ck] 94);have HS := zh (h.later hl1);have HI := zh (hi.later Zb hl1);have HK := zh (hk.later Zb hl1);have HM := zh (heap_alloc_new w (.cells #[.int .i64 5, .int .i64 tag, .int .i64 aI, .slice Ai aJ.length ci, .slice Ak aK.length ck] 94));have HB := zh hl1;obtain ⟨w1, hw1⟩ : ∃ x, x = w.alloc (.cells #[.int .i64 5, .int .i64 tag, .int .i64 aI, .slice Ai aJ.length ci, .slice Ak aK.length ck] 94) := ⟨_, rfl⟩;rw [← hw1] at HS HI HK HM HB;have HLC := zh (Za.refl w1);clear h hi hk hl1;obtain ⟨s1, hs1⟩ : ∃ q, (decide (1 ≤ aI)) = q := ⟨_, rfl⟩;have W0s1 : (decide (aI < 1)) = !s1 := by rw [← hs1]; exact (by rw [Bool.eq_iff_iff]; simp only [nJ, nK, nL, ne_eq, nM, nI, nH] <;> omega)
 obtain ⟨s2, hs2⟩ : ∃ q, (decide (aI ≤ r.made)) = q := ⟨_, rfl⟩;have W0s2 : (decide (r.made < aI)) = !s2 := by rw [← hs2]; exact (by rw [Bool.eq_iff_iff]; simp only [nJ, nK, nL, ne_eq, nM, nI, nH] <;> omega)
 obtain ⟨ky, hky⟩ : ∃ q, (decide (aK.length = 0)) = q := ⟨_, rfl⟩;have W0ky : ((aK.length : Int) != 0) = !ky := by rw [← hky]; exact (by rw [Bool.eq_iff_iff]; simp only [nJ, nK, nL, ne_eq, nM, nI, nH] <;> omega)
 have W1ky : ((aK.length : Int) == 0) = ky := by rw [← hky]; exact (by rw [Bool.eq_iff_iff]; simp only [nJ, nK, nL, ne_eq, nM, nI, nH] <;> omega)
 obtain ⟨t1, ht1⟩ : ∃ q, (decide (0 ≤ tag)) = q := ⟨_, rfl⟩;have W0t1 : (decide (0 ≤ tag)) = t1 := ht1;obtain ⟨X, hX⟩ : ∃ X, Za1 r ⟨5, tag, aI, aJ, aK⟩ = X := ⟨_, rfl⟩;have HR := zh (show R = ((s1 && s2) && (ky && (X))) by rw [← HR0.o, ← hs1, ← hs2, ← hky, ← hX]; try rfl);have Hs1 := zh hs1;clear hs1;have Hs2 := zh hs2;clear hs2;have Hky := zh hky;clear hky;have Ht1 := zh ht1;clear ht1;have HX := zh hX;clear hX;go_enter Tryz.func100, Tryz.ntmps100;go_upto_region 2 with (fail);rw [← hw1];clear hw1
 cases s1 with
 | false =>
  simp only [Bool.not_false] at W0s1;refine Z6 (fun W hW => ?_);have hWL : Za w1 W := by rw [hW]; exact (Za.refl _).drew
  clear hW;replace HLC := zh (HLC.o.trans hWL);clear hWL;have HMC := zB HLC HM;obtain ⟨m0, m1, m2, m3, m4⟩ := cz5 HMC.o;have y12 := (HS.o.later HLC.o).made_;have hMB := Zd HMC.o;have hSB := (HS.o.later HLC.o).lt
  repeat go_big_quiet_step (fail)
  refine wpQuiet_nil ?_;have hR0 : R = false := by rw [HR.o]; simp
  subst hR0;go_wp2_with fail;go_ret;exact ⟨rfl, HB.o.trans HLC.o⟩
 | true =>
  simp only [Bool.not_true] at W0s1
  cases s2 with
  | false =>
   simp only [Bool.not_false] at W0s2;refine Z6 (fun W hW => ?_);have hWL : Za w1 W := by rw [hW]; exact (Za.refl _).drew
   clear hW;replace HLC := zh (HLC.o.trans hWL);clear hWL;have HMC := zB HLC HM;obtain ⟨m0, m1, m2, m3, m4⟩ := cz5 HMC.o;have y12 := (HS.o.later HLC.o).made_;have hMB := Zd HMC.o;have hSB := (HS.o.later HLC.o).lt
   repeat go_big_quiet_step (fail)
   refine wpQuiet_nil ?_;have hR0 : R = false := by rw [HR.o]; simp
   subst hR0;go_wp2_with fail;go_ret;exact ⟨rfl, HB.o.trans HLC.o⟩
  | true =>
   simp only [Bool.not_true] at W0s2;refine Z6 (fun V hV => ?_);have hVL : Za w1 V := by rw [hV]; exact (Za.refl _).drew
   clear hV;replace HLC := zh (HLC.o.trans hVL);clear hVL;have HMC := zB HLC HM;obtain ⟨m0, m1, m2, m3, m4⟩ := cz5 HMC.o;have y12 := (HS.o.later HLC.o).made_;have hMB := Zd HMC.o;have hSB := (HS.o.later HLC.o).lt
   repeat go_big_quiet_step (fail)
   refine wpQuiet_nil ?_;clear y12 hMB hSB
   cases ky with
   | false =>
    simp only [Bool.not_false] at W0ky;have hR0 : R = false := by rw [HR.o]; simp
    subst hR0;go_wp2_with fail;go_ret;exact ⟨rfl, HB.o.trans HLC.o⟩
   | true =>
    simp only [Bool.not_true] at W0ky;go_upto_region 18 with (fail);clear m0 m1 m2 m3 m4 HMC
    cases t1 with
    | false =>
     have hX0 : X = false := by rw [← HX.o]; have := of_decide_eq_false Ht1.o; simp [Za1, this]
     refine Z6 (fun W hW => ?_);have hWL : Za V W := by rw [hW]; exact (Za.refl _).drew
     clear hW;replace HLC := zh (HLC.o.trans hWL);clear hWL;have HMC := zB HLC HM;obtain ⟨m0, m1, m2, m3, m4⟩ := cz5 HMC.o;have y12 := (HS.o.later HLC.o).made_;have hMB := Zd HMC.o;have hSB := (HS.o.later HLC.o).lt
     repeat go_big_quiet_step (fail)
     refine wpQuiet_nil ?_;have hR0 : R = false := by rw [HR.o, hX0]; simp
     subst hR0;go_wp2_with fail;go_ret;exact ⟨rfl, HB.o.trans HLC.o⟩
    | true =>
     obtain ⟨i, rfl⟩ : ∃ i : Nat, tag = i := ⟨tag.toNat, by have := of_decide_eq_true Ht1.o; omega⟩
     by_cases hlt : i < r.aB.length
     ·have u2 : decide ((i : Int) < (r.aB.length : Int)) = true := decide_eq_true (by omega);have hlt2 : (i : Int) < (r.aB.length : Int) := by omega
      obtain ⟨b3, hb3⟩ : ∃ q, (decide (aJ.length = r.aB[i].fields.length)) = q := ⟨_, rfl⟩;have W0b3 : ((aJ.length : Int) == (r.aB[i].fields.length : Int)) = b3 := by rw [← hb3]; exact (by rw [Bool.eq_iff_iff]; simp only [nJ, nK, nL, ne_eq, nM, nI, nH] <;> omega)
      obtain ⟨ai, hai⟩ : ∃ q, (Zbi r aJ) = q := ⟨_, rfl⟩;replace HR := zh (show R = ((true && true) && (true && (b3 && (ai)))) by rw [HR.o, ← HX.o, ← hb3, ← hai]; simp [Za1, hlt]);have Hb3 := zh hb3;have Hai := zh hai;clear hb3 hai
      cases b3 with
      | false =>
       refine Z6 (fun W hW => ?_);have hWL : Za V W := by rw [hW]; exact (Za.refl _).drew
       clear hW;replace HLC := zh (HLC.o.trans hWL);clear hWL;have HMC := zB HLC HM;obtain ⟨m0, m1, m2, m3, m4⟩ := cz5 HMC.o;have y12 := (HS.o.later HLC.o).made_;have hMB := Zd HMC.o;have hSB := (HS.o.later HLC.o).lt;obtain ⟨Ar, cr, y1, hcr, hcmr, hrr⟩ := (HS.o.later HLC.o).aB;unfold maxLen at hcmr;obtain ⟨rb, ro, Af, cf, e0, hrb, yr⟩ := Zai.rec_ hrr hlt;cases e0
       repeat go_big_quiet_step (fail)
       refine wpQuiet_nil ?_;have hR0 : R = false := by rw [HR.o]; simp
       subst hR0;go_wp2_with fail;go_ret;exact ⟨rfl, HB.o.trans HLC.o⟩
      | true =>
       refine Zbd [33, 34, 35] [] (by kernel_rfl) (fun W hW => ?_);have hWL : Za V W := by rw [hW]; exact (Za.refl _).drew
       clear hW;replace HLC := zh (HLC.o.trans hWL);clear hWL;have HMC := zB HLC HM;obtain ⟨m0, m1, m2, m3, m4⟩ := cz5 HMC.o;have y12 := (HS.o.later HLC.o).made_;have hMB := Zd HMC.o;have hSB := (HS.o.later HLC.o).lt;obtain ⟨Ar, cr, y1, hcr, hcmr, hrr⟩ := (HS.o.later HLC.o).aB;unfold maxLen at hcmr;obtain ⟨rb, ro, Af, cf, e0, hrb, yr⟩ := Zai.rec_ hrr hlt;cases e0;refine tU 0 146 (v := ?_) rfl rfl (fun x hx => ?_) ?_;rotate_left
       ·go_simp;first|done|with_reducible rfl
       simp only [Act.put, nA, nB, nC];refine tU 1 147 (v := ?_) rfl rfl (fun x hx => ?_) ?_;rotate_left
       ·have x0 := (hx.cell ⟨w.heap.size, 0, none⟩ hMB).trans m0; have x1 := (hx.cell ⟨w.heap.size, 1, none⟩ hMB).trans m1; have x2 := (hx.cell ⟨w.heap.size, 2, none⟩ hMB).trans m2; have x3 := (hx.cell ⟨w.heap.size, 3, none⟩ hMB).trans m3; have x4 := (hx.cell ⟨w.heap.size, 4, none⟩ hMB).trans m4; have x12 := (hx.cell ⟨B, 12, none⟩ hSB).trans y12; have x1r := (hx.cell ⟨B, 1, none⟩ hSB).trans y1; have xr := (hx.cell ⟨rb, ro + i * 3 + 1, none⟩ hrb).trans yr; go_simp;first|done|with_reducible rfl
       simp only [Act.put, nA, nB, nC];refine tU 2 148 (v := ?_) rfl rfl (fun x hx => ?_) ?_;rotate_left
       ·go_simp;first|done|with_reducible rfl
       simp only [Act.put, nA, nB, nC];refine tU 3 149 (v := ?_) rfl rfl (fun x hx => ?_) ?_;rotate_left
       ·go_simp;first|done|with_reducible rfl
       simp only [Act.put, nA, nB, nC];refine tU 4 150 (v := ?_) rfl rfl (fun x hx => ?_) ?_;rotate_left
       ·go_simp;first|done|with_reducible rfl
       simp only [Act.put, nA, nB, nC];refine tU 5 151 (v := ?_) rfl rfl (fun x hx => ?_) ?_;rotate_left
       ·have x0 := (hx.cell ⟨w.heap.size, 0, none⟩ hMB).trans m0; have x1 := (hx.cell ⟨w.heap.size, 1, none⟩ hMB).trans m1; have x2 := (hx.cell ⟨w.heap.size, 2, none⟩ hMB).trans m2; have x3 := (hx.cell ⟨w.heap.size, 3, none⟩ hMB).trans m3; have x4 := (hx.cell ⟨w.heap.size, 4, none⟩ hMB).trans m4; have x12 := (hx.cell ⟨B, 12, none⟩ hSB).trans y12; have x1r := (hx.cell ⟨B, 1, none⟩ hSB).trans y1; have xr := (hx.cell ⟨rb, ro + i * 3 + 1, none⟩ hrb).trans yr; go_simp;first|done|with_reducible rfl
       simp only [Act.put, nA, nB, nC];refine tU 6 152 (v := ?_) rfl rfl (fun x hx => ?_) ?_;rotate_left
       ·go_simp;first|done|with_reducible rfl
       simp only [Act.put, nA, nB, nC];refine tU 7 153 (v := ?_) rfl rfl (fun x hx => ?_) ?_;rotate_left
       ·go_simp;first|done|with_reducible rfl
       simp only [Act.put, nA, nB, nC];refine tU 8 154 (v := ?_) rfl rfl (fun x hx => ?_) ?_;rotate_left
       ·go_simp;first|done|with_reducible rfl
       simp only [Act.put, nA, nB, nC];refine tU 9 155 (v := ?_) rfl rfl (fun x hx => ?_) ?_;rotate_left
       ·have x0 := (hx.cell ⟨w.heap.size, 0, none⟩ hMB).trans m0; have x1 := (hx.cell ⟨w.heap.size, 1, none⟩ hMB).trans m1; have x2 := (hx.cell ⟨w.heap.size, 2, none⟩ hMB).trans m2; have x3 := (hx.cell ⟨w.heap.size, 3, none⟩ hMB).trans m3; have x4 := (hx.cell ⟨w.heap.size, 4, none⟩ hMB).trans m4; have x12 := (hx.cell ⟨B, 12, none⟩ hSB).trans y12; have x1r := (hx.cell ⟨B, 1, none⟩ hSB).trans y1; have xr := (hx.cell ⟨rb, ro + i * 3 + 1, none⟩ hrb).trans yr; go_simp;first|done|with_reducible rfl
       simp only [Act.put, nA, nB, nC];refine tU 10 156 (v := ?_) rfl rfl (fun x hx => ?_) ?_;rotate_left
       ·go_simp;first|done|with_reducible rfl
       simp only [Act.put, nA, nB, nC];refine tU 11 157 (v := ?_) rfl rfl (fun x hx => ?_) ?_;rotate_left
       ·go_simp;first|done|with_reducible rfl
       simp only [Act.put, nA, nB, nC];refine tU 12 158 (v := ?_) rfl rfl (fun x hx => ?_) ?_;rotate_left
       ·go_simp;first|done|with_reducible rfl
       simp only [Act.put, nA, nB, nC];refine tU 13 159 (v := ?_) rfl rfl (fun x hx => ?_) ?_;rotate_left
       ·go_simp;first|done|with_reducible rfl
       simp only [Act.put, nA, nB, nC];refine tU 14 160 (v := ?_) rfl rfl (fun x hx => ?_) ?_;rotate_left
       ·go_simp;first|done|with_reducible rfl
       simp only [Act.put, nA, nB, nC];refine tU 15 161 (v := ?_) rfl rfl (fun x hx => ?_) ?_;rotate_left
       ·have x0 := (hx.cell ⟨w.heap.size, 0, none⟩ hMB).trans m0; have x1 := (hx.cell ⟨w.heap.size, 1, none⟩ hMB).trans m1; have x2 := (hx.cell ⟨w.heap.size, 2, none⟩ hMB).trans m2; have x3 := (hx.cell ⟨w.heap.size, 3, none⟩ hMB).trans m3; have x4 := (hx.cell ⟨w.heap.size, 4, none⟩ hMB).trans m4; have x12 := (hx.cell ⟨B, 12, none⟩ hSB).trans y12; have x1r := (hx.cell ⟨B, 1, none⟩ hSB).trans y1; have xr := (hx.cell ⟨rb, ro + i * 3 + 1, none⟩ hrb).trans yr; go_simp;first|done|with_reducible rfl
       simp only [Act.put, nA, nB, nC];refine tU 16 162 (v := ?_) rfl rfl (fun x hx => ?_) ?_;rotate_left
       ·go_simp;first|done|with_reducible rfl
       simp only [Act.put, nA, nB, nC];refine tU 17 163 (v := ?_) rfl rfl (fun x hx => ?_) ?_;rotate_left
       ·go_simp;first|done|with_reducible rfl
       simp only [Act.put, nA, nB, nC];refine tU 18 164 (v := ?_) rfl rfl (fun x hx => ?_) ?_;rotate_left
       ·go_simp;first|done|with_reducible rfl
       simp only [Act.put, nA, nB, nC];refine tU 19 165 (v := ?_) rfl rfl (fun x hx => ?_) ?_;rotate_left
       ·go_simp;first|done|with_reducible rfl
       simp only [Act.put, nA, nB, nC];refine tU 20 166 (v := ?_) rfl rfl (fun x hx => ?_) ?_;rotate_left
       ·have x0 := (hx.cell ⟨w.heap.size, 0, none⟩ hMB).trans m0; have x1 := (hx.cell ⟨w.heap.size, 1, none⟩ hMB).trans m1; have x2 := (hx.cell ⟨w.heap.size, 2, none⟩ hMB).trans m2; have x3 := (hx.cell ⟨w.heap.size, 3, none⟩ hMB).trans m3; have x4 := (hx.cell ⟨w.heap.size, 4, none⟩ hMB).trans m4; have x12 := (hx.cell ⟨B, 12, none⟩ hSB).trans y12; have x1r := (hx.cell ⟨B, 1, none⟩ hSB).trans y1; have xr := (hx.cell ⟨rb, ro + i * 3 + 1, none⟩ hrb).trans yr; go_simp;first|done|with_reducible rfl
       simp only [Act.put, nA, nB, nC];refine tU 21 167 (v := ?_) rfl rfl (fun x hx => ?_) ?_;rotate_left
       ·go_simp;first|done|with_reducible rfl
       simp only [Act.put, nA, nB, nC];refine tU 22 168 (v := ?_) rfl rfl (fun x hx => ?_) ?_;rotate_left
       ·have x0 := (hx.cell ⟨w.heap.size, 0, none⟩ hMB).trans m0; have x1 := (hx.cell ⟨w.heap.size, 1, none⟩ hMB).trans m1; have x2 := (hx.cell ⟨w.heap.size, 2, none⟩ hMB).trans m2; have x3 := (hx.cell ⟨w.heap.size, 3, none⟩ hMB).trans m3; have x4 := (hx.cell ⟨w.heap.size, 4, none⟩ hMB).trans m4; have x12 := (hx.cell ⟨B, 12, none⟩ hSB).trans y12; have x1r := (hx.cell ⟨B, 1, none⟩ hSB).trans y1; have xr := (hx.cell ⟨rb, ro + i * 3 + 1, none⟩ hrb).trans yr; go_simp;first|done|with_reducible rfl
       simp only [Act.put, nA, nB, nC];refine tU 23 169 (v := ?_) rfl rfl (fun x hx => ?_) ?_;rotate_left
       ·go_simp;first|done|with_reducible rfl|rw[if_neg (by omega)]|rw[if_pos (by omega)]
       simp only [Act.put, nA, nB, nC];refine tU 24 170 (v := ?_) rfl rfl (fun x hx => ?_) ?_;rotate_left
       ·go_simp;first|done|with_reducible rfl
       simp only [Act.put, nA, nB, nC];refine tU 25 171 (v := ?_) rfl rfl (fun x hx => ?_) ?_;rotate_left
       ·have x0 := (hx.cell ⟨w.heap.size, 0, none⟩ hMB).trans m0; have x1 := (hx.cell ⟨w.heap.size, 1, none⟩ hMB).trans m1; have x2 := (hx.cell ⟨w.heap.size, 2, none⟩ hMB).trans m2; have x3 := (hx.cell ⟨w.heap.size, 3, none⟩ hMB).trans m3; have x4 := (hx.cell ⟨w.heap.size, 4, none⟩ hMB).trans m4; have x12 := (hx.cell ⟨B, 12, none⟩ hSB).trans y12; have x1r := (hx.cell ⟨B, 1, none⟩ hSB).trans y1; have xr := (hx.cell ⟨rb, ro + i * 3 + 1, none⟩ hrb).trans yr; go_simp;first|done|with_reducible rfl
       simp only [Act.put, nA, nB, nC];refine tU 26 172 (v := ?_) rfl rfl (fun x hx => ?_) ?_;rotate_left
       ·go_simp;first|done|with_reducible rfl
       simp only [Act.put, nA, nB, nC];refine tU 27 173 (v := ?_) rfl rfl (fun x hx => ?_) ?_;rotate_left
       ·go_simp;first|done|with_reducible rfl
       simp only [Act.put, nA, nB, nC];refine tU 28 174 (v := ?_) rfl rfl (fun x hx => ?_) ?_;rotate_left
       ·go_simp;first|done|with_reducible rfl
       simp only [Act.put, nA, nB, nC];refine tU 29 175 (v := ?_) rfl rfl (fun x hx => ?_) ?_;rotate_left
       ·go_simp;first|done|with_reducible rfl
       simp only [Act.put, nA, nB, nC];refine tU 30 176 (v := ?_) rfl rfl (fun x hx => ?_) ?_;rotate_left
       ·go_simp;first|done|with_reducible rfl
       simp only [Act.put, nA, nB, nC];refine tU 31 177 (v := ?_) rfl rfl (fun x hx => ?_) ?_;rotate_left
       ·go_simp;first|done|with_reducible rfl
       simp only [Act.put, nA, nB, nC];refine tU 32 178 (v := ?_) rfl rfl (fun x hx => ?_) ?_;rotate_left
       ·have x0 := (hx.cell ⟨w.heap.size, 0, none⟩ hMB).trans m0; have x1 := (hx.cell ⟨w.heap.size, 1, none⟩ hMB).trans m1; have x2 := (hx.cell ⟨w.heap.size, 2, none⟩ hMB).trans m2; have x3 := (hx.cell ⟨w.heap.size, 3, none⟩ hMB).trans m3; have x4 := (hx.cell ⟨w.heap.size, 4, none⟩ hMB).trans m4; have x12 := (hx.cell ⟨B, 12, none⟩ hSB).trans y12; have x1r := (hx.cell ⟨B, 1, none⟩ hSB).trans y1; have xr := (hx.cell ⟨rb, ro + i * 3 + 1, none⟩ hrb).trans yr; go_simp;first|done|with_reducible rfl
       simp only [Act.put, nA, nB, nC];refine Zbl [_, _, _] (by kernel_rfl) rfl rfl ?_;simp only [List.getElem_toArray, List.getElem_cons_succ, List.getElem_cons_zero];go_wp2_with fail;refine (Zcl r B cs F _ aJ _ (HS.o.later HLC.o) (HI.o.later Zb HLC.o)).mono ?_;rw [Hai.o];rintro e w5 ⟨rfl, hcl⟩;clear HMC m0 m1 m2 m3 m4;replace HLC := zh (HLC.o.trans hcl);clear hcl;have hR0 : R = ai := by rw [HR.o]; simp
       subst hR0;go_wp2_with fail;go_ret;exact ⟨rfl, HB.o.trans HLC.o⟩
     ·have u2 : decide ((i : Int) < (r.aB.length : Int)) = false := decide_eq_false (by omega);have hX0 : X = false := by rw [← HX.o]; simp [Za1, List.getElem?_eq_none (show r.aB.length ≤ i by omega)]
      refine Z6 (fun W hW => ?_);have hWL : Za V W := by rw [hW]; exact (Za.refl _).drew
      clear hW;replace HLC := zh (HLC.o.trans hWL);clear hWL;have HMC := zB HLC HM;obtain ⟨m0, m1, m2, m3, m4⟩ := cz5 HMC.o;have y12 := (HS.o.later HLC.o).made_;have hMB := Zd HMC.o;have hSB := (HS.o.later HLC.o).lt;obtain ⟨Ar, cr, y1, hcr, hcmr, hrr⟩ := (HS.o.later HLC.o).aB;unfold maxLen at hcmr
      repeat go_big_quiet_step (fail)
      refine wpQuiet_nil ?_;have hR0 : R = false := by rw [HR.o, hX0]; simp
      subst hR0;go_wp2_with fail;go_ret;exact ⟨rfl, HB.o.trans HLC.o⟩
theorem Zse (r : Zh) (B : Nat) (cs : List Value) (F : Nat → Prop) (w : World) (tag aI : Int) (aJ aK : List Zj) (vi vk : Value) (h : Zai F w B r cs) (hi : Zu Ze 6 F w aJ vi) (hk : Zu Ze 6 F w aK vk) (hkz : aK.length ≤ 1048576) :
  Calls Tryz.prog 100 #[.pointer (some ⟨B, 0, none⟩), .agg #[.int .i64 9, .int .i64 tag, .int .i64 aI, vi, vk]] w fun e w' => e = .returned (.bool (Za5 r ⟨9, tag, aI, aJ, aK⟩)) ∧ Below w.heap.size w w' := by
 obtain ⟨R, hR⟩ : ∃ R, Za5 r ⟨9, tag, aI, aJ, aK⟩ = R := ⟨_, rfl⟩;rw [hR];have HR0 := zh hR;clear hR;obtain ⟨Ai, ci, rfl, hci, hcmi, _⟩ := id hi;obtain ⟨Ak, ck, rfl, hck, hcmk, _⟩ := id hk;unfold maxLen at hcmi hcmk;have hl1 := (Za.refl w).alloc (.cells #[.int .i64 9, .int .i64 tag, .int .i64 aI, .slice Ai aJ.length ci, .slice Ak aK.length ck] 94);have HS := zh (h.later hl1);have HI := zh (hi.later Zb hl1);have HK := zh (hk.later Zb hl1);have HM := zh (heap_alloc_new w (.cells #[.int .i64 9, .int .i64 tag, .int .i64 aI, .slice Ai aJ.length ci, .slice Ak aK.length ck] 94));have HB := zh hl1;obtain ⟨w1, hw1⟩ : ∃ x, x = w.alloc (.cells #[.int .i64 9, .int .i64 tag, .int .i64 aI, .slice Ai aJ.length ci, .slice Ak aK.length ck] 94) := ⟨_, rfl⟩;rw [← hw1] at HS HI HK HM HB;have HLC := zh (Za.refl w1);clear h hi hk hl1;obtain ⟨s0, hs0⟩ : ∃ q, (aI == 0) = q := ⟨_, rfl⟩;have W0s0 : (aI != 0) = !s0 := by rw [← hs0]; exact (by rw [Bool.eq_iff_iff]; simp only [nJ, nK, nL, ne_eq, nM, nI, nH] <;> omega)
 obtain ⟨tg, htg⟩ : ∃ q, (tag == 0) = q := ⟨_, rfl⟩;have W0tg : (tag != 0) = !tg := by rw [← htg]; exact (by rw [Bool.eq_iff_iff]; simp only [nJ, nK, nL, ne_eq, nM, nI, nH] <;> omega)
 have W1tg : (tag == 0) = tg := htg;obtain ⟨ky, hky⟩ : ∃ q, (decide (aK.length = 0)) = q := ⟨_, rfl⟩;have W0ky : ((aK.length : Int) != 0) = !ky := by rw [← hky]; exact (by rw [Bool.eq_iff_iff]; simp only [nJ, nK, nL, ne_eq, nM, nI, nH] <;> omega)
 have W1ky : ((aK.length : Int) == 0) = ky := by rw [← hky]; exact (by rw [Bool.eq_iff_iff]; simp only [nJ, nK, nL, ne_eq, nM, nI, nH] <;> omega)
 obtain ⟨b1, hb1⟩ : ∃ q, (decide (aJ.length = 2)) = q := ⟨_, rfl⟩;have W0b1 : ((aJ.length : Int) == 2) = b1 := by rw [← hb1]; exact (by rw [Bool.eq_iff_iff]; simp only [nJ, nK, nL, ne_eq, nM, nI, nH] <;> omega)
 obtain ⟨X, hX⟩ : ∃ X, Za1 r ⟨9, tag, aI, aJ, aK⟩ = X := ⟨_, rfl⟩;have HR := zh (show R = (s0 && (tg && (ky && (X)))) by rw [← HR0.o, ← hs0, ← htg, ← hky, ← hX]; try rfl);have Hs0 := zh hs0;clear hs0;have Htg := zh htg;clear htg;have Hky := zh hky;clear hky;have Hb1 := zh hb1;clear hb1;have HX := zh hX;clear hX;go_enter Tryz.func100, Tryz.ntmps100;go_upto_region 4 with (fail);rw [← hw1];clear hw1;have HMC := zB HLC HM;obtain ⟨m0, m1, m2, m3, m4⟩ := cz5 HMC.o
 cases s0 with
 | false =>
  simp only [Bool.not_false] at W0s0;have hR0 : R = false := by rw [HR.o]; simp
  subst hR0;go_wp2_with fail;go_ret;exact ⟨rfl, HB.o.trans HLC.o⟩
 | true =>
  simp only [Bool.not_true] at W0s0
  cases tg with
  | false =>
   simp only [Bool.not_false] at W0tg;have hR0 : R = false := by rw [HR.o]; simp
   subst hR0;go_wp2_with fail;go_ret;exact ⟨rfl, HB.o.trans HLC.o⟩
  | true =>
   simp only [Bool.not_true] at W0tg
   cases ky with
   | false =>
    simp only [Bool.not_false] at W0ky;have hR0 : R = false := by rw [HR.o]; simp
    subst hR0;go_wp2_with fail;go_ret;exact ⟨rfl, HB.o.trans HLC.o⟩
   | true =>
    simp only [Bool.not_true] at W0ky;go_upto_region 26 with (fail);clear m0 m1 m2 m3 m4 HMC;obtain ⟨m0, m1, m2, m3, m4⟩ := cz5 HM.o;have y12 := HS.o.made_;have hMB := Zd HM.o;have hSB := HS.o.lt
    cases b1 with
    | false =>
     have hX0 : X = false := by
      rw [← HX.o]
      match aJ, of_decide_eq_false Hb1.o with
      | [], _ => first | rfl | simp [Za1]
      | [_], _ => first | rfl | simp [Za1]
      | _ :: _ :: _ :: _, _ => first | rfl | simp [Za1]
      | [_, _], h => exact absurd rfl h
     refine Z6 (fun W hW => ?_);replace HLC := zh (HLC.o.trans (show Za w1 W by rw [hW]; exact (Za.refl _).drew));clear hW;have hx := HLC.o;have x0 := (hx.cell ⟨w.heap.size, 0, none⟩ hMB).trans m0; have x1 := (hx.cell ⟨w.heap.size, 1, none⟩ hMB).trans m1; have x2 := (hx.cell ⟨w.heap.size, 2, none⟩ hMB).trans m2; have x3 := (hx.cell ⟨w.heap.size, 3, none⟩ hMB).trans m3; have x4 := (hx.cell ⟨w.heap.size, 4, none⟩ hMB).trans m4; have x12 := (hx.cell ⟨B, 12, none⟩ hSB).trans y12
     repeat go_big_quiet_step (fail)
     refine wpQuiet_nil ?_;clear hx x0 x1 x2 x3 x4 x12;have hR0 : R = false := by rw [HR.o, hX0]; simp
     subst hR0;go_wp2_with fail;go_ret;exact ⟨rfl, HB.o.trans HLC.o⟩
    | true =>
     have hlen : aJ.length = 2 := of_decide_eq_true Hb1.o;clear W0b1 Hb1;obtain ⟨a, b, rfl⟩ : ∃ a b, aJ = [a, b] := by
      match aJ, hlen with
      | [a0, b0], _ => exact ⟨a0, b0, rfl⟩
     clear hlen;obtain ⟨k0, hk0⟩ : ∃ q, (a.kind == 2) = q := ⟨_, rfl⟩;have W0k0 : (a.kind == 2) = k0 := hk0;obtain ⟨k1, hk1⟩ : ∃ q, (b.kind == 1) = q := ⟨_, rfl⟩;have W0k1 : (b.kind == 1) = k1 := hk1;obtain ⟨q0, hq0⟩ : ∃ q, (Zz r a) = q := ⟨_, rfl⟩;obtain ⟨q1, hq1⟩ : ∃ q, (Zz r b) = q := ⟨_, rfl⟩;obtain ⟨n1, hn1⟩ : ∃ q, (decide (1 ≤ b.aH)) = q := ⟨_, rfl⟩;have W0n1 : (decide (1 ≤ b.aH)) = n1 := hn1;obtain ⟨n2, hn2⟩ : ∃ q, (decide (b.aH ≤ (a.text.size : Int) + 1)) = q := ⟨_, rfl⟩;have W0n2 : (decide (b.aH ≤ (a.text.size : Int) + 1)) = n2 := hn2;replace HR := zh (show R = (true && (true && (true && (k0 && (k1 && (q0 && (q1 && (n1 && (n2))))))))) by rw [HR.o, ← HX.o, ← hk0, ← hk1, ← hq0, ← hq1, ← hn1, ← hn2]; cases e : (a.kind == 2) with | false => simp [Za1, e] | true => (have e3 := beq_iff_eq.1 e; cases e' : (b.kind == 1) with | false => simp [Za1, e'] | true => (have e4 := beq_iff_eq.1 e'; simp [Za1, Zb5, e3, e4])));have Hk0 := zh hk0;clear hk0;have Hk1 := zh hk1;clear hk1;have Hq0 := zh hq0;clear hq0;have Hq1 := zh hq1;clear hq1;have Hn1 := zh hn1;clear hn1;have Hn2 := zh hn2;clear hn2;obtain ⟨b0, o0, e0, hb0, hat0, hel0⟩ := HI.o.vat (j := 0) (by simp);cases e0;simp only [List.getElem_cons_succ, List.getElem_cons_zero, Nat.reduceMul, Nat.add_zero] at hat0 hel0;have HAT0 := zh hat0;have HEL0 := zh hel0;clear hat0 hel0;obtain ⟨b1, o1, e1, hb1, hat1, hel1⟩ := HI.o.vat (j := 1) (by simp);cases e1;simp only [List.getElem_cons_succ, List.getElem_cons_zero, Nat.reduceMul, Nat.add_zero] at hat1 hel1
     have HAT1 := zh hat1;have HEL1 := zh hel1;clear hat1 hel1
     cases k0 with
     | false =>
      refine Z6 (fun W hW => ?_);replace HLC := zh (HLC.o.trans (show Za w1 W by rw [hW]; exact (Za.refl _).drew));clear hW;have hx := HLC.o;have x0 := (hx.cell ⟨w.heap.size, 0, none⟩ hMB).trans m0; have x1 := (hx.cell ⟨w.heap.size, 1, none⟩ hMB).trans m1; have x2 := (hx.cell ⟨w.heap.size, 2, none⟩ hMB).trans m2; have x3 := (hx.cell ⟨w.heap.size, 3, none⟩ hMB).trans m3; have x4 := (hx.cell ⟨w.heap.size, 4, none⟩ hMB).trans m4; have x12 := (hx.cell ⟨B, 12, none⟩ hSB).trans y12; obtain ⟨i00, i01, i02, i03, i04, i05⟩ := HAT0.o.later hx; obtain ⟨i10, i11, i12, i13, i14, i15⟩ := HAT1.o.later hx
      repeat go_big_quiet_step (fail)
      refine wpQuiet_nil ?_;clear hx x0 x1 x2 x3 x4 x12 i00 i01 i02 i03 i04 i05 i10 i11 i12 i13 i14 i15;have hR0 : R = false := by rw [HR.o]; simp
      subst hR0;go_wp2_with fail;go_ret;exact ⟨rfl, HB.o.trans HLC.o⟩
     | true =>
      cases k1 with
      | false =>
       refine Z6 (fun W hW => ?_);replace HLC := zh (HLC.o.trans (show Za w1 W by rw [hW]; exact (Za.refl _).drew));clear hW;have hx := HLC.o;have x0 := (hx.cell ⟨w.heap.size, 0, none⟩ hMB).trans m0; have x1 := (hx.cell ⟨w.heap.size, 1, none⟩ hMB).trans m1; have x2 := (hx.cell ⟨w.heap.size, 2, none⟩ hMB).trans m2; have x3 := (hx.cell ⟨w.heap.size, 3, none⟩ hMB).trans m3; have x4 := (hx.cell ⟨w.heap.size, 4, none⟩ hMB).trans m4; have x12 := (hx.cell ⟨B, 12, none⟩ hSB).trans y12; obtain ⟨i00, i01, i02, i03, i04, i05⟩ := HAT0.o.later hx; obtain ⟨i10, i11, i12, i13, i14, i15⟩ := HAT1.o.later hx
       repeat go_big_quiet_step (fail)
       refine wpQuiet_nil ?_;clear hx x0 x1 x2 x3 x4 x12 i00 i01 i02 i03 i04 i05 i10 i11 i12 i13 i14 i15;have hR0 : R = false := by rw [HR.o]; simp
       subst hR0;go_wp2_with fail;go_ret;exact ⟨rfl, HB.o.trans HLC.o⟩
      | true =>
       cases q0 with
       | false =>
        refine Zga w1 (by kernel_rfl) (by kernel_rfl) HLC.o ?_;obtain ⟨x0, x1, x2, x3, x4⟩ := cg5 w.heap.size HM.o;have x12 := fun y => ((Zt w1 y).cell ⟨B, 12, none⟩ hSB).trans y12;obtain ⟨i00, i01, i02, i03, i04, i05⟩ := vg HAT0.o;obtain ⟨i10, i11, i12, i13, i14, i15⟩ := vg HAT1.o
        repeat go_big_quiet_step (fail)
        go_big_quiet_step ((refine (Zbz r B cs F _ a _ (HS.o.later (Zt w1 _)) (Zb.keep HEL0.o (fun _ h => h) (Zc.later (Zt w1 _)))).mono ?_; rw [Hq0.o]; rintro e w9 ⟨rfl, hcl⟩; exact ⟨rfl, _, Zcv ((Zt w1 _).trans hcl)⟩))
        repeat go_big_quiet_step (fail)
        refine wpQuiet_nil (Zdj fun W hWL => ?_);replace HLC := zh hWL;clear hWL x0 x1 x2 x3 x4 x12 i00 i01 i02 i03 i04 i05 i10 i11 i12 i13 i14 i15;have hR0 : R = false := by rw [HR.o]; simp
        subst hR0;go_wp2_with fail;go_ret;exact ⟨rfl, HB.o.trans HLC.o⟩
       | true =>
        have htx : a.text.size ≤ 120 := Zhq Hq0.o (by simpa using Hk0.o);have hwr : IntKind.i64.wrap ((a.text.size : Int) + 1) = (a.text.size : Int) + 1 := by rw [IntKind.wrap_i64]; omega
        cases q1 with
        | false =>
         refine Zga w1 (by kernel_rfl) (by kernel_rfl) HLC.o ?_;obtain ⟨x0, x1, x2, x3, x4⟩ := cg5 w.heap.size HM.o;have x12 := fun y => ((Zt w1 y).cell ⟨B, 12, none⟩ hSB).trans y12;obtain ⟨i00, i01, i02, i03, i04, i05⟩ := vg HAT0.o;obtain ⟨i10, i11, i12, i13, i14, i15⟩ := vg HAT1.o
         repeat go_big_quiet_step (fail)
         go_big_quiet_step ((refine (Zbz r B cs F _ a _ (HS.o.later (Zt w1 _)) (Zb.keep HEL0.o (fun _ h => h) (Zc.later (Zt w1 _)))).mono ?_; rw [Hq0.o]; rintro e w9 ⟨rfl, hcl⟩; exact ⟨rfl, _, Zcv ((Zt w1 _).trans hcl)⟩))
         repeat go_big_quiet_step (fail)
         go_big_quiet_step ((refine (Zbz r B cs F _ b _ (HS.o.later (Zt w1 _)) (Zb.keep HEL1.o (fun _ h => h) (Zc.later (Zt w1 _)))).mono ?_; rw [Hq1.o]; rintro e w9 ⟨rfl, hcl⟩; exact ⟨rfl, _, Zcv ((Zt w1 _).trans hcl)⟩))
         repeat go_big_quiet_step (fail)
         refine wpQuiet_nil (Zdj fun W hWL => ?_);replace HLC := zh hWL;clear hWL x0 x1 x2 x3 x4 x12 i00 i01 i02 i03 i04 i05 i10 i11 i12 i13 i14 i15;have hR0 : R = false := by rw [HR.o]; simp
         subst hR0;go_wp2_with fail;go_ret;exact ⟨rfl, HB.o.trans HLC.o⟩
        | true =>
         cases n1 with
         | false =>
          refine Zga w1 (by kernel_rfl) (by kernel_rfl) HLC.o ?_;obtain ⟨x0, x1, x2, x3, x4⟩ := cg5 w.heap.size HM.o;have x12 := fun y => ((Zt w1 y).cell ⟨B, 12, none⟩ hSB).trans y12;obtain ⟨i00, i01, i02, i03, i04, i05⟩ := vg HAT0.o;obtain ⟨i10, i11, i12, i13, i14, i15⟩ := vg HAT1.o
          repeat go_big_quiet_step (fail)
          go_big_quiet_step ((refine (Zbz r B cs F _ a _ (HS.o.later (Zt w1 _)) (Zb.keep HEL0.o (fun _ h => h) (Zc.later (Zt w1 _)))).mono ?_; rw [Hq0.o]; rintro e w9 ⟨rfl, hcl⟩; exact ⟨rfl, _, Zcv ((Zt w1 _).trans hcl)⟩))
          repeat go_big_quiet_step (fail)
          go_big_quiet_step ((refine (Zbz r B cs F _ b _ (HS.o.later (Zt w1 _)) (Zb.keep HEL1.o (fun _ h => h) (Zc.later (Zt w1 _)))).mono ?_; rw [Hq1.o]; rintro e w9 ⟨rfl, hcl⟩; exact ⟨rfl, _, Zcv ((Zt w1 _).trans hcl)⟩))
          repeat go_big_quiet_step (fail)
          go_big_quiet_step (((try rw [hwr]); refine (Zdi _ _ _ _).mono ?_; rw [Hn1.o, Hn2.o]; rintro e w9 ⟨rfl, rfl⟩; exact ⟨rfl, _, rfl⟩))
          repeat go_big_quiet_step (fail)
          refine wpQuiet_nil (Zdj fun W hWL => ?_);replace HLC := zh hWL;clear hWL x0 x1 x2 x3 x4 x12 i00 i01 i02 i03 i04 i05 i10 i11 i12 i13 i14 i15;have hR0 : R = false := by rw [HR.o]; simp
          subst hR0;go_wp2_with fail;go_ret;exact ⟨rfl, HB.o.trans HLC.o⟩
         | true =>
          cases n2 with
          | false =>
           refine Zga w1 (by kernel_rfl) (by kernel_rfl) HLC.o ?_;obtain ⟨x0, x1, x2, x3, x4⟩ := cg5 w.heap.size HM.o;have x12 := fun y => ((Zt w1 y).cell ⟨B, 12, none⟩ hSB).trans y12;obtain ⟨i00, i01, i02, i03, i04, i05⟩ := vg HAT0.o;obtain ⟨i10, i11, i12, i13, i14, i15⟩ := vg HAT1.o
           repeat go_big_quiet_step (fail)
           go_big_quiet_step ((refine (Zbz r B cs F _ a _ (HS.o.later (Zt w1 _)) (Zb.keep HEL0.o (fun _ h => h) (Zc.later (Zt w1 _)))).mono ?_; rw [Hq0.o]; rintro e w9 ⟨rfl, hcl⟩; exact ⟨rfl, _, Zcv ((Zt w1 _).trans hcl)⟩))
           repeat go_big_quiet_step (fail)
           go_big_quiet_step ((refine (Zbz r B cs F _ b _ (HS.o.later (Zt w1 _)) (Zb.keep HEL1.o (fun _ h => h) (Zc.later (Zt w1 _)))).mono ?_; rw [Hq1.o]; rintro e w9 ⟨rfl, hcl⟩; exact ⟨rfl, _, Zcv ((Zt w1 _).trans hcl)⟩))
           repeat go_big_quiet_step (fail)
           go_big_quiet_step (((try rw [hwr]); refine (Zdi _ _ _ _).mono ?_; rw [Hn1.o, Hn2.o]; rintro e w9 ⟨rfl, rfl⟩; exact ⟨rfl, _, rfl⟩))
           repeat go_big_quiet_step (fail)
           refine wpQuiet_nil (Zdj fun W hWL => ?_);replace HLC := zh hWL;clear hWL x0 x1 x2 x3 x4 x12 i00 i01 i02 i03 i04 i05 i10 i11 i12 i13 i14 i15;have hR0 : R = false := by rw [HR.o]; simp
           subst hR0;go_wp2_with fail;go_ret;exact ⟨rfl, HB.o.trans HLC.o⟩
          | true =>
           refine Zga w1 (by kernel_rfl) (by kernel_rfl) HLC.o ?_;obtain ⟨x0, x1, x2, x3, x4⟩ := cg5 w.heap.size HM.o;have x12 := fun y => ((Zt w1 y).cell ⟨B, 12, none⟩ hSB).trans y12;obtain ⟨i00, i01, i02, i03, i04, i05⟩ := vg HAT0.o;obtain ⟨i10, i11, i12, i13, i14, i15⟩ := vg HAT1.o
           repeat go_big_quiet_step (fail)
           go_big_quiet_step ((refine (Zbz r B cs F _ a _ (HS.o.later (Zt w1 _)) (Zb.keep HEL0.o (fun _ h => h) (Zc.later (Zt w1 _)))).mono ?_; rw [Hq0.o]; rintro e w9 ⟨rfl, hcl⟩; exact ⟨rfl, _, Zcv ((Zt w1 _).trans hcl)⟩))
           repeat go_big_quiet_step (fail)
           go_big_quiet_step ((refine (Zbz r B cs F _ b _ (HS.o.later (Zt w1 _)) (Zb.keep HEL1.o (fun _ h => h) (Zc.later (Zt w1 _)))).mono ?_; rw [Hq1.o]; rintro e w9 ⟨rfl, hcl⟩; exact ⟨rfl, _, Zcv ((Zt w1 _).trans hcl)⟩))
           repeat go_big_quiet_step (fail)
           go_big_quiet_step (((try rw [hwr]); refine (Zdi _ _ _ _).mono ?_; rw [Hn1.o, Hn2.o]; rintro e w9 ⟨rfl, rfl⟩; exact ⟨rfl, _, rfl⟩))
           repeat go_big_quiet_step (fail)
           refine wpQuiet_nil (Zdj fun W hWL => ?_);replace HLC := zh hWL;clear hWL x0 x1 x2 x3 x4 x12 i00 i01 i02 i03 i04 i05 i10 i11 i12 i13 i14 i15;have hR0 : R = true := by rw [HR.o]; rfl
           subst hR0;go_wp2_with fail;go_ret;exact ⟨rfl, HB.o.trans HLC.o⟩
theorem Zqd (r : Zh) (B : Nat) (cs : List Value) (F : Nat → Prop) (w : World) (kd tag aI : Int) (aJ aK : List Zj) (vi vk : Value) (h : Zai F w B r cs) (hi : Zu Ze 6 F w aJ vi) (hk : Zu Ze 6 F w aK vk) (hkd : kd < 1) (hkz : aK.length ≤ 1048576) :
  Calls Tryz.prog 100 #[.pointer (some ⟨B, 0, none⟩), .agg #[.int .i64 kd, .int .i64 tag, .int .i64 aI, vi, vk]] w fun e w' => e = .returned (.bool (Za5 r ⟨kd, tag, aI, aJ, aK⟩)) ∧ Below w.heap.size w w' := by
 obtain ⟨R, hR⟩ : ∃ R, Za5 r ⟨kd, tag, aI, aJ, aK⟩ = R := ⟨_, rfl⟩;rw [hR];have HR0 := zh hR;clear hR;obtain ⟨Ai, ci, rfl, hci, hcmi, _⟩ := id hi;obtain ⟨Ak, ck, rfl, hck, hcmk, _⟩ := id hk;unfold maxLen at hcmi hcmk;have hl1 := (Za.refl w).alloc (.cells #[.int .i64 kd, .int .i64 tag, .int .i64 aI, .slice Ai aJ.length ci, .slice Ak aK.length ck] 94);have HS := zh (h.later hl1);have HI := zh (hi.later Zb hl1);have HK := zh (hk.later Zb hl1);have HM := zh (heap_alloc_new w (.cells #[.int .i64 kd, .int .i64 tag, .int .i64 aI, .slice Ai aJ.length ci, .slice Ak aK.length ck] 94));have HB := zh hl1;obtain ⟨w1, hw1⟩ : ∃ x, x = w.alloc (.cells #[.int .i64 kd, .int .i64 tag, .int .i64 aI, .slice Ai aJ.length ci, .slice Ak aK.length ck] 94) := ⟨_, rfl⟩;rw [← hw1] at HS HI HK HM HB;have HLC := zh (Za.refl w1);clear h hi hk hl1;have hR0 : R = false := by rw [← HR0.o]; unfold Za5 Za1; simp only []; rw [if_neg (by omega : ¬ kd = 1), if_neg (by omega : ¬ kd = 2), if_neg (by omega : ¬ kd = 3), if_neg (by omega : ¬ kd = 4), if_neg (by omega : ¬ kd = 5), if_neg (by omega : ¬ kd = 6), if_neg (by omega : ¬ kd = 7), if_neg (by omega : ¬ kd = 8), if_neg (by omega : ¬ kd = 9)]; simp
 subst hR0;clear HR0;have g1 : (kd == 1) = false := nH.2 (by omega);have n1 : (kd != 1) = true := bne_iff_ne.2 (by omega);have g2 : (kd == 2) = false := nH.2 (by omega);have n2 : (kd != 2) = true := bne_iff_ne.2 (by omega);have g3 : (kd == 3) = false := nH.2 (by omega);have n3 : (kd != 3) = true := bne_iff_ne.2 (by omega);have g4 : (kd == 4) = false := nH.2 (by omega);have n4 : (kd != 4) = true := bne_iff_ne.2 (by omega);have g5 : (kd == 5) = false := nH.2 (by omega);have n5 : (kd != 5) = true := bne_iff_ne.2 (by omega);have g6 : (kd == 6) = false := nH.2 (by omega);have n6 : (kd != 6) = true := bne_iff_ne.2 (by omega);have g7 : (kd == 7) = false := nH.2 (by omega);have n7 : (kd != 7) = true := bne_iff_ne.2 (by omega);have g8 : (kd == 8) = false := nH.2 (by omega);have n8 : (kd != 8) = true := bne_iff_ne.2 (by omega);have g9 : (kd == 9) = false := nH.2 (by omega);have n9 : (kd != 9) = true := bne_iff_ne.2 (by omega);have d2 : decide (2 ≤ kd) = false := decide_eq_false (by omega);obtain ⟨s0, hs0⟩ : ∃ q, (aI == 0) = q := ⟨_, rfl⟩;have W0s0 : (aI != 0) = !s0 := by rw [← hs0]; exact (by rw [Bool.eq_iff_iff]; simp only [nJ, nK, nL, ne_eq, nM, nI, nH] <;> omega)
 obtain ⟨tg, htg⟩ : ∃ q, (tag == 0) = q := ⟨_, rfl⟩;have W0tg : (tag != 0) = !tg := by rw [← htg]; exact (by rw [Bool.eq_iff_iff]; simp only [nJ, nK, nL, ne_eq, nM, nI, nH] <;> omega)
 have W1tg : (tag == 0) = tg := htg;obtain ⟨ky, hky⟩ : ∃ q, (decide (aK.length = 0)) = q := ⟨_, rfl⟩;have W0ky : ((aK.length : Int) != 0) = !ky := by rw [← hky]; exact (by rw [Bool.eq_iff_iff]; simp only [nJ, nK, nL, ne_eq, nM, nI, nH] <;> omega)
 have W1ky : ((aK.length : Int) == 0) = ky := by rw [← hky]; exact (by rw [Bool.eq_iff_iff]; simp only [nJ, nK, nL, ne_eq, nM, nI, nH] <;> omega)
 have Hs0 := zh hs0;clear hs0;have Htg := zh htg;clear htg;have Hky := zh hky;clear hky;clear hkd;go_enter Tryz.func100, Tryz.ntmps100;go_upto_region 4 with (fail);rw [← hw1];clear hw1;have HMC := zB HLC HM;have m0 := cz5 HMC.o
 cases s0 with
 | false =>
  simp only [Bool.not_false] at W0s0;go_wp2_with fail;go_ret;exact ⟨rfl, HB.o.trans HLC.o⟩
 | true =>
  simp only [Bool.not_true] at W0s0
  cases tg with
  | false =>
   simp only [Bool.not_false] at W0tg;go_wp2_with fail;go_ret;exact ⟨rfl, HB.o.trans HLC.o⟩
  | true =>
   simp only [Bool.not_true] at W0tg
   cases ky with
   | false =>
    simp only [Bool.not_false] at W0ky;go_wp2_with fail;go_ret;exact ⟨rfl, HB.o.trans HLC.o⟩
   | true =>
    simp only [Bool.not_true] at W0ky;go_wp2_with fail;go_ret;exact ⟨rfl, HB.o.trans HLC.o⟩
theorem Zqe (r : Zh) (B : Nat) (cs : List Value) (F : Nat → Prop) (w : World) (kd tag aI : Int) (aJ aK : List Zj) (vi vk : Value) (h : Zai F w B r cs) (hi : Zu Ze 6 F w aJ vi) (hk : Zu Ze 6 F w aK vk) (hkd : 9 < kd) (hkz : aK.length ≤ 1048576) :
  Calls Tryz.prog 100 #[.pointer (some ⟨B, 0, none⟩), .agg #[.int .i64 kd, .int .i64 tag, .int .i64 aI, vi, vk]] w fun e w' => e = .returned (.bool (Za5 r ⟨kd, tag, aI, aJ, aK⟩)) ∧ Below w.heap.size w w' := by
 obtain ⟨R, hR⟩ : ∃ R, Za5 r ⟨kd, tag, aI, aJ, aK⟩ = R := ⟨_, rfl⟩;rw [hR];have HR0 := zh hR;clear hR;obtain ⟨Ai, ci, rfl, hci, hcmi, _⟩ := id hi;obtain ⟨Ak, ck, rfl, hck, hcmk, _⟩ := id hk;unfold maxLen at hcmi hcmk;have hl1 := (Za.refl w).alloc (.cells #[.int .i64 kd, .int .i64 tag, .int .i64 aI, .slice Ai aJ.length ci, .slice Ak aK.length ck] 94);have HS := zh (h.later hl1);have HI := zh (hi.later Zb hl1);have HK := zh (hk.later Zb hl1);have HM := zh (heap_alloc_new w (.cells #[.int .i64 kd, .int .i64 tag, .int .i64 aI, .slice Ai aJ.length ci, .slice Ak aK.length ck] 94));have HB := zh hl1;obtain ⟨w1, hw1⟩ : ∃ x, x = w.alloc (.cells #[.int .i64 kd, .int .i64 tag, .int .i64 aI, .slice Ai aJ.length ci, .slice Ak aK.length ck] 94) := ⟨_, rfl⟩;rw [← hw1] at HS HI HK HM HB;have HLC := zh (Za.refl w1);clear h hi hk hl1;have hR0 : R = false := by rw [← HR0.o]; unfold Za5 Za1; simp only []; rw [if_neg (by omega : ¬ kd = 1), if_neg (by omega : ¬ kd = 2), if_neg (by omega : ¬ kd = 3), if_neg (by omega : ¬ kd = 4), if_neg (by omega : ¬ kd = 5), if_neg (by omega : ¬ kd = 6), if_neg (by omega : ¬ kd = 7), if_neg (by omega : ¬ kd = 8), if_neg (by omega : ¬ kd = 9)]; simp
 subst hR0;clear HR0;have g1 : (kd == 1) = false := nH.2 (by omega);have n1 : (kd != 1) = true := bne_iff_ne.2 (by omega);have g2 : (kd == 2) = false := nH.2 (by omega);have n2 : (kd != 2) = true := bne_iff_ne.2 (by omega);have g3 : (kd == 3) = false := nH.2 (by omega);have n3 : (kd != 3) = true := bne_iff_ne.2 (by omega);have g4 : (kd == 4) = false := nH.2 (by omega);have n4 : (kd != 4) = true := bne_iff_ne.2 (by omega);have g5 : (kd == 5) = false := nH.2 (by omega);have n5 : (kd != 5) = true := bne_iff_ne.2 (by omega);have g6 : (kd == 6) = false := nH.2 (by omega);have n6 : (kd != 6) = true := bne_iff_ne.2 (by omega);have g7 : (kd == 7) = false := nH.2 (by omega);have n7 : (kd != 7) = true := bne_iff_ne.2 (by omega);have g8 : (kd == 8) = false := nH.2 (by omega);have n8 : (kd != 8) = true := bne_iff_ne.2 (by omega);have g9 : (kd == 9) = false := nH.2 (by omega);have n9 : (kd != 9) = true := bne_iff_ne.2 (by omega);have d2 : decide (2 ≤ kd) = true := decide_eq_true (by omega);have d7 : decide (kd ≤ 7) = false := decide_eq_false (by omega);obtain ⟨s0, hs0⟩ : ∃ q, (aI == 0) = q := ⟨_, rfl⟩;have W0s0 : (aI != 0) = !s0 := by rw [← hs0]; exact (by rw [Bool.eq_iff_iff]; simp only [nJ, nK, nL, ne_eq, nM, nI, nH] <;> omega)
 obtain ⟨tg, htg⟩ : ∃ q, (tag == 0) = q := ⟨_, rfl⟩;have W0tg : (tag != 0) = !tg := by rw [← htg]; exact (by rw [Bool.eq_iff_iff]; simp only [nJ, nK, nL, ne_eq, nM, nI, nH] <;> omega)
 have W1tg : (tag == 0) = tg := htg;obtain ⟨ky, hky⟩ : ∃ q, (decide (aK.length = 0)) = q := ⟨_, rfl⟩;have W0ky : ((aK.length : Int) != 0) = !ky := by rw [← hky]; exact (by rw [Bool.eq_iff_iff]; simp only [nJ, nK, nL, ne_eq, nM, nI, nH] <;> omega)
 have W1ky : ((aK.length : Int) == 0) = ky := by rw [← hky]; exact (by rw [Bool.eq_iff_iff]; simp only [nJ, nK, nL, ne_eq, nM, nI, nH] <;> omega)
 have Hs0 := zh hs0;clear hs0;have Htg := zh htg;clear htg;have Hky := zh hky;clear hky;clear hkd;go_enter Tryz.func100, Tryz.ntmps100;go_upto_region 4 with (fail);rw [← hw1];clear hw1;have HMC := zB HLC HM;have m0 := cz5 HMC.o
 cases s0 with
 | false =>
  simp only [Bool.not_false] at W0s0;go_wp2_with fail;go_ret;exact ⟨rfl, HB.o.trans HLC.o⟩
 | true =>
  simp only [Bool.not_true] at W0s0
  cases tg with
  | false =>
   simp only [Bool.not_false] at W0tg;go_wp2_with fail;go_ret;exact ⟨rfl, HB.o.trans HLC.o⟩
  | true =>
   simp only [Bool.not_true] at W0tg
   cases ky with
   | false =>
    simp only [Bool.not_false] at W0ky;go_wp2_with fail;go_ret;exact ⟨rfl, HB.o.trans HLC.o⟩
   | true =>
    simp only [Bool.not_true] at W0ky;go_wp2_with fail;go_ret;exact ⟨rfl, HB.o.trans HLC.o⟩
theorem Zkx (r : Zh) (B : Nat) (cs : List Value) (F : Nat → Prop) (w : World) (o : Zay) (os : List Value) (h : Zai F w B r cs) (ho : Zbq F w o os) (hkz : o.aK.length ≤ 1048576) :
  Calls Tryz.prog 100 #[.pointer (some ⟨B, 0, none⟩), .agg os.toArray] w fun e w' => e = .returned (.bool (Za5 r o)) ∧ Below w.heap.size w w' := by
 obtain ⟨vi, vk, rfl, _, _, _, hi, hk⟩ := ho;obtain ⟨kd, tag, aI, aJ, aK⟩ := o;have hx : kd < 1 ∨ 9 < kd ∨ kd = 1 ∨ kd = 2 ∨ kd = 3 ∨ kd = 4 ∨ kd = 5 ∨ kd = 6 ∨ kd = 7 ∨ kd = 8 ∨ kd = 9 := by omega
 rcases hx with hx | hx | rfl | rfl | rfl | rfl | rfl | rfl | rfl | rfl | rfl
 ·exact Zqd r B cs F w kd tag aI aJ aK vi vk h hi hk hx hkz
 ·exact Zqe r B cs F w kd tag aI aJ aK vi vk h hi hk hx hkz
 ·exact Zr6 r B cs F w tag aI aJ aK vi vk h hi hk hkz
 ·exact Zr7 r B cs F w tag aI aJ aK vi vk h hi hk hkz
 ·exact Zr8 r B cs F w tag aI aJ aK vi vk h hi hk hkz
 ·exact Zr9 r B cs F w tag aI aJ aK vi vk h hi hk hkz
 ·exact Zsd r B cs F w tag aI aJ aK vi vk h hi hk hkz
 ·exact Zsb r B cs F w tag aI aJ aK vi vk h hi hk hkz
 ·exact Zsa r B cs F w tag aI aJ aK vi vk h hi hk hkz
 ·exact Zsc r B cs F w tag aI aJ aK vi vk h hi hk hkz
 ·exact Zse r B cs F w tag aI aJ aK vi vk h hi hk hkz
theorem Zgv (r : Zh) (cs : List Value) (F : Nat → Prop) (w : World) (hsz : Zad r ≤ 1048576) (h : Zb6 F w r cs) :
  Calls Tryz.prog 45 #[.agg cs.toArray] w fun e w' => e = .returned (.bool (Zdh r)) ∧ Below w.heap.size w w' := by
 obtain ⟨R, hR⟩ : ∃ R, Zdh r = R := ⟨_, rfl⟩;rw [hR];have HR0 := zh hR;clear hR;have hel := h;obtain ⟨aL, aM, aN, aO, aP, aQ, aR, rfl, aV, aW, aX, aY, aZ, bA, bB, bC, bD, bE, bF, bG⟩ := h;obtain ⟨An, cn, rfl, kn, ln, _⟩ := id aV;obtain ⟨Ar, cr, rfl, kr, lr, _⟩ := id aW;obtain ⟨Ao, co, rfl, ko, lo, _⟩ := id aX;obtain ⟨Ag, cg, rfl, kg, lg, _⟩ := id aY;obtain ⟨Au, cu, rfl, ku, lu, _⟩ := id bB;obtain ⟨At, ct, rfl, kt, lt, _⟩ := id bC;obtain ⟨Aa, ca, rfl, ka, la, _⟩ := id bD;unfold maxLen at ln lr lo lg lu lt la;have HSO : Hd (∀ j (h : j < r.aA.length), r.aA[j].aK.length ≤ 1048576) := zh (fun j h => by
  have hz : Zk ByteArray.size r.names + (Zk Zo r.aB + (Zk Zr r.aA + (Zk Zs r.globals + (r.aC.size + (Zk ByteArray.size r.output + (Zk ByteArray.size r.trace + (Zk (fun _ => 0) r.aE))))))) ≤ 1048576 := hsz;have h1 : Zk Zr r.aA = r.aA.length + Zaq Zr r.aA := rfl;have h2 := Zb4 Zr r.aA _ (List.getElem_mem h);have h3 : Zr r.aA[j] = (r.aA[j].aJ.length + Zaq Zs r.aA[j].aJ) + (r.aA[j].aK.length + Zaq Zs r.aA[j].aK) := rfl
  omega)
 have HOL : Hd (r.aA.length ≤ 1048576) := zh (by
  have hz : Zk ByteArray.size r.names + (Zk Zo r.aB + (Zk Zr r.aA + (Zk Zs r.globals + (r.aC.size + (Zk ByteArray.size r.output + (Zk ByteArray.size r.trace + (Zk (fun _ => 0) r.aE))))))) ≤ 1048576 := hsz;have h1 : Zk Zr r.aA = r.aA.length + Zaq Zr r.aA := rfl
  omega)
 have HSL : Hd (r.aC.size ≤ 1048576) := zh (by
  have hz : Zk ByteArray.size r.names + (Zk Zo r.aB + (Zk Zr r.aA + (Zk Zs r.globals + (r.aC.size + (Zk ByteArray.size r.output + (Zk ByteArray.size r.trace + (Zk (fun _ => 0) r.aE))))))) ≤ 1048576 := hsz
  omega)
 have hl1 := (Za.refl w).alloc (.cells #[.slice An r.names.length cn, .slice Ar r.aB.length cr, .slice Ao r.aA.length co, .slice Ag r.globals.length cg, .string r.aC, .int .i64 r.aD, .slice Au r.output.length cu, .slice At r.trace.length ct, .slice Aa r.aE.length ca, .bool r.aF, .int .i64 r.ticks, .int .i64 r.aG, .int .i64 r.made] 30);have HEL := zh hel;have HQn := zh aV;have HQr := zh aW;have HQo := zh aX;have HQg := zh aY;have HQu := zh bB;have HQt := zh bC;have HQa := zh bD;have HP64 := zh (show Zac r.aD ∧ Zac r.ticks ∧ Zac r.aG ∧ Zac r.made from ⟨bA, bE, bF, bG⟩);have HM := zh (heap_alloc_new w (.cells #[.slice An r.names.length cn, .slice Ar r.aB.length cr, .slice Ao r.aA.length co, .slice Ag r.globals.length cg, .string r.aC, .int .i64 r.aD, .slice Au r.output.length cu, .slice At r.trace.length ct, .slice Aa r.aE.length ca, .bool r.aF, .int .i64 r.ticks, .int .i64 r.aG, .int .i64 r.made] 30));have HB := zh (show Below w.heap.size w _ from hl1);obtain ⟨M, hM⟩ : ∃ M, w.heap.size = M := ⟨_, rfl⟩;obtain ⟨w1, hw1⟩ : ∃ x, x = w.alloc (.cells #[.slice An r.names.length cn, .slice Ar r.aB.length cr, .slice Ao r.aA.length co, .slice Ag r.globals.length cg, .string r.aC, .int .i64 r.aD, .slice Au r.output.length cu, .slice At r.trace.length ct, .slice Aa r.aE.length ca, .bool r.aF, .int .i64 r.ticks, .int .i64 r.aG, .int .i64 r.made] 30) := ⟨_, rfl⟩
 rw [← hw1] at HM HB;rw [hM] at HM;clear hel hl1 hsz aV aW aX aY aZ bA bB bC bD bE bF bG;obtain ⟨n12, hn12⟩ : ∃ q, (decide (r.names.length ≤ 12)) = q := ⟨_, rfl⟩;have W0n12 : (decide (12 < (r.names.length : Int))) = !n12 := by rw [← hn12]; exact (by rw [Bool.eq_iff_iff]; simp only [nJ, nK, nL, ne_eq, nM, nI, nH] <;> omega)
 obtain ⟨nm, hnm⟩ : ∃ q, (r.names.all Zcj) = q := ⟨_, rfl⟩;obtain ⟨r8, hr8⟩ : ∃ q, (decide (r.aB.length ≤ 8)) = q := ⟨_, rfl⟩;have W0r8 : (decide (8 < (r.aB.length : Int))) = !r8 := by rw [← hr8]; exact (by rw [Bool.eq_iff_iff]; simp only [nJ, nK, nL, ne_eq, nM, nI, nH] <;> omega)
 obtain ⟨rok, hrok⟩ : ∃ q, (r.aB.all Ze9) = q := ⟨_, rfl⟩;obtain ⟨g12, hg12⟩ : ∃ q, (decide (r.globals.length ≤ 12)) = q := ⟨_, rfl⟩;have W0g12 : (decide (12 < (r.globals.length : Int))) = !g12 := by rw [← hg12]; exact (by rw [Bool.eq_iff_iff]; simp only [nJ, nK, nL, ne_eq, nM, nI, nH] <;> omega)
 obtain ⟨s120, hs120⟩ : ∃ q, (decide (r.aC.size ≤ 120)) = q := ⟨_, rfl⟩;have W0s120 : (decide (120 < (r.aC.size : Int))) = !s120 := by rw [← hs120]; exact (by rw [Bool.eq_iff_iff]; simp only [nJ, nK, nL, ne_eq, nM, nI, nH] <;> omega)
 obtain ⟨p1, hp1⟩ : ∃ q, (decide (1 ≤ r.aD)) = q := ⟨_, rfl⟩;have W0p1 : (decide (r.aD < 1)) = !p1 := by rw [← hp1]; exact (by rw [Bool.eq_iff_iff]; simp only [nJ, nK, nL, ne_eq, nM, nI, nH] <;> omega)
 obtain ⟨p2, hp2⟩ : ∃ q, (decide (r.aD ≤ (r.aC.size : Int) + 1)) = q := ⟨_, rfl⟩;have W0p2 : (decide ((r.aC.size : Int) + 1 < r.aD)) = !p2 := by rw [← hp2]; exact (by rw [Bool.eq_iff_iff]; simp only [nJ, nK, nL, ne_eq, nM, nI, nH] <;> omega)
 obtain ⟨a40, ha40⟩ : ∃ q, (decide (r.aE.length ≤ 40)) = q := ⟨_, rfl⟩;have W0a40 : (decide (40 < (r.aE.length : Int))) = !a40 := by rw [← ha40]; exact (by rw [Bool.eq_iff_iff]; simp only [nJ, nK, nL, ne_eq, nM, nI, nH] <;> omega)
 obtain ⟨acts, hacts⟩ : ∃ q, (r.aE.all (Zdl r)) = q := ⟨_, rfl⟩;obtain ⟨outs, houts⟩ : ∃ q, (r.output.all Zgq) = q := ⟨_, rfl⟩;obtain ⟨b0, hb0⟩ : ∃ q, (decide (0 ≤ r.aG)) = q := ⟨_, rfl⟩;have W0b0 : (decide (r.aG < 0)) = !b0 := by rw [← hb0]; exact (by rw [Bool.eq_iff_iff]; simp only [nJ, nK, nL, ne_eq, nM, nI, nH] <;> omega)
 obtain ⟨b4, hb4⟩ : ∃ q, (decide (r.aG ≤ 4000)) = q := ⟨_, rfl⟩;have W0b4 : (decide (4000 < r.aG)) = !b4 := by rw [← hb4]; exact (by rw [Bool.eq_iff_iff]; simp only [nJ, nK, nL, ne_eq, nM, nI, nH] <;> omega)
 obtain ⟨t0, ht0⟩ : ∃ q, (decide (0 ≤ r.ticks)) = q := ⟨_, rfl⟩;have W0t0 : (decide (r.ticks < 0)) = !t0 := by rw [← ht0]; exact (by rw [Bool.eq_iff_iff]; simp only [nJ, nK, nL, ne_eq, nM, nI, nH] <;> omega)
 obtain ⟨tb, htb⟩ : ∃ q, (decide (r.ticks ≤ r.aG)) = q := ⟨_, rfl⟩;have W0tb : (decide (r.aG < r.ticks)) = !tb := by rw [← htb]; exact (by rw [Bool.eq_iff_iff]; simp only [nJ, nK, nL, ne_eq, nM, nI, nH] <;> omega)
 obtain ⟨m0_, hm0_⟩ : ∃ q, (decide (0 ≤ r.made)) = q := ⟨_, rfl⟩;have W0m0_ : (decide (r.made < 0)) = !m0_ := by rw [← hm0_]; exact (by rw [Bool.eq_iff_iff]; simp only [nJ, nK, nL, ne_eq, nM, nI, nH] <;> omega)
 obtain ⟨gl, hgl⟩ : ∃ q, (Zbi r r.globals) = q := ⟨_, rfl⟩;obtain ⟨objs, hobjs⟩ : ∃ q, (r.aA.all (Za5 r)) = q := ⟨_, rfl⟩;obtain ⟨sers, hsers⟩ : ∃ q, (Zd0 r.aA) = q := ⟨_, rfl⟩;have HR := zh (show R = (n12 && (nm && (r8 && (rok && (g12 && (s120 && (p1 && (p2 && (a40 && (acts && (outs && (b0 && (b4 && (t0 && (tb && (m0_ && (gl && (objs && (sers))))))))))))))))))) by rw [← HR0.o, ← hn12, ← hnm, ← hr8, ← hrok, ← hg12, ← hs120, ← hp1, ← hp2, ← ha40, ← hacts, ← houts, ← hb0, ← hb4, ← ht0, ← htb, ← hm0_, ← hgl, ← hobjs, ← hsers]; try rfl);have Hn12 := zh hn12;clear hn12;have Hnm := zh hnm;clear hnm;have Hr8 := zh hr8;clear hr8;have Hrok := zh hrok;clear hrok;have Hg12 := zh hg12;clear hg12;have Hs120 := zh hs120;clear hs120;have Hp1 := zh hp1;clear hp1;have Hp2 := zh hp2;clear hp2;have Ha40 := zh ha40;clear ha40;have Hacts := zh hacts;clear hacts;have Houts := zh houts;clear houts;have Hb0 := zh hb0;clear hb0;have Hb4 := zh hb4;clear hb4;have Ht0 := zh ht0;clear ht0;have Htb := zh htb;clear htb;have Hm0_ := zh hm0_;clear hm0_;have Hgl := zh hgl;clear hgl;have Hobjs := zh hobjs;clear hobjs;have Hsers := zh hsers;clear hsers;go_enter Tryz.func45, Tryz.ntmps45;go_upto_region 1 with (fail);rw [← hw1]
 try rw [hM]
 have HMS := zh hM;clear hw1 hM;obtain ⟨m0, m1, m2, m3, m4, m5, m6, m7, m8, m9, m10, m11, m12⟩ := Zae HM.o
 cases n12 with
 | false =>
  simp only [Bool.not_false] at W0n12;have hR0 : R = false := by rw [HR.o]; simp
  subst hR0;go_wp2_with fail;go_ret;exact ⟨rfl, HB.o⟩
 | true =>
  simp only [Bool.not_true] at W0n12
  cases r8 with
  | false =>
   simp only [Bool.not_false] at W0r8;have hR0 : R = false := by rw [HR.o]; simp
   subst hR0;go_wp2_with fail;go_ret;exact ⟨rfl, HB.o⟩
  | true =>
   simp only [Bool.not_true] at W0r8
   cases g12 with
   | false =>
    simp only [Bool.not_false] at W0g12;have hR0 : R = false := by rw [HR.o]; simp
    subst hR0;go_wp2_with fail;go_ret;exact ⟨rfl, HB.o⟩
   | true =>
    simp only [Bool.not_true] at W0g12
    cases s120 with
    | false =>
     simp only [Bool.not_false] at W0s120;have hR0 : R = false := by rw [HR.o]; simp
     subst hR0;go_wp2_with fail;go_ret;exact ⟨rfl, HB.o⟩
    | true =>
     simp only [Bool.not_true] at W0s120;have hs120 : r.aC.size ≤ 120 := of_decide_eq_true Hs120.o;go_wp2_with fail;refine (Zdi _ _ _ _).mono ?_;rw [Hp1.o, Hp2.o];rintro e x4 ⟨rfl, rfl⟩
     cases p1 with
     | false =>
      simp only [Bool.not_false] at W0p1;have hR0 : R = false := by rw [HR.o]; simp
      subst hR0;go_wp2_with fail;go_ret;exact ⟨rfl, HB.o⟩
     | true =>
      simp only [Bool.not_true] at W0p1
      cases p2 with
      | false =>
       simp only [Bool.not_false] at W0p2;have hR0 : R = false := by rw [HR.o]; simp
       subst hR0;go_wp2_with fail;go_ret;exact ⟨rfl, HB.o⟩
      | true =>
       simp only [Bool.not_true] at W0p2
       cases a40 with
       | false =>
        simp only [Bool.not_false] at W0a40;have hR0 : R = false := by rw [HR.o]; simp
        subst hR0;go_wp2_with fail;go_ret;exact ⟨rfl, HB.o⟩
       | true =>
        simp only [Bool.not_true] at W0a40
        cases m0_ with
        | false =>
         simp only [Bool.not_false] at W0m0_;have hR0 : R = false := by rw [HR.o]; simp
         subst hR0;go_wp2_with fail;go_ret;exact ⟨rfl, HB.o⟩
        | true =>
         simp only [Bool.not_true] at W0m0_;go_wp2_with fail;refine (Zdi _ _ _ _).mono ?_;rw [Hb0.o, Hb4.o];rintro e x2 ⟨rfl, rfl⟩
         cases b0 with
         | false =>
          simp only [Bool.not_false] at W0b0;have hR0 : R = false := by rw [HR.o]; simp
          subst hR0;go_wp2_with fail;go_ret;exact ⟨rfl, HB.o⟩
         | true =>
          simp only [Bool.not_true] at W0b0
          cases b4 with
          | false =>
           simp only [Bool.not_false] at W0b4;have hR0 : R = false := by rw [HR.o]; simp
           subst hR0;go_wp2_with fail;go_ret;exact ⟨rfl, HB.o⟩
          | true =>
           simp only [Bool.not_true] at W0b4;go_wp2_with fail;refine (Zdi _ _ _ _).mono ?_;rw [Ht0.o, Htb.o];rintro e x3 ⟨rfl, rfl⟩
           cases t0 with
           | false =>
            simp only [Bool.not_false] at W0t0;have hR0 : R = false := by rw [HR.o]; simp
            subst hR0;go_wp2_with fail;go_ret;exact ⟨rfl, HB.o⟩
           | true =>
            simp only [Bool.not_true] at W0t0
            cases tb with
            | false =>
             simp only [Bool.not_false] at W0tb;have hR0 : R = false := by rw [HR.o]; simp
             subst hR0;go_wp2_with fail;go_ret;exact ⟨rfl, HB.o⟩
            | true =>
             simp only [Bool.not_true] at W0tb;go_wp2_with fail;refine (Zhi r.names _ 12 F _ (HQn.o.later Z4 HB.o)).mono ?_;rw [Hnm.o, show decide ((r.names.length : Int) ≤ 12) = true by rw [← Hn12.o]; exact (by rw [Bool.eq_iff_iff]; simp only [nJ, nK, nL, ne_eq, nM, nI, nH] <;> omega)];rintro e x1 ⟨rfl, hcl⟩;clear m0 m1 m2 m3 m4 m5 m6 m7 m8 m9 m10 m11 m12;replace HM := zC hcl HM;replace HB := zh (HB.o.trans (Below.mono hcl HB.o.size));clear hcl;obtain ⟨m0, m1, m2, m3, m4, m5, m6, m7, m8, m9, m10, m11, m12⟩ := Zae HM.o
             cases nm with
             | false =>
              have hR0 : R = false := by rw [HR.o]; simp
              subst hR0;go_wp2_with fail;go_ret;exact ⟨rfl, HB.o⟩
             | true =>
              go_wp2_with fail;clear m0 m1 m2 m3 m4 m5 m6 m7 m8 m9 m10 m11 m12
              go_loopw [3] (fun i wr => ∃ j : Nat, i = .int .i64 j ∧ j ≤ r.aB.length ∧ Hd (∀ k (h : k < r.aB.length), k < j → Ze9 r.aB[k] = true) ∧ Hd (wr.heap[M]? = some (.cells #[.slice An r.names.length cn, .slice Ar r.aB.length cr, .slice Ao r.aA.length co, .slice Ag r.globals.length cg, .string r.aC, .int .i64 r.aD, .slice Au r.output.length cu, .slice At r.trace.length ct, .slice Aa r.aE.length ca, .bool r.aF, .int .i64 r.ticks, .int .i64 r.aG, .int .i64 r.made] 30 (0, 0))) ∧ Hd (Below w.heap.size w wr)) (fun i _ => r.aB.length - (intOf i).toNat)
              case atStart => exact ⟨0, rfl, Nat.zero_le _, zh (fun k _ h => by omega), HM, HB⟩
              case round =>
                              clear HM HB;obtain ⟨j, rfl, hj, HD, HM, HB⟩ := hrel;obtain ⟨m0, m1, m2, m3, m4, m5, m6, m7, m8, m9, m10, m11, m12⟩ := Zae HM.o
                              by_cases hlt : j < r.aB.length
                              ·have t1 : decide ((j : Int) < r.aB.length) = true := decide_eq_true (by omega);obtain ⟨ob, oo, cs, rfl, _, hob, hE, hc⟩ := (HQr.o.later Zak HB.o).at__ hlt;obtain ⟨vf, rfl, hnm64, hrf, hln64⟩ := hE;obtain ⟨Af, cf, rfl, hcf, hcmf, _⟩ := id hrf;unfold maxLen at hcmf;have e0 := hc 0 _ rfl;have e1 := hc 1 _ rfl;have e2 := hc 2 _ rfl;simp only [Nat.add_zero] at e0;obtain ⟨y, hy⟩ : ∃ y, r.aB[j] = y := ⟨_, rfl⟩;rw [hy] at e0 e1 e2 hnm64 hrf hln64 hcf;have HY := zh hy;have HRF := zh hrf;have HN64 := zh hnm64;clear hy hc hrf hnm64;have hl4 := (Za.refl wr).alloc (.cells #[.string y.name, .slice Af y.fields.length cf, .int .i64 y.line] 136);have HN := zh (heap_alloc_new wr (.cells #[.string y.name, .slice Af y.fields.length cf, .int .i64 y.line] 136));have HM4 := zC hl4 HM;have HB4 := zh (HB.o.trans (Below.mono hl4 HB.o.size));have HNO : Hd (Ze9 y = false → R = false) := zh (fun e => by rw [HR.o]; have : r.aB.all Ze9 = false := Zei hlt (by rw [HY.o]; exact e); rw [← Hrok.o, this]; simp);obtain ⟨N, hN⟩ : ∃ N, wr.heap.size = N := ⟨_, rfl⟩;obtain ⟨x0, hx0⟩ : ∃ x, x = wr.alloc (.cells #[.string y.name, .slice Af y.fields.length cf, .int .i64 y.line] 136) := ⟨_, rfl⟩;rw [← hx0] at HN HM4 HB4;obtain ⟨q0, hq0⟩ : ∃ q, Zcj y.name = q := ⟨_, rfl⟩;obtain ⟨q1, hq1⟩ : ∃ q, decide (y.fields.length ≤ 6) = q := ⟨_, rfl⟩;obtain ⟨q2, hq2⟩ : ∃ q, y.fields.all Zcj = q := ⟨_, rfl⟩;obtain ⟨q3, hq3⟩ : ∃ q, twB y.fields = q := ⟨_, rfl⟩;obtain ⟨q4, hq4⟩ : ∃ q, decide (0 ≤ y.line) = q := ⟨_, rfl⟩
                               have w4 : decide (y.line < 0) = !q4 := by rw [← hq4]; exact (by rw [Bool.eq_iff_iff]; simp only [nJ, nK, nL, ne_eq, nM, nI, nH] <;> omega)
                               have HOK := zh (show Ze9 y = (q0 && (q1 && (q2 && (!q3 && q4)))) by rw [← hq0, ← hq1, ← hq2, ← hq3, ← hq4]; rfl);have H0 := zh hq0;have H1 := zh hq1;have H2 := zh hq2;have H3 := zh hq3;clear hq0 hq1 hq2 hq3 hq4;rw [hN] at HN;have HL4 : Hd (Za wr x0) := zh (by rw [hx0]; exact hl4);clear hl4;go_upto_region 7 with (fail);rw [← hx0]
                               try rw [hN]
                               clear hx0 hN m0 m1 m2 m3 m4 m5 m6 m7 m8 m9 m10 m11 m12 e0 e1 e2 hob;obtain ⟨f0, f1, f2⟩ := cz3 HN.o;go_wp2_with fail;refine (Zgp y.name _ HN64.o).mono ?_;rw [H0.o];rintro e x1 ⟨rfl, hcl⟩;clear f0 f1 f2;replace HN := zC hcl HN;replace HL4 := zh (HL4.o.trans hcl);replace HM4 := zC hcl HM4;replace HB4 := zh (HB4.o.trans (Below.mono hcl HB4.o.size));clear hcl
                               cases q0 with
                               | false =>
                                have hR0 : R = false := HNO.o (by rw [HOK.o]; rfl);subst hR0;go_wp2_with fail;go_ret;exact ⟨rfl, HB4.o⟩
                               | true =>
                                obtain ⟨f0, f1, f2⟩ := cz3 HN.o;go_wp2_with fail;refine (Zhi y.fields _ 6 F _ (HRF.o.keep Z4 (fun _ h => h) (Zc.later (HL4.o)))).mono ?_;rw [H2.o, show decide ((y.fields.length : Int) ≤ 6) = q1 by rw [← H1.o]; exact (by rw [Bool.eq_iff_iff]; simp only [nJ, nK, nL, ne_eq, nM, nI, nH] <;> omega)];rintro e x2 ⟨rfl, hcl⟩;clear f0 f1 f2;replace HN := zC hcl HN;replace HL4 := zh (HL4.o.trans hcl);replace HM4 := zC hcl HM4;replace HB4 := zh (HB4.o.trans (Below.mono hcl HB4.o.size));clear hcl;have hboth : (q2 = false ∨ q1 = false) → R = false := fun h => HNO.o (by rw [HOK.o]; rcases h with rfl | rfl <;> simp)
                                cases q2 with
                                | false =>
                                 have hR0 : R = false := hboth (.inl rfl);clear hboth;subst hR0;go_wp2_with fail;go_ret;exact ⟨rfl, HB4.o⟩
                                | true =>
                                 cases q1 with
                                 | false =>
                                  have hR0 : R = false := hboth (.inr rfl);clear hboth;subst hR0;go_wp2_with fail;go_ret;exact ⟨rfl, HB4.o⟩
                                 | true =>
                                  clear hboth;obtain ⟨f0, f1, f2⟩ := cz3 HN.o;go_wp2_with fail;refine (Zmk y.fields _ F _ (HRF.o.keep Z4 (fun _ h => h) (Zc.later (HL4.o)))).mono ?_;rw [H3.o];rintro e x3 ⟨rfl, rfl⟩
                                  cases q3 with
                                  | true =>
                                   have hR0 : R = false := HNO.o (by rw [HOK.o]; simp);subst hR0;go_wp2_with fail;go_ret;exact ⟨rfl, HB4.o⟩
                                  | false =>
                                   cases q4 with
                                   | false =>
                                    simp only [Bool.not_false] at w4;have hR0 : R = false := HNO.o (by rw [HOK.o]; simp);subst hR0;go_wp2_with fail;go_ret;exact ⟨rfl, HB4.o⟩
                                   | true =>
                                    simp only [Bool.not_true] at w4;have HD2 : Hd (∀ k (h : k < r.aB.length), k < j + 1 → Ze9 r.aB[k] = true) := zh (Zdm HD.o (fun _ => by rw [HY.o, HOK.o]; rfl));go_wp2_with fail
                                    go_roundw
                                    case rel => exact ⟨j + 1, by go_num, by omega, HD2, HM4, HB4⟩
                                    case measure => simp [intOf]; omega
                              ·have t1 : decide ((j : Int) < r.aB.length) = false := decide_eq_false (by omega);have h1 : r.aB.all Ze9 = true := Zfo (fun k hk => HD.o k hk (by omega));replace HR := zh (show _ = _ from HR.o.trans (by rw [← Hrok.o, h1]));clear h1;go_upto_region 9 with (fail);go_wp2_with fail;clear m0 m1 m2 m3 m4 m5 m6 m7 m8 m9 m10 m11 m12
                               go_loopw [5] (fun i wr => ∃ j : Nat, i = .int .i64 j ∧ j ≤ r.output.length ∧ Hd (∀ k (h : k < r.output.length), k < j → Zgq r.output[k] = true) ∧ Hd (wr.heap[M]? = some (.cells #[.slice An r.names.length cn, .slice Ar r.aB.length cr, .slice Ao r.aA.length co, .slice Ag r.globals.length cg, .string r.aC, .int .i64 r.aD, .slice Au r.output.length cu, .slice At r.trace.length ct, .slice Aa r.aE.length ca, .bool r.aF, .int .i64 r.ticks, .int .i64 r.aG, .int .i64 r.made] 30 (0, 0))) ∧ Hd (Below w.heap.size w wr)) (fun i _ => r.output.length - (intOf i).toNat)
                               case atStart => exact ⟨0, rfl, Nat.zero_le _, zh (fun k _ h => by omega), HM, HB⟩
                               case round =>
                                clear HM HB;obtain ⟨j, rfl, hj, HD, HM, HB⟩ := hrel;obtain ⟨m0, m1, m2, m3, m4, m5, m6, m7, m8, m9, m10, m11, m12⟩ := Zae HM.o
                                by_cases hlt : j < r.output.length
                                ·have t1 : decide ((j : Int) < r.output.length) = true := decide_eq_true (by omega);obtain ⟨ob, oo, cs, rfl, _, hob, hE, hc⟩ := (HQu.o.later Z4 HB.o).at__ hlt;obtain ⟨rfl, hsm⟩ := hE;have e0 := hc 0 _ rfl;simp only [Nat.mul_one, Nat.add_zero] at e0;obtain ⟨y, hy⟩ : ∃ y, r.output[j] = y := ⟨_, rfl⟩;rw [hy] at e0 hsm;have HY := zh hy;clear hy hc
                                 by_cases h120 : y.size ≤ 120
                                 ·have u1 : decide (120 < (y.size : Int)) = false := decide_eq_false (by omega);have HD2 : Hd (∀ k (h : k < r.output.length), k < j + 1 → Zgq r.output[k] = true) := zh (Zdm HD.o (fun _ => by rw [HY.o]; exact decide_eq_true h120));clear h120 hsm;go_wp2_with fail
                                  go_roundw
                                  case rel => exact ⟨j + 1, by go_num, by omega, HD2, HM, HB⟩
                                  case measure => simp [intOf]; omega
                                 ·have u1 : decide (120 < (y.size : Int)) = true := decide_eq_true (by omega);have hR0 : R = false := by rw [HR.o]; have : r.output.all Zgq = false := Zei hlt (by rw [HY.o]; exact decide_eq_false h120); rw [← Houts.o, this]; simp
                                  subst hR0;clear h120 hsm;go_wp2_with fail;go_ret;exact ⟨rfl, HB.o⟩
                                ·have t1 : decide ((j : Int) < r.output.length) = false := decide_eq_false (by omega);have h1 : r.output.all Zgq = true := Zfo (fun k hk => HD.o k hk (by omega));replace HR := zh (show _ = _ from HR.o.trans (by rw [← Houts.o, h1]));clear h1;go_upto_region 14 with (fail);go_wp2_with fail;clear m0 m1 m2 m3 m4 m5 m6 m7 m8 m9 m10 m11 m12
                                 go_loopw [6] (fun i wr => ∃ j : Nat, i = .int .i64 j ∧ j ≤ r.aE.length ∧ Hd (∀ k (h : k < r.aE.length), k < j → Zdl r r.aE[k] = true) ∧ Hd (wr.heap[M]? = some (.cells #[.slice An r.names.length cn, .slice Ar r.aB.length cr, .slice Ao r.aA.length co, .slice Ag r.globals.length cg, .string r.aC, .int .i64 r.aD, .slice Au r.output.length cu, .slice At r.trace.length ct, .slice Aa r.aE.length ca, .bool r.aF, .int .i64 r.ticks, .int .i64 r.aG, .int .i64 r.made] 30 (0, 0))) ∧ Hd (Below w.heap.size w wr)) (fun i _ => r.aE.length - (intOf i).toNat)
                                 case atStart => exact ⟨0, rfl, Nat.zero_le _, zh (fun k _ h => by omega), HM, HB⟩
                                 case round =>
                                  clear HM HB;obtain ⟨j, rfl, hj, HD, HM, HB⟩ := hrel;obtain ⟨m0, m1, m2, m3, m4, m5, m6, m7, m8, m9, m10, m11, m12⟩ := Zae HM.o
                                  by_cases hlt : j < r.aE.length
                                  ·have t1 : decide ((j : Int) < r.aE.length) = true := decide_eq_true (by omega);obtain ⟨ob, oo, cs, rfl, _, hob, hE, hc⟩ := (HQa.o.later Zba HB.o).at__ hlt;obtain ⟨rfl, hr64, hf64⟩ := hE;have e0 := hc 0 _ rfl;have e1 := hc 1 _ rfl;simp only [Nat.add_zero] at e0;obtain ⟨y, hy⟩ : ∃ y, r.aE[j] = y := ⟨_, rfl⟩;rw [hy] at e0 e1 hr64 hf64;have HY := zh hy;clear hy hc;obtain ⟨rt, fr⟩ := y;simp only at e0 e1 hr64 hf64;have hl4 := (Za.refl wr).alloc (.cells #[.int .i64 rt, .int .i64 fr] 89);have HM4 := zC hl4 HM;have HB4 := zh (HB.o.trans (Below.mono hl4 HB.o.size));have HNO : Hd (Zdl r ⟨rt, fr⟩ = false → R = false) := zh (fun e => by rw [HR.o]; have : r.aE.all (Zdl r) = false := Zei hlt (by rw [HY.o]; exact e); rw [← Hacts.o, this]; simp);have n0 := cq HM4.o 0;have n2 := cq HM4.o 2;simp only [nD, nE, nF] at n0 n2;obtain ⟨pa, hpa⟩ : ∃ q, decide (0 ≤ rt) = q := ⟨_, rfl⟩;obtain ⟨pb, hpb⟩ : ∃ q, decide (rt ≤ (r.names.length : Int) - 1) = q := ⟨_, rfl⟩;have HPA := zh hpa;have HPB := zh hpb;clear hpa hpb hl4;go_wp2_with fail;clear m0 m1 m2 m3 m4 m5 m6 m7 m8 m9 m10 m11 m12 e0 e1 hob;refine (Zdi _ _ _ _).mono ?_;rw [HPA.o, HPB.o];rintro e x5 ⟨rfl, rfl⟩
                                   cases pa with
                                   | false =>
                                    have hR0 : R = false := HNO.o (by unfold Zdl; rw [HPA.o]; rfl);subst hR0;go_wp2_with fail;go_ret;exact ⟨rfl, HB4.o⟩
                                   | true =>
                                    cases pb with
                                    | false =>
                                     have hR0 : R = false := HNO.o (by unfold Zdl; rw [decide_eq_false (p := rt < _) (by have := of_decide_eq_false HPB.o; omega)]; simp);subst hR0;go_wp2_with fail;go_ret;exact ⟨rfl, HB4.o⟩
                                    | true =>
                                     have HA := zh (show Zdl r ⟨rt, fr⟩ = Zb9 r fr 1 by unfold Zdl; rw [HPA.o, decide_eq_true (p := rt < _) (by have := of_decide_eq_true HPB.o; omega)]; rfl);obtain ⟨pc, hpc⟩ : ∃ q, decide (0 ≤ fr) = q := ⟨_, rfl⟩;obtain ⟨pd, hpd⟩ : ∃ q, decide (fr ≤ (r.aA.length : Int) - 1) = q := ⟨_, rfl⟩;have HPC := zh hpc;have HPD := zh hpd;clear hpc hpd;go_wp2_with fail;refine (Zdi _ _ _ _).mono ?_;rw [HPC.o, HPD.o];rintro e x6 ⟨rfl, rfl⟩
                                     cases pc with
                                     | false =>
                                      have hR0 : R = false := HNO.o (by rw [HA.o]; exact Zjx (of_decide_eq_false HPC.o));subst hR0;go_wp2_with fail;go_ret;exact ⟨rfl, HB4.o⟩
                                     | true =>
                                      cases pd with
                                      | false =>
                                       have hR0 : R = false := HNO.o (by rw [HA.o]; exact Zeb (by have := of_decide_eq_false HPD.o; omega));subst hR0;go_wp2_with fail;go_ret;exact ⟨rfl, HB4.o⟩
                                      | true =>
                                       obtain ⟨i, rfl⟩ : ∃ i : Nat, fr = i := ⟨fr.toNat, by have := of_decide_eq_true HPC.o; omega⟩;have hil : i < r.aA.length := by have := of_decide_eq_true HPD.o; omega
                                       have hil2 : (i : Int) < (r.aA.length : Int) := by omega
                                       obtain ⟨ob, oo, Ai, ci, Ak, ck, rfl, hob, f0, _⟩ := Zai.obj (HQo.o.later Za9 HB4.o) hil;have HA2 := zh (show Zdl r ⟨rt, (i : Int)⟩ = (r.aA[i].kind == 1) by rw [HA.o, Ziq hil]);obtain ⟨q, hq⟩ : ∃ q, (r.aA[i].kind == 1) = q := ⟨_, rfl⟩;have hq2 : (r.aA[i].kind != 1) = !q := by rw [← hq]; rfl
                                       have HQQ := zh hq;clear hq
                                       cases q with
                                       | false =>
                                        simp only [Bool.not_false] at hq2;have hR0 : R = false := HNO.o (by rw [HA2.o, HQQ.o]);subst hR0;go_wp2_with fail;go_ret;exact ⟨rfl, HB4.o⟩
                                       | true =>
                                        simp only [Bool.not_true] at hq2;have HD2 : Hd (∀ k (h : k < r.aE.length), k < j + 1 → Zdl r r.aE[k] = true) := zh (Zdm HD.o (fun _ => by rw [HY.o, HA2.o, HQQ.o]));go_wp2_with fail
                                        go_roundw
                                        case rel => exact ⟨j + 1, by go_num, by omega, HD2, HM4, HB4⟩
                                        case measure => simp [intOf]; omega
                                  ·have t1 : decide ((j : Int) < r.aE.length) = false := decide_eq_false (by omega);have h1 : r.aE.all (Zdl r) = true := Zfo (fun k hk => HD.o k hk (by omega));replace HR := zh (show _ = _ from HR.o.trans (by rw [← Hacts.o, h1]));clear h1;go_upto_region 20 with (fail);go_wp2_with fail;clear m0 m1 m2 m3 m4 m5 m6 m7 m8 m9 m10 m11 m12
                                   go_loopw [8] (fun i wr => ∃ j : Nat, i = .int .i64 j ∧ j ≤ r.aA.length ∧ Hd (∀ k (h : k < r.aA.length), k < j → Za5 r r.aA[k] = true) ∧ Hd (∀ k (h : k < r.aA.length), k < j → r.aA[k].aI = 0 ∨ ∀ i (hi : i < r.aA.length), i < k → r.aA[i].aI ≠ r.aA[k].aI) ∧ Hd (wr.heap[M]? = some (.cells #[.slice An r.names.length cn, .slice Ar r.aB.length cr, .slice Ao r.aA.length co, .slice Ag r.globals.length cg, .string r.aC, .int .i64 r.aD, .slice Au r.output.length cu, .slice At r.trace.length ct, .slice Aa r.aE.length ca, .bool r.aF, .int .i64 r.ticks, .int .i64 r.aG, .int .i64 r.made] 30 (0, 0))) ∧ Hd (Below w.heap.size w wr)) (fun i _ => r.aA.length - (intOf i).toNat)
                                   case atStart => exact ⟨0, rfl, Nat.zero_le _, zh (fun k _ h => by omega), zh (fun k _ h => by omega), HM, HB⟩
                                   case round =>
                                    clear HM HB;obtain ⟨j, rfl, hj, HD, HE, HM, HB⟩ := hrel;obtain ⟨m0, m1, m2, m3, m4, m5, m6, m7, m8, m9, m10, m11, m12⟩ := Zae HM.o
                                    by_cases hlt : j < r.aA.length
                                    ·have t1 : decide ((j : Int) < r.aA.length) = true := decide_eq_true (by omega);obtain ⟨ob, oo, Ai, ci, Ak, ck, rfl, hob, e0, e1, e2, e3, e4, hrI, hrK, hk64, ht64, hs64⟩ := Zai.obj (HQo.o.later Za9 HB.o) hlt;obtain ⟨p, hp⟩ : ∃ p, Za5 r r.aA[j] = p := ⟨_, rfl⟩;have HP := zh hp;have HH := zh (Zkx r M _ F _ r.aA[j] _ (⟨HM.o, Z7.keep HEL.o (fun _ h => h) (Zc.later HB.o)⟩ : Zai F _ M r _) (⟨_, _, rfl, hk64, ht64, hs64, hrI, hrK⟩ : Zbq F _ r.aA[j] [.int .i64 r.aA[j].kind, .int .i64 r.aA[j].tag, .int .i64 r.aA[j].aI, .slice Ai r.aA[j].aJ.length ci, .slice Ak r.aA[j].aK.length ck]) (HSO.o j hlt));rw [hp] at HH;clear hp hrI hrK hk64 ht64 hs64;go_wp2_with fail;refine HH.o.mono ?_;rintro e w5 ⟨rfl, hcl⟩;clear e0 e1 e2 e3 e4 hob HH m0 m1 m2 m3 m4 m5 m6 m7 m8 m9 m10 m11 m12;replace HM := zC hcl HM;replace HB := zh (HB.o.trans (Below.mono hcl HB.o.size));clear hcl
                                     cases p with
                                     | false =>
                                      have hR0 : R = false := by rw [HR.o]; have : r.aA.all (Za5 r) = false := Zei hlt HP.o; rw [← Hobjs.o, this]; simp
                                      subst hR0;go_wp2_with fail;go_ret;exact ⟨rfl, HB.o⟩
                                     | true =>
                                      have HD2 : Hd (∀ k (h : k < r.aA.length), k < j + 1 → Za5 r r.aA[k] = true) := zh (Zdm HD.o (fun _ => HP.o));go_wp2_with fail
                                      go_loopw [9] (fun i wr => ∃ k : Nat, i = .int .i64 k ∧ k ≤ j ∧ Hd (∀ q (h : q < r.aA.length), q < k → r.aA[j].aI = 0 ∨ r.aA[q].aI ≠ r.aA[j].aI) ∧ Hd (wr.heap[M]? = some (.cells #[.slice An r.names.length cn, .slice Ar r.aB.length cr, .slice (some ⟨ob, oo, none⟩) r.aA.length co, .slice Ag r.globals.length cg, .string r.aC, .int .i64 r.aD, .slice Au r.output.length cu, .slice At r.trace.length ct, .slice Aa r.aE.length ca, .bool r.aF, .int .i64 r.ticks, .int .i64 r.aG, .int .i64 r.made] 30 (0, 0))) ∧ Hd (Below w.heap.size w wr)) (fun i _ => j - (intOf i).toNat)
                                      case atStart => exact ⟨0, rfl, Nat.zero_le _, zh (fun k _ h => by omega), HM, HB⟩
                                      case round =>
                                       clear HM HB;obtain ⟨k, rfl, hk, HF, HM, HB⟩ := hrel
                                       by_cases hkj : k < j
                                       ·have u1 : decide ((k : Int) < (j : Int)) = true := decide_eq_true (by omega);have hkl : k < r.aA.length := by omega
                                        obtain ⟨ob1, oo1, Ai1, ci1, Ak1, ck1, eo1, hob, _, _, e2, _, _, _, _, _, _, _⟩ := Zai.obj (HQo.o.later Za9 HB.o) hlt;cases eo1;obtain ⟨ob2, oo2, Ai2, ci2, Ak2, ck2, eo2, _, _, _, g2, _, _, _, _, _, _, _⟩ := Zai.obj (HQo.o.later Za9 HB.o) hkl;cases eo2;have m2 := cq HM.o 2;simp only [nD, nE, nF] at m2;obtain ⟨y, hy⟩ : ∃ y, r.aA[j].aI = y := ⟨_, rfl⟩;obtain ⟨z, hz⟩ : ∃ z, r.aA[k].aI = z := ⟨_, rfl⟩;rw [hy] at e2;rw [hz] at g2;have HY := zh hy;have HZ := zh hz;clear hy hz;go_upto_region 28 with (fail)
                                        by_cases hs0 : y = 0
                                        ·have u3 : (y != 0) = false := by rw [← Bool.not_eq_true, bne_iff_ne]; omega
                                         have HF2 : Hd (∀ q (h : q < r.aA.length), q < k + 1 → r.aA[j].aI = 0 ∨ r.aA[q].aI ≠ r.aA[j].aI) := zh (fun q hq h => .inl (HY.o.trans hs0));clear hs0;refine Z6 (fun V hV => ?_);have hVL := (show Za _ V by rw [hV]; exact (Za.refl _).drew);replace HM := zC hVL HM;replace HB := zh (HB.o.trans (Below.mono hVL HB.o.size));have q2 := cq HM.o 2;simp only [nD, nE, nF] at q2;have hMV := Zd HM.o;have hobV : ob < V.heap.size := Nat.lt_of_lt_of_le hob hVL.size;have s2 := (hVL.cell ⟨ob, oo + j * 5 + 2, none⟩ hob).trans e2;have u2 := (hVL.cell ⟨ob, oo + k * 5 + 2, none⟩ hob).trans g2;clear hV hVL e2 g2 m2 hob
                                         repeat go_big_quiet_step (fail)
                                         refine wpQuiet_nil ?_;go_wp2_with fail
                                         go_roundw
                                         case rel => exact ⟨k + 1, by go_num, by omega, HF2, HM, HB⟩
                                         case measure => simp [intOf]; omega
                                        ·have u3 : (y != 0) = true := bne_iff_ne.2 hs0
                                         by_cases hyz : y = z
                                         ·have u4 : (y == z) = true := beq_iff_eq.2 hyz;have hR0 : R = false := by
                                           rw [HR.o, ← Hsers.o, Zi9 hlt (by rw [HY.o]; exact hs0) hkj (by rw [HZ.o, HY.o, hyz])];simp
                                          subst hR0;clear hs0 hyz;refine Z6 (fun V hV => ?_);have hVL := (show Za _ V by rw [hV]; exact (Za.refl _).drew);replace HM := zC hVL HM;replace HB := zh (HB.o.trans (Below.mono hVL HB.o.size));have q2 := cq HM.o 2;simp only [nD, nE, nF] at q2;have hMV := Zd HM.o;have hobV : ob < V.heap.size := Nat.lt_of_lt_of_le hob hVL.size;have s2 := (hVL.cell ⟨ob, oo + j * 5 + 2, none⟩ hob).trans e2;have u2 := (hVL.cell ⟨ob, oo + k * 5 + 2, none⟩ hob).trans g2;clear hV hVL e2 g2 m2 hob
                                          repeat go_big_quiet_step (fail)
                                          refine wpQuiet_nil ?_;go_wp2_with fail;go_ret;exact ⟨rfl, HB.o⟩
                                         ·have u4 : (y == z) = false := nH.2 hyz;have HF2 : Hd (∀ q (h : q < r.aA.length), q < k + 1 → r.aA[j].aI = 0 ∨ r.aA[q].aI ≠ r.aA[j].aI) := zh (fun q hq h => by
                                           rcases Nat.lt_or_ge q k with h1 | h1
                                           ·exact HF.o q hq h1
                                           ·obtain rfl : q = k := by omega
                                            exact .inr (by rw [HZ.o, HY.o]; exact fun e => hyz e.symm))
                                          clear hs0 hyz;refine Z6 (fun V hV => ?_);have hVL := (show Za _ V by rw [hV]; exact (Za.refl _).drew);replace HM := zC hVL HM;replace HB := zh (HB.o.trans (Below.mono hVL HB.o.size));have q2 := cq HM.o 2;simp only [nD, nE, nF] at q2;have hMV := Zd HM.o;have hobV : ob < V.heap.size := Nat.lt_of_lt_of_le hob hVL.size;have s2 := (hVL.cell ⟨ob, oo + j * 5 + 2, none⟩ hob).trans e2;have u2 := (hVL.cell ⟨ob, oo + k * 5 + 2, none⟩ hob).trans g2;clear hV hVL e2 g2 m2 hob
                                          repeat go_big_quiet_step (fail)
                                          refine wpQuiet_nil ?_;go_wp2_with fail
                                          go_roundw
                                          case rel => exact ⟨k + 1, by go_num, by omega, HF2, HM, HB⟩
                                          case measure => simp [intOf]; omega
                                       ·have u1 : decide ((k : Int) < (j : Int)) = false := decide_eq_false (by omega);have HE2 : Hd (∀ k (h : k < r.aA.length), k < j + 1 → r.aA[k].aI = 0 ∨ ∀ i (hi : i < r.aA.length), i < k → r.aA[i].aI ≠ r.aA[k].aI) := zh (fun q hq h => by
                                         rcases Nat.lt_or_ge q j with h1 | h1
                                         ·exact HE.o q hq h1
                                         ·obtain rfl : q = j := by omega
                                          by_cases e : r.aA[q].aI = 0
                                          ·exact .inl e
                                          ·exact .inr (fun i hi hiq => (HF.o i hi (by omega)).resolve_left e))
                                        go_wp2_with fail
                                        go_roundw
                                        case rel => exact ⟨j + 1, by go_num, by omega, HD2, HE2, HM, HB⟩
                                        case measure => simp [intOf]; omega
                                    ·have t1 : decide ((j : Int) < r.aA.length) = false := decide_eq_false (by omega);have h1 : r.aA.all (Za5 r) = true := Zfo (fun k hk => HD.o k hk (by omega));have h2 : Zd0 r.aA = true := Zh8 (fun k hk => HE.o k hk (by omega));have hR0 : R = gl := by rw [HR.o, ← Hobjs.o, ← Hsers.o, h1, h2]; simp
                                     subst hR0;clear h1 h2;have HH := zh (Zcl r M _ F _ r.globals _ (⟨HM.o, Z7.keep HEL.o (fun _ h => h) (Zc.later HB.o)⟩ : Zai F _ M r _) (HQg.o.later Zb HB.o));rw [Hgl.o] at HH;go_wp2_with fail;refine HH.o.mono ?_;rintro e w6 ⟨rfl, hcl⟩;have HB6 := zh (HB.o.trans (Below.mono hcl HB.o.size));clear hcl;go_wp2_with fail;go_ret;exact ⟨rfl, HB6.o⟩
def sZ : Zh := ⟨[], [], [], [], ⟨#[]⟩, 0, [], [], [], false, 0, 0, 0⟩
theorem Zd8 (F : Nat → Prop) (w : World) : Zcz F w sZ [.slice none 0 0, .slice none 0 0, .slice none 0 0, .slice none 0 0, .string ⟨#[]⟩, .int .i64 0, .slice none 0 0, .slice none 0 0, .slice none 0 0, .bool false, .int .i64 0, .int .i64 0, .int .i64 0] :=
 ⟨fun _ => 0, _, _, _, _, _, _, _, rfl, Zbo.nil _ _ _ _ _, Zbo.nil _ _ _ _ _, Zbo.nil _ _ _ _ _, Zbo.nil _ _ _ _ _, Nat.zero_le _, in0, Zbo.nil _ _ _ _ _, Zbo.nil _ _ _ _ _, Zbo.nil _ _ _ _ _, in0, in0, in0⟩
def Zf0 (q : Zh × Zj × Int) : Zh × Zj × Int := if q.2.2 = 0 then (q.1, q.2.1, 0) else (sZ, vZ, q.2.2)
def Zbv (r : Zh) (x i : Zj) : Zh × Zj × Int := if (Zdh r && (Zb5 r x && Zb5 r i)) = true then Zf0 (Zbg r x i) else (sZ, vZ, 205)
def Zc2 (r : Zh) (x : Zj) (k : Int) : Zh × Zj × Int := if (Zdh r && (Zb5 r x && (decide (0 ≤ k) && decide (k ≤ 1000)))) = true then Zf0 (elR r x k.toNat) else (sZ, vZ, 205)
/-- What they leave. -/
def Zbu (w : World) (q : Zh × Zj × Int) (e : Ending) (w' : World) : Prop :=
 ∃ cs', e = .returned (.tuple #[.agg cs'.toArray, .agg #[.int .i64 q.2.1.kind, .int .i64 q.2.1.aH, .int .i64 q.2.1.index, .string q.2.1.text, .int .i64 q.2.1.set_.low, .int .i64 q.2.1.set_.high], .int .i64 q.2.2]) ∧ Zcz (fun b => w.heap.size ≤ b) w' q.1 cs' ∧ Below w.heap.size w w'
theorem Zed {r : Zh} {v : Zj} (h : Zb5 r v = true) : Zz r v = true := by
 unfold Zb5 at h;rw [Bool.and_eq_true] at h;exact h.2
/-- The two results' blocks are written last. -/
theorem Zco {w y : World} {RS RV n : Nat} {q : Zh} {cs : List Value} {G : Nat → Prop} (hsp : Zcz G y q cs) (hG : ∀ b, G b → n ≤ b) (h1 : w.heap.size ≤ RS) (h2 : RS < n) (h3 : w.heap.size ≤ RV) (h4 : RV < n) (hb : Below w.heap.size w y) (vs : List Value) :
  Zcz (fun b => w.heap.size ≤ b) (Zp (Zp y RS 0 cs) RV 0 vs) q cs ∧ Below w.heap.size w (Zp (Zp y RS 0 cs) RV 0 vs) :=
 ⟨Zv.is.keep hsp (fun b hb => by have := hG b hb; omega) ((Z5 (fun h => by have := hG _ h; omega) cs y 0 (Zc.refl _ _)).trans (Z5 (F := G) (fun h => by have := hG _ h; omega) vs _ 0 (Zc.refl _ _))),
  Z8 h3 vs _ 0 (Z8 h1 cs y 0 hb)⟩
theorem Zfm (r : Zh) (cs : List Value) (F : Nat → Prop) (w : World) (v : Zj) (hsz : Zad r ≤ 1048576) (h : Zb6 F w r cs) (hv : Ze F w v [.int .i64 v.kind, .int .i64 v.aH, .int .i64 v.index, .string v.text, .int .i64 v.set_.low, .int .i64 v.set_.high]) :
  Calls Tryz.prog 12 #[.agg cs.toArray, .agg #[.int .i64 v.kind, .int .i64 v.aH, .int .i64 v.index, .string v.text, .int .i64 v.set_.low, .int .i64 v.set_.high]] w fun e w' => e = .returned (.bool (Zdh r && Zz r v)) ∧ Below w.heap.size w w' := by
 have hh := h;obtain ⟨aL, aM, aN, aO, aP, aQ, aR, rfl, _⟩ := h;have hl := ((Za.refl w).alloc (.cells #[aL, aM, aN, aO, .string r.aC, .int .i64 r.aD, aP, aQ, aR, .bool r.aF, .int .i64 r.ticks, .int .i64 r.aG, .int .i64 r.made] 30)).alloc (.cells #[.int .i64 v.kind, .int .i64 v.aH, .int .i64 v.index, .string v.text, .int .i64 v.set_.low, .int .i64 v.set_.high] 34);have HV := zh hv;have HMB := zh (((Za.refl _).alloc (.cells #[.int .i64 v.kind, .int .i64 v.aH, .int .i64 v.index, .string v.text, .int .i64 v.set_.low, .int .i64 v.set_.high] 34)).block w.heap.size (by simp) |>.trans (heap_alloc_new w (.cells #[aL, aM, aN, aO, .string r.aC, .int .i64 r.aD, aP, aQ, aR, .bool r.aF, .int .i64 r.ticks, .int .i64 r.aG, .int .i64 r.made] 30)));have HXB := zh (show ((w.alloc (.cells #[aL, aM, aN, aO, .string r.aC, .int .i64 r.aD, aP, aQ, aR, .bool r.aF, .int .i64 r.ticks, .int .i64 r.aG, .int .i64 r.made] 30)).alloc (.cells #[.int .i64 v.kind, .int .i64 v.aH, .int .i64 v.index, .string v.text, .int .i64 v.set_.low, .int .i64 v.set_.high] 34)).heap[w.heap.size + 1]? = some (.cells #[.int .i64 v.kind, .int .i64 v.aH, .int .i64 v.index, .string v.text, .int .i64 v.set_.low, .int .i64 v.set_.high] 34 (0, 0)) from Zy (by simp));have HL := zh hl;have HC := zh (Zgv r _ F _ hsz (Z7.keep hh (fun _ h => h) (Zc.later hl)))
 have HH := zh hh;obtain ⟨w2, hw2⟩ : ∃ x, x = (w.alloc (.cells #[aL, aM, aN, aO, .string r.aC, .int .i64 r.aD, aP, aQ, aR, .bool r.aF, .int .i64 r.ticks, .int .i64 r.aG, .int .i64 r.made] 30)).alloc (.cells #[.int .i64 v.kind, .int .i64 v.aH, .int .i64 v.index, .string v.text, .int .i64 v.set_.low, .int .i64 v.set_.high] 34) := ⟨_, rfl⟩;rw [← hw2] at HMB HXB HL HC;obtain ⟨p, hp⟩ : ∃ p, Zdh r = p := ⟨_, rfl⟩;obtain ⟨q, hq⟩ : ∃ p, Zz r v = p := ⟨_, rfl⟩;rw [hp, hq];have HP := zh hp;have HQ := zh hq;clear hl hh hsz hv hp hq;go_enter Tryz.func12, Tryz.ntmps12;go_upto_region 1 with (fail);rw [← hw2];clear hw2;have m0 := Zae HMB.o;have p0 := cz6 HXB.o;go_wp2_with fail;refine HC.o.mono ?_;rw [HP.o];rintro e w3 ⟨rfl, hcl⟩;clear m0 p0;have HXC := zC hcl HXB;have HM3 := zC hcl HMB;have HL3 := zh (HL.o.trans hcl);clear hcl;have p0 := cz6 HXC.o
 cases p with
 | false =>
  go_wp2_with fail;go_ret;exact ⟨rfl, HL3.o⟩
 | true =>
  go_wp2_with fail;refine (Zbz r w.heap.size _ F _ v _ (⟨HM3.o, Z7.keep HH.o (fun _ h => h) (Zc.later HL3.o)⟩ : Zai F _ _ r _) (show Ze F _ v _ from HV.o)).mono ?_;rw [HQ.o];rintro e w4 ⟨rfl, hcl⟩;have HL4 := zh (HL3.o.trans hcl);clear hcl;go_wp2_with fail;go_ret;exact ⟨by simp, HL4.o⟩
end Go.Proofs.YtpmhelkiicigfaaGreatDoor
namespace Go.Proofs.YtpmhelkiicigfaaGreatDoor
open Go.RowKit
section
variable {P : Program} {ops : Array Oper} {Q : Exit → Act → World → Prop} {S : World → Prop}
theorem Zpj {i : Nat} {L U : List Nat} {o : Oper} {fuel : Nat} {listed : Array Bool} {a : Act} {w : World} (hu : U.contains i = false) (ho : ops[i]? = some o)
  (h : wpList P ops (Zgf Q S (fun a' w' => wpV P ops Q L U S fuel (listed.setIfInBounds i true) a' w')) [o] a w) :
  wpOp P ops Q i (fun a' w' => ((Zgk L U i = false → S w') ∧ (Zgl U i = true → w' = w)) ∧ Zda P .any ops Q (Zgk L U) (Zgl U) S fuel (listed.setIfInBounds i true) a' w') a w := by
 unfold wpList at h;unfold wpOp;rw [ho];have hK : ∀ a' w', wpList P ops (Zgf Q S (fun a' w' => wpV P ops Q L U S fuel (listed.setIfInBounds i true) a' w')) [] a' w' →
   (((Zgk L U i = false → S w') ∧ (Zgl U i = true → w' = w)) ∧ Zda P .any ops Q (Zgk L U) (Zgl U) S fuel (listed.setIfInBounds i true) a' w') := fun a' w' h' =>
  ⟨⟨fun _ => h'.1, fun h0 => (by unfold Zgl at h0; rw [hu] at h0; cases h0)⟩, h'.2⟩
 have hup : o.wp P a w (wpList P ops (Zgf Q S (fun a' w' => wpV P ops Q L U S fuel (listed.setIfInBounds i true) a' w')) []) (Zgf Q S (fun a' w' => wpV P ops Q L U S fuel (listed.setIfInBounds i true) a' w')) →
   o.wp P a w (wpList P ops (Zgf Q S (fun a' w' => wpV P ops Q L U S fuel (listed.setIfInBounds i true) a' w')) []) Q := fun h' => by
  unfold Oper.wp at *
  generalize (execOp a.eval o).run P w = r at *
  cases r with
  | ok n w' => cases n <;> exact h'
  | halt x w' => cases x <;> exact h'
 show if Region.wanted o (yielded ops a.tmps) = true then _ else _
 split
 ·rename_i hw;rw [if_pos hw] at h
  rcases h with h | ⟨h1, h2⟩
  ·exact .inl (Oper.wp_mono hK (hup h))
  ·exact .inr ⟨h1, h2⟩
 ·rename_i hw;rw [if_neg hw] at h;exact hK _ _ h
/-- Either of two comes next. -/
theorem Zjt (i j : Nat) {L U : List Nat} {oi oj : Oper} {fuel : Nat} {listed : Array Bool} {a : Act} {w : World} (hr : Region.ready .any ops listed = [i, j]) (hui : U.contains i = false) (huj : U.contains j = false) (hoi : ops[i]? = some oi) (hoj : ops[j]? = some oj)
  (h1 : wpList P ops (Zgf Q S (fun a' w' => wpV P ops Q L U S fuel (listed.setIfInBounds i true) a' w')) [oi] a w)
  (h2 : wpList P ops (Zgf Q S (fun a' w' => wpV P ops Q L U S fuel (listed.setIfInBounds j true) a' w')) [oj] a w) : wpV P ops Q L U S (fuel + 1) listed a w := by
 refine ⟨fun h0 => (by rw [hr] at h0; cases h0), fun k hk => ?_⟩;rw [hr] at hk;simp only [List.mem_cons, List.not_mem_nil, or_false] at hk
 rcases hk with rfl | rfl
 ·exact Zpj hui hoi h1
 ·exact Zpj huj hoj h2
end
end Go.Proofs.YtpmhelkiicigfaaGreatDoor
namespace Go.Proofs.YtpmhelkiicigfaaGreatDoor
open Go.RowKit
theorem Zlc (r : Zh) (B : Nat) (cs : List Value) (F : Nat → Prop) (w : World) (x i : Zj) (h : Zb3 F w B r cs) (hx : Ze F w x [.int .i64 x.kind, .int .i64 x.aH, .int .i64 x.index, .string x.text, .int .i64 x.set_.low, .int .i64 x.set_.high]) (hi : Ze F w i [.int .i64 i.kind, .int .i64 i.aH, .int .i64 i.index, .string i.text, .int .i64 i.set_.low, .int .i64 i.set_.high]) (hm : r.aA.length ≤ 1048576) (hdx : Zz r x = true) (hitm : ∀ j (h : j < r.aA.length), r.aA[j].aJ.length ≤ 1048576) (ht : Pw w) :
  Calls Tryz.prog 79 #[.pointer (some ⟨B, 0, none⟩), .agg #[.int .i64 x.kind, .int .i64 x.aH, .int .i64 x.index, .string x.text, .int .i64 x.set_.low, .int .i64 x.set_.high], .agg #[.int .i64 i.kind, .int .i64 i.aH, .int .i64 i.index, .string i.text, .int .i64 i.set_.low, .int .i64 i.set_.high]] w fun e w' => Zav F w B (Zbg r x i) e w' := by
 have HX64 := zh (show Ze F w x [.int .i64 x.kind, .int .i64 x.aH, .int .i64 x.index, .string x.text, .int .i64 x.set_.low, .int .i64 x.set_.high] from hx);have HI64 := zh (show Ze F w i [.int .i64 i.kind, .int .i64 i.aH, .int .i64 i.index, .string i.text, .int .i64 i.set_.low, .int .i64 i.set_.high] from hi);have hin : Zac x.aH ∧ Zac i.aH ∧ x.text.size ≤ maxLen ∧ i.text.size ≤ maxLen := ⟨hx.2.2.1, hi.2.2.1, hx.2.2.2.2.1, hi.2.2.2.2.1⟩;have HIN := zh hin;have HBW := zh h.lt;have HFB := zh h.nB;have HDX := zh hdx;have HIT := zh hitm;have HM := zh hm;have hl : Za w (((w.alloc (.cells #[.int .i64 x.kind, .int .i64 x.aH, .int .i64 x.index, .string x.text, .int .i64 x.set_.low, .int .i64 x.set_.high] 34)).alloc (.cells #[.int .i64 i.kind, .int .i64 i.aH, .int .i64 i.index, .string i.text, .int .i64 i.set_.low, .int .i64 i.set_.high] 34)).alloc (.cells #[.int .i64 0, .int .i64 0, .int .i64 0, .string ⟨#[]⟩, .int .i64 0, .int .i64 0] 34)) := (((Za.refl w).alloc _).alloc _).alloc _;have HXB := zh (((Za.refl _).alloc (.cells #[.int .i64 i.kind, .int .i64 i.aH, .int .i64 i.index, .string i.text, .int .i64 i.set_.low, .int .i64 i.set_.high] 34)).trans ((Za.refl _).alloc (.cells #[.int .i64 0, .int .i64 0, .int .i64 0, .string ⟨#[]⟩, .int .i64 0, .int .i64 0] 34)) |>.block w.heap.size (by simp) |>.trans (heap_alloc_new w (.cells #[.int .i64 x.kind, .int .i64 x.aH, .int .i64 x.index, .string x.text, .int .i64 x.set_.low, .int .i64 x.set_.high] 34)))
 have HIB := zh (((Za.refl _).alloc (.cells #[.int .i64 0, .int .i64 0, .int .i64 0, .string ⟨#[]⟩, .int .i64 0, .int .i64 0] 34)).block (w.heap.size + 1) (by simp) |>.trans (Zy (w := w.alloc (.cells #[.int .i64 x.kind, .int .i64 x.aH, .int .i64 x.index, .string x.text, .int .i64 x.set_.low, .int .i64 x.set_.high] 34)) (o := #[.int .i64 i.kind, .int .i64 i.aH, .int .i64 i.index, .string i.text, .int .i64 i.set_.low, .int .i64 i.set_.high]) (T := 34) (by simp)));have HRB := zh (show (((w.alloc (.cells #[.int .i64 x.kind, .int .i64 x.aH, .int .i64 x.index, .string x.text, .int .i64 x.set_.low, .int .i64 x.set_.high] 34)).alloc (.cells #[.int .i64 i.kind, .int .i64 i.aH, .int .i64 i.index, .string i.text, .int .i64 i.set_.low, .int .i64 i.set_.high] 34)).alloc (.cells #[.int .i64 0, .int .i64 0, .int .i64 0, .string ⟨#[]⟩, .int .i64 0, .int .i64 0] 34)).heap[w.heap.size + 1 + 1]? = some (.cells #[.int .i64 0, .int .i64 0, .int .i64 0, .string ⟨#[]⟩, .int .i64 0, .int .i64 0] 34 (0, 0)) from Zy (by simp));have HL := zh hl;have HSW := zh (show (((w.alloc (.cells #[.int .i64 x.kind, .int .i64 x.aH, .int .i64 x.index, .string x.text, .int .i64 x.set_.low, .int .i64 x.set_.high] 34)).alloc (.cells #[.int .i64 i.kind, .int .i64 i.aH, .int .i64 i.index, .string i.text, .int .i64 i.set_.low, .int .i64 i.set_.high] 34)).alloc (.cells #[.int .i64 0, .int .i64 0, .int .i64 0, .string ⟨#[]⟩, .int .i64 0, .int .i64 0] 34)).heap.size = w.heap.size + 3 by simp)
 have HS := zh (h.trim.later hl);have HT := zh (ht.below hl);obtain ⟨w3, hw3⟩ : ∃ z, z = (((w.alloc (.cells #[.int .i64 x.kind, .int .i64 x.aH, .int .i64 x.index, .string x.text, .int .i64 x.set_.low, .int .i64 x.set_.high] 34)).alloc (.cells #[.int .i64 i.kind, .int .i64 i.aH, .int .i64 i.index, .string i.text, .int .i64 i.set_.low, .int .i64 i.set_.high] 34)).alloc (.cells #[.int .i64 0, .int .i64 0, .int .i64 0, .string ⟨#[]⟩, .int .i64 0, .int .i64 0] 34)) := ⟨_, rfl⟩;rw [← hw3] at HXB HIB HRB HL HS HSW HT;have HLC := zh (Za.refl w3);clear h hx hi hm hdx hitm hl hin ht
 by_cases k5 : x.kind = 5
 ·have t5 : (x.kind == 5) = true := beq_iff_eq.2 k5;have hq : Zbg r x i = (Zct r ⟨8, 0, 0, [x, i], []⟩, ⟨17, r.aA.length, 0, ⟨#[]⟩, ⟨0, 0⟩⟩, 0) := by unfold Zbg; rw [if_pos k5]
  have HQ := zh hq;clear hq k5;go_enter Tryz.func79, Tryz.ntmps79;go_upto_region 1 with (fail);rw [← hw3];clear hw3;have HXC := zB HLC HXB;have HIC := zB HLC HIB;have HRC := zB HLC HRB;obtain ⟨p0, p1, p2, p3, p4, p5⟩ := cz6 HXC.o;have q0 := cz6 HIC.o;have z0 := cz6 HRC.o;have fz0 := fz HRC.o;go_wp2_with fail;refine (Zk7 r B cs _ w3 x i HS.o (show Ze _ _ x _ from HX64.o) (show Ze _ _ i _ from HI64.o) HM.o).mono ?_;rintro e w5 ⟨rfl, ⟨cs5, hS5⟩, hG5⟩;clear HXC HIC HRC p0 p1 p2 p3 p4 p5 q0 z0 fz0;have hR5 : w5.heap[w.heap.size + 1 + 1]? = some (.cells #[.int .i64 0, .int .i64 0, .int .i64 0, .string ⟨#[]⟩, .int .i64 0, .int .i64 0] 34 (0, 0)) := (hG5.keep.same _ ⟨fun hf => by have := hf.2; omega, by have := HBW.o; omega⟩ (by rw [HSW.o]; omega)).trans HRB.o;have z0 := cz6 hR5;have fz0 := fz hR5;have HS5 := zh hS5;have HG5 := zh (show Zbb F w B w5 from ⟨⟨Nat.le_trans HL.o.size hG5.keep.size, fun b hb hl => (hG5.keep.same b ⟨fun h => hb.1 h.1, hb.2⟩ (Nat.lt_of_lt_of_le hl HL.o.size)).trans (HL.o.block b hl)⟩, (Below.mono HL.o (Nat.zero_le _)).trans hG5.below⟩);clear hS5 hG5 hR5;go_wp2_with fail;have hd := Zau (F := F) (w := w) (R := w.heap.size + 1 + 1) HS5.o (by have := HSW.o; have := HBW.o; rintro (⟨_, h⟩ | h) <;> omega) (fun b hb => by rcases hb with h | h; exact .inl h.1; right; rw [HSW.o] at h; omega) HFB.o HBW.o HG5.o (by omega) [.int .i64 17, .int .i64 r.aA.length, .int .i64 0, .string ⟨#[]⟩, .int .i64 0, .int .i64 0] 0
  simp only [Zp, Nat.zero_add, Nat.reduceAdd] at hd;refine bodyPost_ret (v := .tuple #[.agg #[.int .i64 17, .int .i64 r.aA.length, .int .i64 0, .string ⟨#[]⟩, .int .i64 0, .int .i64 0], .int .i64 0]) (by simp [results, Tryz.results79, go_sem, z0, fz0]) rfl (by show Zav F w B (Zbg r x i) _ _; rw [HQ.o]; exact ⟨rfl, hd.1, hd.2⟩)
 have t5 : (x.kind == 5) = false := nH.2 k5
 by_cases K4 : x.kind = 4
 ·obtain ⟨j, hj, hjl⟩ := Zdu HDX.o (by rw [K4]; decide);have hjl2 : (j : Int) < (r.aA.length : Int) := by omega
  have HJ := zh hj;have t4 : (x.kind == 4) = true := beq_iff_eq.2 K4;have t7 : (x.kind == 7) = false := nH.2 (by omega);have hit := HIT.o j hjl;have HKV := zh K4;clear K4 hj;go_enter Tryz.func79, Tryz.ntmps79;go_upto_region 1 with (fail);rw [← hw3];clear hw3;have HXC := zB HLC HXB;have HIC := zB HLC HIB;have HRC := zB HLC HRB;obtain ⟨p0, p1, p2, p3, p4, p5⟩ := cz6 HXC.o;have q0 := cz6 HIC.o;have z0 := cz6 HRC.o;have fz0 := fz HRC.o;rw [HJ.o] at p1;go_upto_region 6 with (fail);refine Z6 (fun W hW => ?_);have hWL := (show Za _ W by rw [hW]; exact (Za.refl _).drew);clear hW;clear HXC HIC HRC p0 p1 p2 p3 p4 p5 q0 z0 fz0;replace HLC := zh (HLC.o.trans hWL);clear hWL;have HXC := zB HLC HXB;have HIC := zB HLC HIB;have HRC := zB HLC HRB;obtain ⟨p0, p1, p2, p3, p4, p5⟩ := cz6 HXC.o;have q0 := cz6 HIC.o;have z0 := cz6 HRC.o;have fz0 := fz HRC.o;rw [HJ.o] at p1;obtain ⟨Ao, co, b2, hco, hcmo, hro⟩ := (HS.o.later HLC.o).at_.aA;unfold maxLen at hcmo;obtain ⟨ob, oo, Aj, cj, Ajk, cjk, eo, hob, _, _, _, e3, _, hrj, _⟩ := Zai.obj hro hjl;cases eo;obtain ⟨Aj2, cj2, ej, hcj, hcmj, _⟩ := id hrj;cases ej;unfold maxLen at hcmj;have hBW := (HS.o.later HLC.o).lt;have hXW := Zd HXC.o;clear hro hrj
  repeat go_big_quiet_step (fail)
  refine wpQuiet_nil ?_;clear hBW hXW b2 e3 hob;obtain ⟨mi, hmi⟩ : ∃ q, Zey i = q := ⟨_, rfl⟩;have HMI := zh hmi;clear hmi
  cases mi with
  | none =>
   have hq : Zbg r x i = (r, vZ, 101) := by have K := HKV.o; unfold Zbg; rw [if_neg (by omega), if_pos (by omega), HMI.o]
   have HQ := zh hq;clear hq;go_wp2_with fail;refine (Zbm i _ F _ (Zb.keep (G := F) HI64.o (fun _ h => h) (Zc.later (HL.o.trans HLC.o))) (HT.o.below HLC.o)).mono ?_;rw [HMI.o];rintro e w7 ⟨rfl, hcl⟩;clear HXC HIC HRC p0 p1 p2 p3 p4 p5 q0 z0 fz0;replace HLC := zh (HLC.o.trans hcl);clear hcl;have HXC := zB HLC HXB;have HIC := zB HLC HIB;have HRC := zB HLC HRB;obtain ⟨p0, p1, p2, p3, p4, p5⟩ := cz6 HXC.o;have q0 := cz6 HIC.o;have z0 := cz6 HRC.o;have fz0 := fz HRC.o;simp only [Zcc];go_wp2_with fail;have hd := Zau (F := F) (w := w) (R := w.heap.size + 1 + 1) (HS.o.later HLC.o) (by have := HBW.o; rintro ⟨_, h⟩; omega) (fun b hb => .inl hb.1) HFB.o HBW.o (Zbb.later (HL.o.trans HLC.o)) (by omega) [.int .i64 0, .int .i64 0, .int .i64 0, .string ⟨#[]⟩, .int .i64 0, .int .i64 0] 0;simp only [Zp, Nat.zero_add, Nat.reduceAdd] at hd;refine bodyPost_ret (v := .tuple #[.agg #[.int .i64 0, .int .i64 0, .int .i64 0, .string ⟨#[]⟩, .int .i64 0, .int .i64 0], .int .i64 (101)]) (by simp [results, Tryz.results79, go_sem, z0, fz0]) rfl (by show Zav F w B (Zbg r x i) _ _; rw [HQ.o]; exact ⟨rfl, hd.1, hd.2⟩)
  | some m =>
   have HM64 := zh (Zdt HIN.o.2.1 HMI.o);obtain ⟨k, hk⟩ : ∃ k, plc m (r.aA[j].aJ.length : Int) = k := ⟨_, rfl⟩;have hkb := Ze5 (i := m) (n := (r.aA[j].aJ.length : Int)) (by omega);rw [hk] at hkb;have HKK := zh hk;clear hk
   by_cases hk0 : k < 0
   ·have u0 : decide (k < 0) = true := decide_eq_true hk0;have hq : Zbg r x i = (r, vZ, -1) := by have K := HKV.o; unfold Zbg; rw [if_neg (by omega), if_pos (by omega), HMI.o]; simp only []; rw [HJ.o, Zck hjl, HKK.o, if_pos hk0]
    have HQ := zh hq;clear hq;go_wp2_with fail;refine (Zbm i _ F _ (Zb.keep (G := F) HI64.o (fun _ h => h) (Zc.later (HL.o.trans HLC.o))) (HT.o.below HLC.o)).mono ?_;rw [HMI.o];rintro e w7 ⟨rfl, hcl⟩;clear HXC HIC HRC p0 p1 p2 p3 p4 p5 q0 z0 fz0;replace HLC := zh (HLC.o.trans hcl);clear hcl;have HXC := zB HLC HXB;have HIC := zB HLC HIB;have HRC := zB HLC HRB;obtain ⟨p0, p1, p2, p3, p4, p5⟩ := cz6 HXC.o;have q0 := cz6 HIC.o;have z0 := cz6 HRC.o;have fz0 := fz HRC.o;simp only [Zcc];go_wp2_with fail;refine (Zc7 m _ _ HM64.o (by omega) (by omega)).mono ?_;rw [HKK.o];rintro e w8 ⟨rfl, rfl⟩;go_wp2_with fail;have hd := Zau (F := F) (w := w) (R := w.heap.size + 1 + 1) (HS.o.later HLC.o) (by have := HBW.o; rintro ⟨_, h⟩; omega) (fun b hb => .inl hb.1) HFB.o HBW.o (Zbb.later (HL.o.trans HLC.o)) (by omega) [.int .i64 0, .int .i64 0, .int .i64 0, .string ⟨#[]⟩, .int .i64 0, .int .i64 0] 0;simp only [Zp, Nat.zero_add, Nat.reduceAdd] at hd;refine bodyPost_ret (v := .tuple #[.agg #[.int .i64 0, .int .i64 0, .int .i64 0, .string ⟨#[]⟩, .int .i64 0, .int .i64 0], .int .i64 (-1)]) (by simp [results, Tryz.results79, go_sem, z0, fz0]) rfl (by show Zav F w B (Zbg r x i) _ _; rw [HQ.o]; exact ⟨rfl, hd.1, hd.2⟩)
   ·have u0 : decide (k < 0) = false := decide_eq_false hk0;obtain ⟨kn, rfl⟩ : ∃ kn : Nat, k = kn := ⟨k.toNat, by omega⟩;have hq : Zbg r x i = (r, ⟨15, (j : Int), (kn : Int), ⟨#[]⟩, ⟨0, 0⟩⟩, 0) := by have K := HKV.o; unfold Zbg; rw [if_neg (by omega), if_pos (by omega), HMI.o]; simp only []; rw [HJ.o, Zck hjl, HKK.o, if_neg hk0, if_pos K]
    have HQ := zh hq;clear hq;go_wp2_with fail;refine (Zbm i _ F _ (Zb.keep (G := F) HI64.o (fun _ h => h) (Zc.later (HL.o.trans HLC.o))) (HT.o.below HLC.o)).mono ?_;rw [HMI.o];rintro e w7 ⟨rfl, hcl⟩;clear HXC HIC HRC p0 p1 p2 p3 p4 p5 q0 z0 fz0;replace HLC := zh (HLC.o.trans hcl);clear hcl;have HXC := zB HLC HXB;have HIC := zB HLC HIB;have HRC := zB HLC HRB;obtain ⟨p0, p1, p2, p3, p4, p5⟩ := cz6 HXC.o;have q0 := cz6 HIC.o;have z0 := cz6 HRC.o;have fz0 := fz HRC.o;simp only [Zcc];go_wp2_with fail;refine (Zc7 m _ _ HM64.o (by omega) (by omega)).mono ?_;rw [HKK.o];rintro e w8 ⟨rfl, rfl⟩;rw [HJ.o] at p1;go_wp2_with fail;have hd := Zau (F := F) (w := w) (R := w.heap.size + 1 + 1) (HS.o.later HLC.o) (by have := HBW.o; rintro ⟨_, h⟩; omega) (fun b hb => .inl hb.1) HFB.o HBW.o (Zbb.later (HL.o.trans HLC.o)) (by omega) [.int .i64 15, .int .i64 (j : Int), .int .i64 (kn : Int), .string ⟨#[]⟩, .int .i64 0, .int .i64 0] 0;simp only [Zp, Nat.zero_add, Nat.reduceAdd] at hd;refine bodyPost_ret (v := .tuple #[.agg #[.int .i64 15, .int .i64 (j : Int), .int .i64 (kn : Int), .string ⟨#[]⟩, .int .i64 0, .int .i64 0], .int .i64 (0)]) (by simp [results, Tryz.results79, go_sem, z0, fz0]) rfl (by show Zav F w B (Zbg r x i) _ _; rw [HQ.o]; exact ⟨rfl, hd.1, hd.2⟩)
 by_cases K7 : x.kind = 7
 ·obtain ⟨j, hj, hjl⟩ := Zdu HDX.o (by rw [K7]; decide);have hjl2 : (j : Int) < (r.aA.length : Int) := by omega
  have HJ := zh hj;have t4 : (x.kind == 4) = false := nH.2 (by omega);have t7 : (x.kind == 7) = true := beq_iff_eq.2 K7;have hit := HIT.o j hjl;have HKV := zh K7;clear K7 hj;go_enter Tryz.func79, Tryz.ntmps79;go_upto_region 1 with (fail);rw [← hw3];clear hw3;have HXC := zB HLC HXB;have HIC := zB HLC HIB;have HRC := zB HLC HRB;obtain ⟨p0, p1, p2, p3, p4, p5⟩ := cz6 HXC.o;have q0 := cz6 HIC.o;have z0 := cz6 HRC.o;have fz0 := fz HRC.o;rw [HJ.o] at p1;go_upto_region 6 with (fail);refine Z6 (fun W hW => ?_);have hWL := (show Za _ W by rw [hW]; exact (Za.refl _).drew);clear hW;clear HXC HIC HRC p0 p1 p2 p3 p4 p5 q0 z0 fz0;replace HLC := zh (HLC.o.trans hWL);clear hWL;have HXC := zB HLC HXB;have HIC := zB HLC HIB;have HRC := zB HLC HRB;obtain ⟨p0, p1, p2, p3, p4, p5⟩ := cz6 HXC.o;have q0 := cz6 HIC.o;have z0 := cz6 HRC.o;have fz0 := fz HRC.o;rw [HJ.o] at p1;obtain ⟨Ao, co, b2, hco, hcmo, hro⟩ := (HS.o.later HLC.o).at_.aA;unfold maxLen at hcmo;obtain ⟨ob, oo, Aj, cj, Ajk, cjk, eo, hob, _, _, _, e3, _, hrj, _⟩ := Zai.obj hro hjl;cases eo;obtain ⟨Aj2, cj2, ej, hcj, hcmj, _⟩ := id hrj;cases ej;unfold maxLen at hcmj;have hBW := (HS.o.later HLC.o).lt;have hXW := Zd HXC.o;clear hro hrj
  repeat go_big_quiet_step (fail)
  refine wpQuiet_nil ?_;clear hBW hXW b2 e3 hob;obtain ⟨mi, hmi⟩ : ∃ q, Zey i = q := ⟨_, rfl⟩;have HMI := zh hmi;clear hmi
  cases mi with
  | none =>
   have hq : Zbg r x i = (r, vZ, 101) := by have K := HKV.o; unfold Zbg; rw [if_neg (by omega), if_pos (by omega), HMI.o]
   have HQ := zh hq;clear hq;go_wp2_with fail;refine (Zbm i _ F _ (Zb.keep (G := F) HI64.o (fun _ h => h) (Zc.later (HL.o.trans HLC.o))) (HT.o.below HLC.o)).mono ?_;rw [HMI.o];rintro e w7 ⟨rfl, hcl⟩;clear HXC HIC HRC p0 p1 p2 p3 p4 p5 q0 z0 fz0;replace HLC := zh (HLC.o.trans hcl);clear hcl;have HXC := zB HLC HXB;have HIC := zB HLC HIB;have HRC := zB HLC HRB;obtain ⟨p0, p1, p2, p3, p4, p5⟩ := cz6 HXC.o;have q0 := cz6 HIC.o;have z0 := cz6 HRC.o;have fz0 := fz HRC.o;simp only [Zcc];go_wp2_with fail;have hd := Zau (F := F) (w := w) (R := w.heap.size + 1 + 1) (HS.o.later HLC.o) (by have := HBW.o; rintro ⟨_, h⟩; omega) (fun b hb => .inl hb.1) HFB.o HBW.o (Zbb.later (HL.o.trans HLC.o)) (by omega) [.int .i64 0, .int .i64 0, .int .i64 0, .string ⟨#[]⟩, .int .i64 0, .int .i64 0] 0;simp only [Zp, Nat.zero_add, Nat.reduceAdd] at hd;refine bodyPost_ret (v := .tuple #[.agg #[.int .i64 0, .int .i64 0, .int .i64 0, .string ⟨#[]⟩, .int .i64 0, .int .i64 0], .int .i64 (101)]) (by simp [results, Tryz.results79, go_sem, z0, fz0]) rfl (by show Zav F w B (Zbg r x i) _ _; rw [HQ.o]; exact ⟨rfl, hd.1, hd.2⟩)
  | some m =>
   have HM64 := zh (Zdt HIN.o.2.1 HMI.o);obtain ⟨k, hk⟩ : ∃ k, plc m (r.aA[j].aJ.length : Int) = k := ⟨_, rfl⟩;have hkb := Ze5 (i := m) (n := (r.aA[j].aJ.length : Int)) (by omega);rw [hk] at hkb;have HKK := zh hk;clear hk
   by_cases hk0 : k < 0
   ·have u0 : decide (k < 0) = true := decide_eq_true hk0;have hq : Zbg r x i = (r, vZ, -1) := by have K := HKV.o; unfold Zbg; rw [if_neg (by omega), if_pos (by omega), HMI.o]; simp only []; rw [HJ.o, Zck hjl, HKK.o, if_pos hk0]
    have HQ := zh hq;clear hq;go_wp2_with fail;refine (Zbm i _ F _ (Zb.keep (G := F) HI64.o (fun _ h => h) (Zc.later (HL.o.trans HLC.o))) (HT.o.below HLC.o)).mono ?_;rw [HMI.o];rintro e w7 ⟨rfl, hcl⟩;clear HXC HIC HRC p0 p1 p2 p3 p4 p5 q0 z0 fz0;replace HLC := zh (HLC.o.trans hcl);clear hcl;have HXC := zB HLC HXB;have HIC := zB HLC HIB;have HRC := zB HLC HRB;obtain ⟨p0, p1, p2, p3, p4, p5⟩ := cz6 HXC.o;have q0 := cz6 HIC.o;have z0 := cz6 HRC.o;have fz0 := fz HRC.o;simp only [Zcc];go_wp2_with fail;refine (Zc7 m _ _ HM64.o (by omega) (by omega)).mono ?_;rw [HKK.o];rintro e w8 ⟨rfl, rfl⟩;go_wp2_with fail;have hd := Zau (F := F) (w := w) (R := w.heap.size + 1 + 1) (HS.o.later HLC.o) (by have := HBW.o; rintro ⟨_, h⟩; omega) (fun b hb => .inl hb.1) HFB.o HBW.o (Zbb.later (HL.o.trans HLC.o)) (by omega) [.int .i64 0, .int .i64 0, .int .i64 0, .string ⟨#[]⟩, .int .i64 0, .int .i64 0] 0;simp only [Zp, Nat.zero_add, Nat.reduceAdd] at hd;refine bodyPost_ret (v := .tuple #[.agg #[.int .i64 0, .int .i64 0, .int .i64 0, .string ⟨#[]⟩, .int .i64 0, .int .i64 0], .int .i64 (-1)]) (by simp [results, Tryz.results79, go_sem, z0, fz0]) rfl (by show Zav F w B (Zbg r x i) _ _; rw [HQ.o]; exact ⟨rfl, hd.1, hd.2⟩)
   ·have u0 : decide (k < 0) = false := decide_eq_false hk0;obtain ⟨kn, rfl⟩ : ∃ kn : Nat, k = kn := ⟨k.toNat, by omega⟩;have hq : Zbg r x i = (r, ⟨16, (j : Int), (kn : Int), ⟨#[]⟩, ⟨0, 0⟩⟩, 0) := by have K := HKV.o; unfold Zbg; rw [if_neg (by omega), if_pos (by omega), HMI.o]; simp only []; rw [HJ.o, Zck hjl, HKK.o, if_neg hk0, if_neg (by omega)]
    have HQ := zh hq;clear hq;go_wp2_with fail;refine (Zbm i _ F _ (Zb.keep (G := F) HI64.o (fun _ h => h) (Zc.later (HL.o.trans HLC.o))) (HT.o.below HLC.o)).mono ?_;rw [HMI.o];rintro e w7 ⟨rfl, hcl⟩;clear HXC HIC HRC p0 p1 p2 p3 p4 p5 q0 z0 fz0;replace HLC := zh (HLC.o.trans hcl);clear hcl;have HXC := zB HLC HXB;have HIC := zB HLC HIB;have HRC := zB HLC HRB;obtain ⟨p0, p1, p2, p3, p4, p5⟩ := cz6 HXC.o;have q0 := cz6 HIC.o;have z0 := cz6 HRC.o;have fz0 := fz HRC.o;simp only [Zcc];go_wp2_with fail;refine (Zc7 m _ _ HM64.o (by omega) (by omega)).mono ?_;rw [HKK.o];rintro e w8 ⟨rfl, rfl⟩;rw [HJ.o] at p1;go_wp2_with fail;have hd := Zau (F := F) (w := w) (R := w.heap.size + 1 + 1) (HS.o.later HLC.o) (by have := HBW.o; rintro ⟨_, h⟩; omega) (fun b hb => .inl hb.1) HFB.o HBW.o (Zbb.later (HL.o.trans HLC.o)) (by omega) [.int .i64 16, .int .i64 (j : Int), .int .i64 (kn : Int), .string ⟨#[]⟩, .int .i64 0, .int .i64 0] 0;simp only [Zp, Nat.zero_add, Nat.reduceAdd] at hd;refine bodyPost_ret (v := .tuple #[.agg #[.int .i64 16, .int .i64 (j : Int), .int .i64 (kn : Int), .string ⟨#[]⟩, .int .i64 0, .int .i64 0], .int .i64 (0)]) (by simp [results, Tryz.results79, go_sem, z0, fz0]) rfl (by show Zav F w B (Zbg r x i) _ _; rw [HQ.o]; exact ⟨rfl, hd.1, hd.2⟩)
 have t4 : (x.kind == 4) = false := nH.2 K4;have t7 : (x.kind == 7) = false := nH.2 K7;obtain ⟨xt, hxt⟩ : ∃ q, Zeq x = q := ⟨_, rfl⟩;have HXT := zh hxt;clear hxt
 cases xt with
 | none =>
  have hq : Zbg r x i = (r, vZ, 114) := by unfold Zbg; rw [if_neg k5, if_neg (by omega), HXT.o]
  have HQ := zh hq;clear hq;go_enter Tryz.func79, Tryz.ntmps79;go_upto_region 1 with (fail);rw [← hw3];clear hw3;have HXC := zB HLC HXB;have HIC := zB HLC HIB;have HRC := zB HLC HRB;obtain ⟨p0, p1, p2, p3, p4, p5⟩ := cz6 HXC.o;have q0 := cz6 HIC.o;have z0 := cz6 HRC.o;have fz0 := fz HRC.o;go_wp2_with fail;refine (Zfb x _ F _ (Zb.keep (G := F) HX64.o (fun _ h => h) (Zc.later (HL.o.trans HLC.o))) (HT.o.below HLC.o)).mono ?_;rw [HXT.o];rintro e w6 ⟨rfl, hcl⟩;clear HXC HIC HRC p0 p1 p2 p3 p4 p5 q0 z0 fz0;replace HLC := zh (HLC.o.trans hcl);clear hcl;have HXC := zB HLC HXB;have HIC := zB HLC HIB;have HRC := zB HLC HRB;obtain ⟨p0, p1, p2, p3, p4, p5⟩ := cz6 HXC.o;have q0 := cz6 HIC.o;have z0 := cz6 HRC.o;have fz0 := fz HRC.o;simp only [Zex];go_wp2_with fail;have hd := Zau (F := F) (w := w) (R := w.heap.size + 1 + 1) (HS.o.later HLC.o) (by have := HBW.o; rintro ⟨_, h⟩; omega) (fun b hb => .inl hb.1) HFB.o HBW.o (Zbb.later (HL.o.trans HLC.o)) (by omega) [.int .i64 0, .int .i64 0, .int .i64 0, .string ⟨#[]⟩, .int .i64 0, .int .i64 0] 0;simp only [Zp, Nat.zero_add, Nat.reduceAdd] at hd;refine bodyPost_ret (v := .tuple #[.agg #[.int .i64 0, .int .i64 0, .int .i64 0, .string ⟨#[]⟩, .int .i64 0, .int .i64 0], .int .i64 (114)]) (by simp [results, Tryz.results79, go_sem, z0, fz0]) rfl (by show Zav F w B (Zbg r x i) _ _; rw [HQ.o]; exact ⟨rfl, hd.1, hd.2⟩)
 | some t =>
  have hts := Zjb HDX.o HIN.o.1 HXT.o;go_enter Tryz.func79, Tryz.ntmps79;go_upto_region 1 with (fail);rw [← hw3];clear hw3;have HXC := zB HLC HXB;have HIC := zB HLC HIB;have HRC := zB HLC HRB;obtain ⟨p0, p1, p2, p3, p4, p5⟩ := cz6 HXC.o;have q0 := cz6 HIC.o;have z0 := cz6 HRC.o;have fz0 := fz HRC.o;go_wp2_with fail;refine (Zfb x _ F _ (Zb.keep (G := F) HX64.o (fun _ h => h) (Zc.later (HL.o.trans HLC.o))) (HT.o.below HLC.o)).mono ?_;rw [HXT.o];rintro e w6 ⟨rfl, hcl⟩;clear HXC HIC HRC p0 p1 p2 p3 p4 p5 q0 z0 fz0;replace HLC := zh (HLC.o.trans hcl);clear hcl;have HXC := zB HLC HXB;have HIC := zB HLC HIB;have HRC := zB HLC HRB;obtain ⟨p0, p1, p2, p3, p4, p5⟩ := cz6 HXC.o;have q0 := cz6 HIC.o;have z0 := cz6 HRC.o;have fz0 := fz HRC.o;simp only [Zex];obtain ⟨mi, hmi⟩ : ∃ q, Zey i = q := ⟨_, rfl⟩;have HMI := zh hmi;clear hmi
  cases mi with
  | none =>
   have hq : Zbg r x i = (r, vZ, 101) := by unfold Zbg; rw [if_neg k5, if_neg (by omega), HXT.o]; simp only []; rw [HMI.o]
   have HQ := zh hq;clear hq;go_wp2_with fail;refine (Zbm i _ F _ (Zb.keep (G := F) HI64.o (fun _ h => h) (Zc.later (HL.o.trans HLC.o))) (HT.o.below HLC.o)).mono ?_;rw [HMI.o];rintro e w7 ⟨rfl, hcl⟩;clear HXC HIC HRC p0 p1 p2 p3 p4 p5 q0 z0 fz0;replace HLC := zh (HLC.o.trans hcl);clear hcl;have HXC := zB HLC HXB;have HIC := zB HLC HIB;have HRC := zB HLC HRB;obtain ⟨p0, p1, p2, p3, p4, p5⟩ := cz6 HXC.o;have q0 := cz6 HIC.o;have z0 := cz6 HRC.o;have fz0 := fz HRC.o;simp only [Zcc];go_wp2_with fail;have hd := Zau (F := F) (w := w) (R := w.heap.size + 1 + 1) (HS.o.later HLC.o) (by have := HBW.o; rintro ⟨_, h⟩; omega) (fun b hb => .inl hb.1) HFB.o HBW.o (Zbb.later (HL.o.trans HLC.o)) (by omega) [.int .i64 0, .int .i64 0, .int .i64 0, .string ⟨#[]⟩, .int .i64 0, .int .i64 0] 0;simp only [Zp, Nat.zero_add, Nat.reduceAdd] at hd;refine bodyPost_ret (v := .tuple #[.agg #[.int .i64 0, .int .i64 0, .int .i64 0, .string ⟨#[]⟩, .int .i64 0, .int .i64 0], .int .i64 (101)]) (by simp [results, Tryz.results79, go_sem, z0, fz0]) rfl (by show Zav F w B (Zbg r x i) _ _; rw [HQ.o]; exact ⟨rfl, hd.1, hd.2⟩)
  | some m =>
   have HM64 := zh (Zdt HIN.o.2.1 HMI.o);obtain ⟨k, hk⟩ : ∃ k, plc m (t.size : Int) = k := ⟨_, rfl⟩;have hkb := Ze5 (i := m) (n := (t.size : Int)) (by omega);rw [hk] at hkb;have HKK := zh hk;clear hk
   by_cases hk0 : k < 0
   ·have u0 : decide (k < 0) = true := decide_eq_true hk0;have hq : Zbg r x i = (r, vZ, -1) := by unfold Zbg; rw [if_neg k5, if_neg (by omega), HXT.o]; simp only []; rw [HMI.o]; simp only []; rw [HKK.o, if_pos hk0]
    have HQ := zh hq;clear hq;go_wp2_with fail;refine (Zbm i _ F _ (Zb.keep (G := F) HI64.o (fun _ h => h) (Zc.later (HL.o.trans HLC.o))) (HT.o.below HLC.o)).mono ?_;rw [HMI.o];rintro e w7 ⟨rfl, hcl⟩;clear HXC HIC HRC p0 p1 p2 p3 p4 p5 q0 z0 fz0;replace HLC := zh (HLC.o.trans hcl);clear hcl;have HXC := zB HLC HXB;have HIC := zB HLC HIB;have HRC := zB HLC HRB;obtain ⟨p0, p1, p2, p3, p4, p5⟩ := cz6 HXC.o;have q0 := cz6 HIC.o;have z0 := cz6 HRC.o;have fz0 := fz HRC.o;simp only [Zcc];go_wp2_with fail;refine (Zc7 m _ _ HM64.o (by omega) (by omega)).mono ?_;rw [HKK.o];rintro e w8 ⟨rfl, rfl⟩;go_wp2_with fail;have hd := Zau (F := F) (w := w) (R := w.heap.size + 1 + 1) (HS.o.later HLC.o) (by have := HBW.o; rintro ⟨_, h⟩; omega) (fun b hb => .inl hb.1) HFB.o HBW.o (Zbb.later (HL.o.trans HLC.o)) (by omega) [.int .i64 0, .int .i64 0, .int .i64 0, .string ⟨#[]⟩, .int .i64 0, .int .i64 0] 0;simp only [Zp, Nat.zero_add, Nat.reduceAdd] at hd;refine bodyPost_ret (v := .tuple #[.agg #[.int .i64 0, .int .i64 0, .int .i64 0, .string ⟨#[]⟩, .int .i64 0, .int .i64 0], .int .i64 (-1)]) (by simp [results, Tryz.results79, go_sem, z0, fz0]) rfl (by show Zav F w B (Zbg r x i) _ _; rw [HQ.o]; exact ⟨rfl, hd.1, hd.2⟩)
   ·have u0 : decide (k < 0) = false := decide_eq_false hk0;obtain ⟨kn, rfl⟩ : ∃ kn : Nat, k = kn := ⟨k.toNat, by omega⟩;have hq : Zbg r x i = (r, ⟨2, 0, 0, t.extract kn (kn + 1), ⟨0, 0⟩⟩, 0) := by unfold Zbg; rw [if_neg k5, if_neg (by omega), HXT.o]; simp only []; rw [HMI.o]; simp only []; rw [HKK.o, if_neg hk0]; rfl
    have HQ := zh hq;clear hq;go_wp2_with fail;refine (Zbm i _ F _ (Zb.keep (G := F) HI64.o (fun _ h => h) (Zc.later (HL.o.trans HLC.o))) (HT.o.below HLC.o)).mono ?_;rw [HMI.o];rintro e w7 ⟨rfl, hcl⟩;clear HXC HIC HRC p0 p1 p2 p3 p4 p5 q0 z0 fz0;replace HLC := zh (HLC.o.trans hcl);clear hcl;have HXC := zB HLC HXB;have HIC := zB HLC HIB;have HRC := zB HLC HRB;obtain ⟨p0, p1, p2, p3, p4, p5⟩ := cz6 HXC.o;have q0 := cz6 HIC.o;have z0 := cz6 HRC.o;have fz0 := fz HRC.o;simp only [Zcc];go_wp2_with fail;refine (Zc7 m _ _ HM64.o (by omega) (by omega)).mono ?_;rw [HKK.o];rintro e w8 ⟨rfl, rfl⟩;go_wp2_with fail;have hd := Zau (F := F) (w := w) (R := w.heap.size + 1 + 1) (HS.o.later HLC.o) (by have := HBW.o; rintro ⟨_, h⟩; omega) (fun b hb => .inl hb.1) HFB.o HBW.o (Zbb.later (HL.o.trans HLC.o)) (by omega) [.int .i64 2, .int .i64 0, .int .i64 0, .string (t.extract kn (kn + 1)), .int .i64 0, .int .i64 0] 0;simp only [Zp, Nat.zero_add, Nat.reduceAdd] at hd;refine bodyPost_ret (v := .tuple #[.agg #[.int .i64 2, .int .i64 0, .int .i64 0, .string (t.extract kn (kn + 1)), .int .i64 0, .int .i64 0], .int .i64 (0)]) (by simp [results, Tryz.results79, go_sem, z0, fz0]) rfl (by show Zav F w B (Zbg r x i) _ _; rw [HQ.o]; exact ⟨rfl, hd.1, hd.2⟩)
theorem Zgw (r : Zh) (cs : List Value) (F : Nat → Prop) (w : World) (hsz : Zad r ≤ 1048576) (h : Zb6 F w r cs) :
  Calls Tryz.prog 42 #[.agg cs.toArray] w fun e w' => ∃ cs', e = .returned (.agg cs'.toArray) ∧ Zcz (fun b => w.heap.size ≤ b) w' r cs' ∧ Below w.heap.size w w' := by
 obtain ⟨iStringS, hiStringS, hzStringS0, hzStringS1, hzStringS2⟩ := info_parts Zeo;obtain ⟨iValueS, hiValueS, hzValueS0, hzValueS1, hzValueS2⟩ := info_parts Zf7;obtain ⟨iActiveS, hiActiveS, hzActiveS0, hzActiveS1, hzActiveS2⟩ := info_parts Zgr;obtain ⟨iObjectS, hiObjectS, hzObjectS0, hzObjectS1, hzObjectS2⟩ := info_parts Zep;obtain ⟨aL, aM, aN, aO, aP, aQ, aR, rfl, aV, aW, aX, aY, aZ, bA, bB, bC, bD, bE, bF, bG⟩ := h;have HSZ := zh (show Zk ByteArray.size r.names + (Zk Zo r.aB + (Zk Zr r.aA + (Zk Zs r.globals + (r.aC.size + (Zk ByteArray.size r.output + (Zk ByteArray.size r.trace + (Zk (fun _ => 0) r.aE))))))) ≤ 1048576 from hsz);clear hsz;have hmnames : r.names.length ≤ 1048576 := by have := HSZ.o; have h1 : Zk ByteArray.size r.names = r.names.length + _ := rfl; omega
 have hmrecords : r.aB.length ≤ 1048576 := by have := HSZ.o; have h1 : Zk Zo r.aB = r.aB.length + _ := rfl; omega
 have hmobjects : r.aA.length ≤ 1048576 := by have := HSZ.o; have h1 : Zk Zr r.aA = r.aA.length + _ := rfl; omega
 have hmglobals : r.globals.length ≤ 1048576 := by have := HSZ.o; have h1 : Zk Zs r.globals = r.globals.length + _ := rfl; omega
 have hmoutput : r.output.length ≤ 1048576 := by have := HSZ.o; have h1 : Zk ByteArray.size r.output = r.output.length + _ := rfl; omega
 have hmtrace : r.trace.length ≤ 1048576 := by have := HSZ.o; have h1 : Zk ByteArray.size r.trace = r.trace.length + _ := rfl; omega
 have hmactives : r.aE.length ≤ 1048576 := by have := HSZ.o; have h1 : Zk (fun _ => 0) r.aE = r.aE.length + _ := rfl; omega
 have HSO : Hd (∀ j (h : j < r.aA.length), r.aA[j].aJ.length ≤ 1048576 ∧ r.aA[j].aK.length ≤ 1048576) := zh (fun j h => by
  have := HSZ.o;have h1 : Zk Zr r.aA = r.aA.length + Zaq Zr r.aA := rfl;have h2 := Zb4 Zr r.aA _ (List.getElem_mem h);have h3 : Zr r.aA[j] = (r.aA[j].aJ.length + Zaq Zs r.aA[j].aJ) + (r.aA[j].aK.length + Zaq Zs r.aA[j].aK) := rfl
  omega)
 obtain ⟨Anames, cnames, rfl, _⟩ := id aV;have Hnames := zh aV;clear aV;obtain ⟨Arecords, crecords, rfl, _⟩ := id aW;have Hrecords := zh aW;clear aW;obtain ⟨Aobjects, cobjects, rfl, _⟩ := id aX;have Hobjects := zh aX;clear aX;obtain ⟨Aglobals, cglobals, rfl, _⟩ := id aY;have Hglobals := zh aY;clear aY;have Hsubject := zh aZ;clear aZ;have Hposition := zh bA;clear bA;obtain ⟨Aoutput, coutput, rfl, _⟩ := id bB;have Houtput := zh bB;clear bB;obtain ⟨Atrace, ctrace, rfl, _⟩ := id bC;have Htrace := zh bC;clear bC;obtain ⟨Aactives, cactives, rfl, _⟩ := id bD;have Hactives := zh bD;clear bD;have Hticks := zh bE;clear bE;have Hbudget := zh bF;clear bF;have Hmade := zh bG;clear bG;have HEL : Hd (∀ i (h : i < r.aA.length), ∃ b o cs, Aobjects = some ⟨b, o, none⟩ ∧ F b ∧ b < w.heap.size ∧ Zbq F w r.aA[i] cs ∧ ∀ j x, cs[j]? = some x → w.cell? ⟨b, o + i * 5 + j, none⟩ = some x) := zh (by
  obtain ⟨A', c', e, _, _, hel⟩ := Hobjects.o;cases e;exact hel)
 have hoc : r.aA.length ≤ cobjects := by
  obtain ⟨A', c', e, h1, _, _⟩ := Hobjects.o;cases e;exact h1
 have HP := zh (((Za.refl _).alloc (.cells #[.slice none 0 0, .slice none 0 0, .slice none 0 0, .slice none 0 0, .string ⟨#[]⟩, .int .i64 0, .slice none 0 0, .slice none 0 0, .slice none 0 0, .bool false, .int .i64 0, .int .i64 0, .int .i64 0] 30)).alloc (.cells #[.slice Anames r.names.length cnames, .slice Arecords r.aB.length crecords, .slice Aobjects r.aA.length cobjects, .slice Aglobals r.globals.length cglobals, .string r.aC, .int .i64 r.aD, .slice Aoutput r.output.length coutput, .slice Atrace r.trace.length ctrace, .slice Aactives r.aE.length cactives, .bool r.aF, .int .i64 r.ticks, .int .i64 r.aG, .int .i64 r.made] 30) |>.block _ (by simp) |>.trans (heap_alloc_new w (.cells #[.slice Anames r.names.length cnames, .slice Arecords r.aB.length crecords, .slice Aobjects r.aA.length cobjects, .slice Aglobals r.globals.length cglobals, .string r.aC, .int .i64 r.aD, .slice Aoutput r.output.length coutput, .slice Atrace r.trace.length ctrace, .slice Aactives r.aE.length cactives, .bool r.aF, .int .i64 r.ticks, .int .i64 r.aG, .int .i64 r.made] 30)));have HZ := zh ((Za.refl _).alloc (.cells #[.slice Anames r.names.length cnames, .slice Arecords r.aB.length crecords, .slice Aobjects r.aA.length cobjects, .slice Aglobals r.globals.length cglobals, .string r.aC, .int .i64 r.aD, .slice Aoutput r.output.length coutput, .slice Atrace r.trace.length ctrace, .slice Aactives r.aE.length cactives, .bool r.aF, .int .i64 r.ticks, .int .i64 r.aG, .int .i64 r.made] 30) |>.block _ (by simp) |>.trans (heap_alloc_new (w.alloc (.cells #[.slice Anames r.names.length cnames, .slice Arecords r.aB.length crecords, .slice Aobjects r.aA.length cobjects, .slice Aglobals r.globals.length cglobals, .string r.aC, .int .i64 r.aD, .slice Aoutput r.output.length coutput, .slice Atrace r.trace.length ctrace, .slice Aactives r.aE.length cactives, .bool r.aF, .int .i64 r.ticks, .int .i64 r.aG, .int .i64 r.made] 30)) (.cells #[.slice none 0 0, .slice none 0 0, .slice none 0 0, .slice none 0 0, .string ⟨#[]⟩, .int .i64 0, .slice none 0 0, .slice none 0 0, .slice none 0 0, .bool false, .int .i64 0, .int .i64 0, .int .i64 0] 30)))
 have HO := zh (heap_alloc_new ((w.alloc (.cells #[.slice Anames r.names.length cnames, .slice Arecords r.aB.length crecords, .slice Aobjects r.aA.length cobjects, .slice Aglobals r.globals.length cglobals, .string r.aC, .int .i64 r.aD, .slice Aoutput r.output.length coutput, .slice Atrace r.trace.length ctrace, .slice Aactives r.aE.length cactives, .bool r.aF, .int .i64 r.ticks, .int .i64 r.aG, .int .i64 r.made] 30)).alloc (.cells #[.slice none 0 0, .slice none 0 0, .slice none 0 0, .slice none 0 0, .string ⟨#[]⟩, .int .i64 0, .slice none 0 0, .slice none 0 0, .slice none 0 0, .bool false, .int .i64 0, .int .i64 0, .int .i64 0] 30)) (.cells #[.slice Anames r.names.length cnames, .slice Arecords r.aB.length crecords, .slice Aobjects r.aA.length cobjects, .slice Aglobals r.globals.length cglobals, .string r.aC, .int .i64 r.aD, .slice Aoutput r.output.length coutput, .slice Atrace r.trace.length ctrace, .slice Aactives r.aE.length cactives, .bool r.aF, .int .i64 r.ticks, .int .i64 r.aG, .int .i64 r.made] 30));simp only [Zbj] at HZ HO;have HB := zh ((((Below.refl w.heap.size w).alloc (Nat.le_refl _) (.cells #[.slice Anames r.names.length cnames, .slice Arecords r.aB.length crecords, .slice Aobjects r.aA.length cobjects, .slice Aglobals r.globals.length cglobals, .string r.aC, .int .i64 r.aD, .slice Aoutput r.output.length coutput, .slice Atrace r.trace.length ctrace, .slice Aactives r.aE.length cactives, .bool r.aF, .int .i64 r.ticks, .int .i64 r.aG, .int .i64 r.made] 30)).alloc (by simp) (.cells #[.slice none 0 0, .slice none 0 0, .slice none 0 0, .slice none 0 0, .string ⟨#[]⟩, .int .i64 0, .slice none 0 0, .slice none 0 0, .slice none 0 0, .bool false, .int .i64 0, .int .i64 0, .int .i64 0] 30)).alloc (by simp; omega) (.cells #[.slice Anames r.names.length cnames, .slice Arecords r.aB.length crecords, .slice Aobjects r.aA.length cobjects, .slice Aglobals r.globals.length cglobals, .string r.aC, .int .i64 r.aD, .slice Aoutput r.output.length coutput, .slice Atrace r.trace.length ctrace, .slice Aactives r.aE.length cactives, .bool r.aF, .int .i64 r.ticks, .int .i64 r.aG, .int .i64 r.made] 30))
 have hne1 : ¬ w.heap.size = w.heap.size + 2 := by omega
 have hne2 : ¬ w.heap.size + 1 = w.heap.size + 2 := by omega
 have hne3 : ¬ w.heap.size + 2 = w.heap.size + 1 := by omega
 have hne4 : ¬ w.heap.size = w.heap.size + 1 := by omega
 go_enter Tryz.func42, Tryz.ntmps42;go_upto_region 2 with (fail);obtain ⟨x, hx⟩ : ∃ x, x = (((w.alloc (.cells #[.slice Anames r.names.length cnames, .slice Arecords r.aB.length crecords, .slice Aobjects r.aA.length cobjects, .slice Aglobals r.globals.length cglobals, .string r.aC, .int .i64 r.aD, .slice Aoutput r.output.length coutput, .slice Atrace r.trace.length ctrace, .slice Aactives r.aE.length cactives, .bool r.aF, .int .i64 r.ticks, .int .i64 r.aG, .int .i64 r.made] 30)).alloc (.cells #[.slice none 0 0, .slice none 0 0, .slice none 0 0, .slice none 0 0, .string ⟨#[]⟩, .int .i64 0, .slice none 0 0, .slice none 0 0, .slice none 0 0, .bool false, .int .i64 0, .int .i64 0, .int .i64 0] 30)).alloc (.cells #[.slice Anames r.names.length cnames, .slice Arecords r.aB.length crecords, .slice Aobjects r.aA.length cobjects, .slice Aglobals r.globals.length cglobals, .string r.aC, .int .i64 r.aD, .slice Aoutput r.output.length coutput, .slice Atrace r.trace.length ctrace, .slice Aactives r.aE.length cactives, .bool r.aF, .int .i64 r.ticks, .int .i64 r.aG, .int .i64 r.made] 30)) := ⟨_, rfl⟩;rw [← hx] at HP HZ HO HB ⊢;clear hx;have HN : Hd (w.heap.size + 3 ≤ x.heap.size) := zh (Zd HO.o);have p0 := cq HP.o 0;have o0 := cq HO.o 0;have fo0 := fz HO.o;simp only [nD, nE, nF] at p0 o0;have pa0 := (((Za.refl x).alloc (.cells #[] 9)).cell ⟨w.heap.size, 0, none⟩ (Zd HP.o)).trans p0;have HS := zh (Hnames.o.keep Z4 (fun _ h => h) (Zc.later (HB.o.trans (Below.mono ((Za.refl x).alloc (.cells #[] 9)) HB.o.size))))
 go_upto_region 3 with (at_builtin; refine Zao Zdf (by decide) rfl _ _ 24 rfl 9 iStringS (.string ⟨#[]⟩) 16 Tryz.underlying24 hiStringS hzStringS0 hzStringS1 hzStringS2 rfl rfl (Zy (by simp)) rfl HS.o (by omega) (by decide) ?_; intro v0 w0 hr0 hl0; obtain ⟨A0, c0, rfl, _⟩ := id hr0; have hlx := ((Za.refl x).alloc (.cells #[] 9)).trans hl0; have o0x := (hlx.cell _ (Zd HO.o)).trans o0; have fo0x := frozen_of_row _ (w.heap.size + 2) 0 _ _ ((hlx.block _ (Zd HO.o)).trans HO.o); clear o0 fo0)
 clear pa0 p0 HS o0x fo0x;have hlo0 := hlx.size;have hbs0 : x.heap.size + 1 ≤ w0.heap.size := by have := hl0.size; simpa using this
 have HR0 := zh ((hr0.trim Zg).keep Zg.is (G := fun b => w.heap.size + 3 ≤ b ∧ b < w0.heap.size) (fun b h => ⟨by have := h.1; have := HN.o; have : x.heap.size ≤ (x.alloc (.cells #[] 9)).heap.size := (by simp); have := hbs0; omega, h.2⟩) (Zc.refl _ _));have HM0 := zh (show w.heap.size + 3 ≤ w.heap.size + 3 ∧ w.heap.size + 3 ≤ w0.heap.size from ⟨by omega, by have := HN.o; have : x.heap.size ≤ (x.alloc (.cells #[] 9)).heap.size := (by simp); have := hbs0; omega⟩);replace HP := zC hlx HP;replace HZ := zC hlx HZ;replace HO := zC hlx HO;replace HB := zh (HB.o.trans (Below.mono hlx HB.o.size));replace HN : Hd (w0.heap.size ≤ w0.heap.size) := zh (Nat.le_refl _);clear hr0 hl0 hlx hlo0 hbs0;replace HO := zh (Zax (o := 0) HO.o (.slice A0 r.names.length c0));simp only [List.setIfInBounds_toArray, List.set_cons_zero, List.set_cons_succ] at HO;replace HP := zh ((Below.heap_setCell _ ⟨w.heap.size + 2, 0, none⟩ (.slice A0 r.names.length c0) _ hne1).trans HP.o);replace HZ := zh ((Below.heap_setCell _ ⟨w.heap.size + 2, 0, none⟩ (.slice A0 r.names.length c0) _ hne2).trans HZ.o);replace HB := zh (HB.o.setCell (p := ⟨w.heap.size + 2, 0, none⟩) (by simp) (.slice A0 r.names.length c0));replace HR0 := zh (HR0.o.keep Zg.is (fun _ h => h) ((Zc.refl _ _).set (B := w.heap.size + 2) (by have := HM0.o; omega) 0 (.slice A0 r.names.length c0)));replace HN := zh (show _ ≤ _ from Nat.le_trans HN.o ((Zc.refl (fun _ => False) _).set (B := w.heap.size + 2) (fun h => h) 0 (.slice A0 r.names.length c0)).size)
 obtain ⟨x1, hx⟩ : ∃ x, x = w0.setCell ⟨w.heap.size + 2, 0, none⟩ (.slice A0 r.names.length c0) := ⟨_, rfl⟩;rw [← hx] at HP HZ HO HB HN HR0 ⊢;clear hx;have p1 := cq HP.o 1;have o1 := cq HO.o 1;have fo1 := fz HO.o;simp only [nD, nE, nF] at p1 o1;go_wp2_with fail;refine (Zji r.aB _ F _ (by have := HSZ.o; omega) (Hrecords.o.keep Zak (fun _ h => h) (Zc.later HB.o))).mono ?_;rintro e w1 ⟨v1, rfl, hr1, hb1⟩;obtain ⟨A1, c1, rfl, _⟩ := id hr1;clear p1 o1 fo1;have hlo1 := Below.size hb1;have HR1 := zh ((hr1.trim Zf).keep Zf.is (G := fun b => w0.heap.size ≤ b ∧ b < w1.heap.size) (fun b h => ⟨by have := h.1; have := HN.o; have := hlo1; omega, h.2⟩) (Zc.refl _ _));have HM1 := zh (show w.heap.size + 3 ≤ w0.heap.size ∧ w0.heap.size ≤ w1.heap.size from ⟨by have := HM0.o; omega, by have := HN.o; have := hlo1; omega⟩);replace HP := zC hb1 HP;replace HZ := zC hb1 HZ;replace HO := zC hb1 HO;replace HB := zh (HB.o.trans (Below.mono hb1 HB.o.size));replace HR0 := zh (HR0.o.later Zg.is hb1);replace HN : Hd (w1.heap.size ≤ w1.heap.size) := zh (Nat.le_refl _);clear hr1 hb1 hlo1;have o1 := cq HO.o 1;have fo1 := fz HO.o;simp only [nD, nE, nF] at o1;go_upto_region 4 with (fail);clear o1 fo1;replace HO := zh (Zax (o := 1) HO.o (.slice A1 r.aB.length c1));simp only [List.setIfInBounds_toArray, List.set_cons_zero, List.set_cons_succ] at HO;replace HP := zh ((Below.heap_setCell _ ⟨w.heap.size + 2, 1, none⟩ (.slice A1 r.aB.length c1) _ hne1).trans HP.o)
 replace HZ := zh ((Below.heap_setCell _ ⟨w.heap.size + 2, 1, none⟩ (.slice A1 r.aB.length c1) _ hne2).trans HZ.o);replace HB := zh (HB.o.setCell (p := ⟨w.heap.size + 2, 1, none⟩) (by simp) (.slice A1 r.aB.length c1));replace HR0 := zh (HR0.o.keep Zg.is (fun _ h => h) ((Zc.refl _ _).set (B := w.heap.size + 2) (by have := HM0.o; omega) 1 (.slice A1 r.aB.length c1)));replace HR1 := zh (HR1.o.keep Zf.is (fun _ h => h) ((Zc.refl _ _).set (B := w.heap.size + 2) (by have := HM1.o; omega) 1 (.slice A1 r.aB.length c1)));replace HN := zh (show _ ≤ _ from Nat.le_trans HN.o ((Zc.refl (fun _ => False) _).set (B := w.heap.size + 2) (fun h => h) 1 (.slice A1 r.aB.length c1)).size);obtain ⟨x2, hx⟩ : ∃ x, x = w1.setCell ⟨w.heap.size + 2, 1, none⟩ (.slice A1 r.aB.length c1) := ⟨_, rfl⟩;rw [← hx] at HP HZ HO HB HN HR0 HR1 ⊢;clear hx;have p2 := cq HP.o 2;have o2 := cq HO.o 2;have fo2 := fz HO.o;simp only [nD, nE, nF] at p2 o2;go_upto_region 5 with (fail);clear p2 o2 fo2;replace HO := zh (Zax (o := 2) HO.o (.slice none 0 0));simp only [List.setIfInBounds_toArray, List.set_cons_zero, List.set_cons_succ] at HO;replace HP := zh ((Below.heap_setCell _ ⟨w.heap.size + 2, 2, none⟩ (.slice none 0 0) _ hne1).trans HP.o);replace HZ := zh ((Below.heap_setCell _ ⟨w.heap.size + 2, 2, none⟩ (.slice none 0 0) _ hne2).trans HZ.o);replace HB := zh (HB.o.setCell (p := ⟨w.heap.size + 2, 2, none⟩) (by simp) (.slice none 0 0));replace HR0 := zh (HR0.o.keep Zg.is (fun _ h => h) ((Zc.refl _ _).set (B := w.heap.size + 2) (by have := HM0.o; omega) 2 (.slice none 0 0)))
 replace HR1 := zh (HR1.o.keep Zf.is (fun _ h => h) ((Zc.refl _ _).set (B := w.heap.size + 2) (by have := HM1.o; omega) 2 (.slice none 0 0)));replace HN := zh (show _ ≤ _ from Nat.le_trans HN.o ((Zc.refl (fun _ => False) _).set (B := w.heap.size + 2) (fun h => h) 2 (.slice none 0 0)).size);obtain ⟨x3, hx⟩ : ∃ x, x = x2.setCell ⟨w.heap.size + 2, 2, none⟩ (.slice none 0 0) := ⟨_, rfl⟩;rw [← hx] at HP HZ HO HB HN HR0 HR1 ⊢;clear hx;obtain ⟨B0, hB0⟩ : ∃ B0, x3.heap.size = B0 := ⟨_, rfl⟩;have HB0 := zh (show B0 ≤ x3.heap.size by omega);have HBN := zh (show w1.heap.size ≤ B0 by have := HN.o; omega);have hB3 : w.heap.size + 3 ≤ B0 := by have := Zd HO.o; omega
 clear hB0;have HS0 : Hd (Zev Zbx 5 94 B0 [] (.slice none 0 0) x3) := zh (Zev.nil _);have p2 := cq HP.o 2;simp only [nD, nE, nF] at p2;go_wp2_with fail;clear p2
 go_loopw [20] (fun iv wr => ∃ (j : Nat) (vo : Value) (dl : List Zay), iv = .int .i64 j ∧ j ≤ r.aA.length ∧ Hd (dl = r.aA.take j) ∧ wr.heap[w.heap.size + 2]? = some (.cells #[.slice A0 r.names.length c0, .slice A1 r.aB.length c1, vo, .slice Aglobals r.globals.length cglobals, .string r.aC, .int .i64 r.aD, .slice Aoutput r.output.length coutput, .slice Atrace r.trace.length ctrace, .slice Aactives r.aE.length cactives, .bool r.aF, .int .i64 r.ticks, .int .i64 r.aG, .int .i64 r.made] 30 (0, 0)) ∧ Zev Zbx 5 94 B0 dl vo wr ∧ Zc (fun y => y ≠ w.heap.size + 2 ∧ y < B0) x3 wr ∧ Below w.heap.size w wr) (fun iv _ => r.aA.length - (intOf iv).toNat)
 case atStart => exact ⟨0, _, [], rfl, Nat.zero_le _, zh (by simp), HO.o, HS0.o, Zc.refl _ _, HB.o⟩
 case round =>
  obtain ⟨j, vo, dl, rfl, hj, HDL, hO, hso, hkx, hbel⟩ := hrel;have HOr := zh hO;have HBr := zh hbel;have HKX := zh hkx;have HPr := zh ((hkx.same _ ⟨hne1, by omega⟩ (Zd HP.o)).trans HP.o);have pr2 := cq HPr.o 2;simp only [nD, nE, nF] at pr2
  by_cases hlt : j < r.aA.length
  ·have hlt' : (j : Int) < r.aA.length := by omega
   obtain ⟨xs, tg, hat⟩ := hso;have HAT := zh hat;obtain ⟨Ao, co, hvo⟩ := hat.form;subst hvo;have hdl : dl.length ≤ 1048576 := by rw [HDL.o, List.length_take]; omega
   have hwb : B0 ≤ wr.heap.size := by have := hkx.size; have := HB0.o; omega
   obtain ⟨b, o, cs, hA, hF, hbl, hE, hcell⟩ := HEL.o j hlt;subst hA;obtain ⟨vi, vk, rfl, hk0, hk1, hk2, hit, hky⟩ := hE;have HK0 := zh hk0;have HK1 := zh hk1;have HK2 := zh hk2;have HI := zh (hit.keep Zb (G := F) (fun _ h => h) (Zc.later HBr.o));have HY := zh (hky.keep Zb (G := F) (fun _ h => h) (Zc.later HBr.o));obtain ⟨hil, hyl⟩ := HSO.o j hlt;obtain ⟨Ai, ci, hvi, _⟩ := id hit;obtain ⟨Ak, ck, hvk, _⟩ := id hky;have e0 := (HBr.o.cell (p := ⟨b, o + j * 5 + 0, none⟩) hbl).trans (hcell 0 _ rfl);have e1 := (HBr.o.cell (p := ⟨b, o + j * 5 + 1, none⟩) hbl).trans (hcell 1 _ rfl);have e2 := (HBr.o.cell (p := ⟨b, o + j * 5 + 2, none⟩) hbl).trans (hcell 2 _ rfl);have e3 := (HBr.o.cell (p := ⟨b, o + j * 5 + 3, none⟩) hbl).trans (hcell 3 _ rfl);have e4 := (HBr.o.cell (p := ⟨b, o + j * 5 + 4, none⟩) hbl).trans (hcell 4 _ rfl);simp only [Nat.add_zero] at e0;subst hvi hvk;clear hat hbel hkx hO hk0 hk1 hk2 hit hky hcell;go_upto_region 8 with (fail);clear e0 e1 e2 e3 e4 pr2;have HMB := zh (heap_alloc_new wr (.cells #[.int .i64 r.aA[j].kind, .int .i64 r.aA[j].tag, .int .i64 r.aA[j].aI, .slice Ai r.aA[j].aJ.length ci, .slice Ak r.aA[j].aK.length ck] 94));have HL := zh ((Za.refl wr).alloc (.cells #[.int .i64 r.aA[j].kind, .int .i64 r.aA[j].tag, .int .i64 r.aA[j].aI, .slice Ai r.aA[j].aJ.length ci, .slice Ak r.aA[j].aK.length ck] 94));obtain ⟨y, hy⟩ : ∃ y, y = wr.alloc (.cells #[.int .i64 r.aA[j].kind, .int .i64 r.aA[j].tag, .int .i64 r.aA[j].aI, .slice Ai r.aA[j].aJ.length ci, .slice Ak r.aA[j].aK.length ck] 94) := ⟨_, rfl⟩
   rw [← hy] at HMB HL ⊢;clear hy;obtain ⟨M, hM⟩ : ∃ M, wr.heap.size = M := ⟨_, rfl⟩;rw [hM] at HMB ⊢;have hMB : B0 ≤ M := by omega
   have HYM := zh (show M < y.heap.size from Zd HMB.o);have hMy : M < y.heap.size := Zd HMB.o;have m3 := cq HMB.o 3;have fm3 := fz HMB.o;simp only [nD, nE, nF] at m3;have ma3 := (((Za.refl y).alloc (.cells #[] 34)).cell ⟨M, 3, none⟩ hMy).trans m3;have HS := zh (HI.o.later Zb (HL.o.trans ((Za.refl y).alloc (.cells #[] 34))))
   go_upto_region 9 with (at_builtin; refine Zao Ze1 (by decide) rfl _ _ 27 rfl 34 iValueS (.agg #[.int .i64 0, .int .i64 0, .int .i64 0, .string ⟨#[]⟩, .int .i64 0, .int .i64 0]) 56 Tryz.underlying27 hiValueS hzValueS0 hzValueS1 hzValueS2 rfl rfl (Zy (by simp)) rfl HS.o (by omega) (by decide) ?_; intro v8 w8 hr8 hl8; obtain ⟨A8, c8, rfl, _⟩ := id hr8; have hlx := ((Za.refl y).alloc (.cells #[] 34)).trans hl8; have mx3 := (hlx.cell _ hMy).trans m3; have fmx3 := frozen_of_row _ M 3 _ _ ((hlx.block _ hMy).trans HMB.o); clear m3 fm3)
   clear ma3 HS mx3 fmx3;have hys : y.heap.size ≤ (y.alloc (.cells #[] 34)).heap.size := by simp
   have HR80 := zh ((hr8.trim Zn).keep Zn.is (G := fun b => M + 1 ≤ b ∧ b < w8.heap.size) (fun b h => ⟨by have := h.1; omega, h.2⟩) (Zc.refl _ _));have HZ8 := zh (show y.heap.size ≤ w8.heap.size from hlx.size);replace HMB := zh (Zax (o := 3) ((hlx.block _ hMy).trans HMB.o) (.slice A8 r.aA[j].aJ.length c8));simp only [List.setIfInBounds_toArray, List.set_cons_zero, List.set_cons_succ] at HMB;replace HL := zh (show Za wr _ from (show Below wr.heap.size wr _ from HL.o.trans hlx).setCell (p := ⟨M, 3, none⟩) (show wr.heap.size ≤ M by omega) (.slice A8 r.aA[j].aJ.length c8));have HR8 := zh (HR80.o.keep Zn.is (fun _ h => h) ((Zc.refl _ _).set (B := M) (by omega) 3 (.slice A8 r.aA[j].aJ.length c8)));have hsz8 := ((Zc.refl (fun _ => False) w8).set (B := M) (fun h => h) 3 (.slice A8 r.aA[j].aJ.length c8)).size;obtain ⟨y3, hy⟩ : ∃ y, y = w8.setCell ⟨M, 3, none⟩ (.slice A8 r.aA[j].aJ.length c8) := ⟨_, rfl⟩;rw [← hy] at HMB HL HR8 hsz8 ⊢;clear hy hr8 hl8 hlx hys HR80 hMy;have HY2 := zh (show w8.heap.size ≤ y3.heap.size from hsz8);have HY3 := zh (show M < w8.heap.size from Nat.lt_of_lt_of_le (show M < y.heap.size by have := HYM.o; omega) HZ8.o);have hMy : M < y3.heap.size := Zd HMB.o;have m4 := cq HMB.o 4;have fm4 := fz HMB.o;simp only [nD, nE, nF] at m4;have ma4 := (((Za.refl y3).alloc (.cells #[] 34)).cell ⟨M, 4, none⟩ hMy).trans m4;have HS := zh (HY.o.later Zb (HL.o.trans ((Za.refl y3).alloc (.cells #[] 34))))
   go_upto_region 10 with (at_builtin; refine Zao Ze1 (by decide) rfl _ _ 27 rfl 34 iValueS (.agg #[.int .i64 0, .int .i64 0, .int .i64 0, .string ⟨#[]⟩, .int .i64 0, .int .i64 0]) 56 Tryz.underlying27 hiValueS hzValueS0 hzValueS1 hzValueS2 rfl rfl (Zy (by simp)) rfl HS.o (by omega) (by decide) ?_; intro v9 w9 hr9 hl9; obtain ⟨A9, c9, rfl, _⟩ := id hr9; have hlx := ((Za.refl y3).alloc (.cells #[] 34)).trans hl9; have mx4 := (hlx.cell _ hMy).trans m4; have fmx4 := frozen_of_row _ M 4 _ _ ((hlx.block _ hMy).trans HMB.o); clear m4 fm4)
   clear ma4 HS mx4 fmx4;have hys : y3.heap.size ≤ (y3.alloc (.cells #[] 34)).heap.size := by simp
   have HR90 := zh ((hr9.trim Zn).keep Zn.is (G := fun b => w8.heap.size ≤ b ∧ b < w9.heap.size) (fun b h => ⟨by have := h.1; have := HY2.o; omega, h.2⟩) (Zc.refl _ _));have HZ9 := zh (show y3.heap.size ≤ w9.heap.size from hlx.size);replace HMB := zh (Zax (o := 4) ((hlx.block _ hMy).trans HMB.o) (.slice A9 r.aA[j].aK.length c9));simp only [List.setIfInBounds_toArray, List.set_cons_zero, List.set_cons_succ] at HMB;replace HL := zh (show Za wr _ from (show Below wr.heap.size wr _ from HL.o.trans hlx).setCell (p := ⟨M, 4, none⟩) (show wr.heap.size ≤ M by omega) (.slice A9 r.aA[j].aK.length c9));have HR9 := zh (HR90.o.keep Zn.is (fun _ h => h) ((Zc.refl _ _).set (B := M) (by have := HY3.o; omega) 4 (.slice A9 r.aA[j].aK.length c9)));replace HR8 := zh ((HR8.o.later Zn.is hlx).keep Zn.is (fun _ h => h) ((Zc.refl _ _).set (B := M) (by omega) 4 (.slice A9 r.aA[j].aK.length c9)));have hsz9 := ((Zc.refl (fun _ => False) w9).set (B := M) (fun h => h) 4 (.slice A9 r.aA[j].aK.length c9)).size;obtain ⟨y4, hy⟩ : ∃ y, y = w9.setCell ⟨M, 4, none⟩ (.slice A9 r.aA[j].aK.length c9) := ⟨_, rfl⟩;rw [← hy] at HMB HL HR9 HR8 hsz9 ⊢;clear hy hr9 hl9 hlx hys HR90 hMy;have oo2 := (HL.o.cell ⟨w.heap.size + 2, 2, none⟩ (Zd HOr.o)).trans (cell_of_row _ (w.heap.size + 2) 2 _ _ _ HOr.o);simp only [nD, nE, nF] at oo2;obtain ⟨m0, m1, m2, m3, m4⟩ := cz5 HMB.o;have HL5 := zh (HL.o.trans ((Za.refl y4).alloc (.cells #[.int .i64 r.aA[j].kind, .int .i64 r.aA[j].tag, .int .i64 r.aA[j].aI, .slice A8 r.aA[j].aJ.length c8, .slice A9 r.aA[j].aK.length c9] 94)))
   go_upto_region 11 with (at_builtin; refine Zdc _ rfl _ _ 26 rfl B0 94 iObjectS (.agg #[.int .i64 0, .int .i64 0, .int .i64 0, .slice none 0 0, .slice none 0 0]) 5 72 Tryz.underlying26 hiObjectS hzObjectS0 hzObjectS1 hzObjectS2 rfl _ dl.length xs rfl (HAT.o.keep Zq.is (Zc.later HL5.o)).row ⟨y4.heap.size, 0, none⟩ 1 1 [.int .i64 r.aA[j].kind, .int .i64 r.aA[j].tag, .int .i64 r.aA[j].aI, .slice A8 r.aA[j].aJ.length c8, .slice A9 r.aA[j].aK.length c9] rfl rfl (Zg6 _ _ _) (by simp [Value.oneCell']) (by decide) (by unfold maxLen; omega) (by omega) (by have := HL5.o.size; omega) ?_; intro v10 w10 hown hg hn; obtain ⟨A10, c10, hv10, _, _⟩ := hown.form; subst hv10; have hO10 := (hg.block _ (Nat.lt_of_lt_of_le (Zd HOr.o) HL5.o.size) (fun e => by have := (HAT.o.row.lt _ e.symm).1; omega)).trans ((HL5.o.block _ (Zd HOr.o)).trans HOr.o); have ox2 := cell_of_row _ (w.heap.size + 2) 2 _ _ _ hO10; have fox2 := frozen_of_row _ (w.heap.size + 2) 2 _ _ hO10; simp only [nD, nE, nF] at ox2; clear oo2 m0 m1 m2 m3 m4)
   clear ox2 fox2;have HE := zh (show Zbx (fun y => wr.heap.size ≤ y) (y4.alloc (.cells #[.int .i64 r.aA[j].kind, .int .i64 r.aA[j].tag, .int .i64 r.aA[j].aI, .slice A8 r.aA[j].aJ.length c8, .slice A9 r.aA[j].aK.length c9] 94)) r.aA[j] [.int .i64 r.aA[j].kind, .int .i64 r.aA[j].tag, .int .i64 r.aA[j].aI, .slice A8 r.aA[j].aJ.length c8, .slice A9 r.aA[j].aK.length c9] from ⟨fun b => if b < w8.heap.size then 0 else 1, _, _, rfl, HK0.o, HK1.o, HK2.o, (HR8.o.later Zn.is ((Za.refl y4).alloc (.cells #[.int .i64 r.aA[j].kind, .int .i64 r.aA[j].tag, .int .i64 r.aA[j].aI, .slice A8 r.aA[j].aJ.length c8, .slice A9 r.aA[j].aK.length c9] 94))).keep Zn.is (fun b h => ⟨by omega, by show (if b < w8.heap.size then 0 else 1) = 0; rw [if_pos h.2]⟩) (Zc.refl _ _), (HR9.o.later Zn.is ((Za.refl y4).alloc (.cells #[.int .i64 r.aA[j].kind, .int .i64 r.aA[j].tag, .int .i64 r.aA[j].aI, .slice A8 r.aA[j].aJ.length c8, .slice A9 r.aA[j].aK.length c9] 94))).keep Zn.is (fun b h => ⟨by have := HY3.o; omega, by show (if b < w8.heap.size then 0 else 1) = 1; rw [if_neg (by omega)]⟩) (Zc.refl _ _)⟩);have HSO2 := zh ((HAT.o.push Zq (Zc.later HL5.o) hwb HE.o hown hg hn).keep Zq.is ((Zc.refl _ _).set (B := w.heap.size + 2) (by omega) 2 (.slice A10 (dl.length + 1) c10)));have HO2 := zh (Zax (o := 2) hO10 (.slice A10 (dl.length + 1) c10))
   simp only [List.setIfInBounds_toArray, List.set_cons_zero, List.set_cons_succ] at HO2;have HB6 := zh (((HBr.o.trans (Below.mono HL5.o HBr.o.size)).grown hg (by have := HL5.o.size; have := HBr.o.size; omega) (fun g hg' => by have := (HAT.o.row.lt g hg').1; omega)).setCell (p := ⟨w.heap.size + 2, 2, none⟩) (by simp) (.slice A10 (dl.length + 1) c10));have HK6 := zh (((HKX.o.trans (Zc.later HL5.o)).trans ⟨hg.size, fun k hk hlt => hg.block k hlt (fun e => by have := (HAT.o.row.lt k e.symm).1; have := hk.2; omega)⟩).set (B := w.heap.size + 2) (fun h => h.1 rfl) 2 (.slice A10 (dl.length + 1) c10));have HDL6 := zh (show dl ++ [r.aA[j]] = r.aA.take (j + 1) by rw [HDL.o, List.take_succ_eq_append_getElem hlt]);clear hown hg hn hO10;go_wp2_with fail
   go_roundw
   case rel => exact ⟨j + 1, _, _, by go_num, by omega, HDL6, HO2.o, HSO2.o, HK6.o, HB6.o⟩
   case measure => simp [intOf]; omega
  ·have hjl : j = r.aA.length := by omega
   have hdl : dl = r.aA := by rw [HDL.o, hjl, List.take_length]
   subst hdl;have hr2 := hso.row Zq;obtain ⟨A2, c2, rfl, _⟩ := id hr2;have hkxs := hkx.size;have HR2 := zh ((hr2.trim Zq).keep Zq.is (G := fun b => w1.heap.size ≤ b ∧ b < wr.heap.size) (fun b h => ⟨by have := h.1; have := HBN.o; omega, h.2⟩) (Zc.refl _ _));have HM2 := zh (show w.heap.size + 3 ≤ w1.heap.size ∧ w1.heap.size ≤ wr.heap.size from ⟨by have := HM1.o; omega, by have := HBN.o; have := HB0.o; omega⟩);replace HP := HPr;replace HZ := zh ((hkx.same _ ⟨hne2, by omega⟩ (Zd HZ.o)).trans HZ.o);replace HR0 := zh (HR0.o.keep Zg.is (fun _ h => h) (hkx.mono fun b h => ⟨by have := HM0.o; omega, by have := HBN.o; have := HM0.o; have := HM1.o; omega⟩));replace HR1 := zh (HR1.o.keep Zf.is (fun _ h => h) (hkx.mono fun b h => ⟨by have := HM1.o; omega, by have := HBN.o; have := HM0.o; have := HM1.o; omega⟩));replace HO := HOr;replace HB := HBr;replace HN : Hd (wr.heap.size ≤ wr.heap.size) := zh (Nat.le_refl _);clear hkx hkxs hso hr2 hO hbel pr2 HPr HOr HBr HKX hjl HDL;have pr2 := cq HP.o 2;simp only [nD, nE, nF] at pr2;go_upto_region 12 with (fail);clear pr2;have p3 := cq HP.o 3;have o3 := cq HO.o 3;have fo3 := fz HO.o;simp only [nD, nE, nF] at p3 o3;have pa3 := (((Za.refl wr).alloc (.cells #[] 34)).cell ⟨w.heap.size, 3, none⟩ (Zd HP.o)).trans p3;have HS := zh (Hglobals.o.keep Zb (fun _ h => h) (Zc.later (HB.o.trans (Below.mono ((Za.refl wr).alloc (.cells #[] 34)) HB.o.size))))
   go_upto_region 13 with (at_builtin; refine Zao Ze1 (by decide) rfl _ _ 27 rfl 34 iValueS (.agg #[.int .i64 0, .int .i64 0, .int .i64 0, .string ⟨#[]⟩, .int .i64 0, .int .i64 0]) 56 Tryz.underlying27 hiValueS hzValueS0 hzValueS1 hzValueS2 rfl rfl (Zy (by simp)) rfl HS.o (by omega) (by decide) ?_; intro v3 w3 hr3 hl3; obtain ⟨A3, c3, rfl, _⟩ := id hr3; have hlx := ((Za.refl wr).alloc (.cells #[] 34)).trans hl3; have o3x := (hlx.cell _ (Zd HO.o)).trans o3; have fo3x := frozen_of_row _ (w.heap.size + 2) 3 _ _ ((hlx.block _ (Zd HO.o)).trans HO.o); clear o3 fo3)
   clear pa3 p3 HS o3x fo3x;have hlo3 := hlx.size;have hbs3 : wr.heap.size + 1 ≤ w3.heap.size := by have := hl3.size; simpa using this
   have HR3 := zh ((hr3.trim Zn).keep Zn.is (G := fun b => wr.heap.size ≤ b ∧ b < w3.heap.size) (fun b h => ⟨by have := h.1; have := HN.o; have : wr.heap.size ≤ (wr.alloc (.cells #[] 34)).heap.size := (by simp); have := hbs3; omega, h.2⟩) (Zc.refl _ _));have HM3 := zh (show w.heap.size + 3 ≤ wr.heap.size ∧ wr.heap.size ≤ w3.heap.size from ⟨by have := HM2.o; omega, by have := HN.o; have : wr.heap.size ≤ (wr.alloc (.cells #[] 34)).heap.size := (by simp); have := hbs3; omega⟩);replace HP := zC hlx HP;replace HZ := zC hlx HZ;replace HO := zC hlx HO;replace HB := zh (HB.o.trans (Below.mono hlx HB.o.size));replace HR0 := zh (HR0.o.later Zg.is hlx);replace HR1 := zh (HR1.o.later Zf.is hlx);replace HR2 := zh (HR2.o.later Zq.is hlx);replace HN : Hd (w3.heap.size ≤ w3.heap.size) := zh (Nat.le_refl _);clear hr3 hl3 hlx hlo3 hbs3;replace HO := zh (Zax (o := 3) HO.o (.slice A3 r.globals.length c3));simp only [List.setIfInBounds_toArray, List.set_cons_zero, List.set_cons_succ] at HO;replace HP := zh ((Below.heap_setCell _ ⟨w.heap.size + 2, 3, none⟩ (.slice A3 r.globals.length c3) _ hne1).trans HP.o);replace HZ := zh ((Below.heap_setCell _ ⟨w.heap.size + 2, 3, none⟩ (.slice A3 r.globals.length c3) _ hne2).trans HZ.o);replace HB := zh (HB.o.setCell (p := ⟨w.heap.size + 2, 3, none⟩) (by simp) (.slice A3 r.globals.length c3));replace HR0 := zh (HR0.o.keep Zg.is (fun _ h => h) ((Zc.refl _ _).set (B := w.heap.size + 2) (by have := HM0.o; omega) 3 (.slice A3 r.globals.length c3)))
   replace HR1 := zh (HR1.o.keep Zf.is (fun _ h => h) ((Zc.refl _ _).set (B := w.heap.size + 2) (by have := HM1.o; omega) 3 (.slice A3 r.globals.length c3)));replace HR2 := zh (HR2.o.keep Zq.is (fun _ h => h) ((Zc.refl _ _).set (B := w.heap.size + 2) (by have := HM2.o; omega) 3 (.slice A3 r.globals.length c3)));replace HR3 := zh (HR3.o.keep Zn.is (fun _ h => h) ((Zc.refl _ _).set (B := w.heap.size + 2) (by have := HM3.o; omega) 3 (.slice A3 r.globals.length c3)));replace HN := zh (show _ ≤ _ from Nat.le_trans HN.o ((Zc.refl (fun _ => False) _).set (B := w.heap.size + 2) (fun h => h) 3 (.slice A3 r.globals.length c3)).size);obtain ⟨x4, hx⟩ : ∃ x, x = w3.setCell ⟨w.heap.size + 2, 3, none⟩ (.slice A3 r.globals.length c3) := ⟨_, rfl⟩;rw [← hx] at HP HZ HO HB HN HR0 HR1 HR2 HR3 ⊢;clear hx;have p6 := cq HP.o 6;have o6 := cq HO.o 6;have fo6 := fz HO.o;simp only [nD, nE, nF] at p6 o6;have pa6 := (((Za.refl x4).alloc (.cells #[] 9)).cell ⟨w.heap.size, 6, none⟩ (Zd HP.o)).trans p6;have HS := zh (Houtput.o.keep Z4 (fun _ h => h) (Zc.later (HB.o.trans (Below.mono ((Za.refl x4).alloc (.cells #[] 9)) HB.o.size))))
   go_upto_region 14 with (at_builtin; refine Zao Zdf (by decide) rfl _ _ 24 rfl 9 iStringS (.string ⟨#[]⟩) 16 Tryz.underlying24 hiStringS hzStringS0 hzStringS1 hzStringS2 rfl rfl (Zy (by simp)) rfl HS.o (by omega) (by decide) ?_; intro v6 w6 hr6 hl6; obtain ⟨A6, c6, rfl, _⟩ := id hr6; have hlx := ((Za.refl x4).alloc (.cells #[] 9)).trans hl6; have o6x := (hlx.cell _ (Zd HO.o)).trans o6; have fo6x := frozen_of_row _ (w.heap.size + 2) 6 _ _ ((hlx.block _ (Zd HO.o)).trans HO.o); clear o6 fo6)
   clear pa6 p6 HS o6x fo6x;have hlo6 := hlx.size;have hbs6 : x4.heap.size + 1 ≤ w6.heap.size := by have := hl6.size; simpa using this
   have HR6 := zh ((hr6.trim Zg).keep Zg.is (G := fun b => w3.heap.size ≤ b ∧ b < w6.heap.size) (fun b h => ⟨by have := h.1; have := HN.o; have : x4.heap.size ≤ (x4.alloc (.cells #[] 9)).heap.size := (by simp); have := hbs6; omega, h.2⟩) (Zc.refl _ _));have HM6 := zh (show w.heap.size + 3 ≤ w3.heap.size ∧ w3.heap.size ≤ w6.heap.size from ⟨by have := HM3.o; omega, by have := HN.o; have : x4.heap.size ≤ (x4.alloc (.cells #[] 9)).heap.size := (by simp); have := hbs6; omega⟩);replace HP := zC hlx HP;replace HZ := zC hlx HZ;replace HO := zC hlx HO;replace HB := zh (HB.o.trans (Below.mono hlx HB.o.size));replace HR0 := zh (HR0.o.later Zg.is hlx);replace HR1 := zh (HR1.o.later Zf.is hlx);replace HR2 := zh (HR2.o.later Zq.is hlx);replace HR3 := zh (HR3.o.later Zn.is hlx);replace HN : Hd (w6.heap.size ≤ w6.heap.size) := zh (Nat.le_refl _);clear hr6 hl6 hlx hlo6 hbs6;replace HO := zh (Zax (o := 6) HO.o (.slice A6 r.output.length c6));simp only [List.setIfInBounds_toArray, List.set_cons_zero, List.set_cons_succ] at HO;replace HP := zh ((Below.heap_setCell _ ⟨w.heap.size + 2, 6, none⟩ (.slice A6 r.output.length c6) _ hne1).trans HP.o);replace HZ := zh ((Below.heap_setCell _ ⟨w.heap.size + 2, 6, none⟩ (.slice A6 r.output.length c6) _ hne2).trans HZ.o);replace HB := zh (HB.o.setCell (p := ⟨w.heap.size + 2, 6, none⟩) (by simp) (.slice A6 r.output.length c6));replace HR0 := zh (HR0.o.keep Zg.is (fun _ h => h) ((Zc.refl _ _).set (B := w.heap.size + 2) (by have := HM0.o; omega) 6 (.slice A6 r.output.length c6)))
   replace HR1 := zh (HR1.o.keep Zf.is (fun _ h => h) ((Zc.refl _ _).set (B := w.heap.size + 2) (by have := HM1.o; omega) 6 (.slice A6 r.output.length c6)));replace HR2 := zh (HR2.o.keep Zq.is (fun _ h => h) ((Zc.refl _ _).set (B := w.heap.size + 2) (by have := HM2.o; omega) 6 (.slice A6 r.output.length c6)));replace HR3 := zh (HR3.o.keep Zn.is (fun _ h => h) ((Zc.refl _ _).set (B := w.heap.size + 2) (by have := HM3.o; omega) 6 (.slice A6 r.output.length c6)));replace HR6 := zh (HR6.o.keep Zg.is (fun _ h => h) ((Zc.refl _ _).set (B := w.heap.size + 2) (by have := HM6.o; omega) 6 (.slice A6 r.output.length c6)));replace HN := zh (show _ ≤ _ from Nat.le_trans HN.o ((Zc.refl (fun _ => False) _).set (B := w.heap.size + 2) (fun h => h) 6 (.slice A6 r.output.length c6)).size);obtain ⟨x5, hx⟩ : ∃ x, x = w6.setCell ⟨w.heap.size + 2, 6, none⟩ (.slice A6 r.output.length c6) := ⟨_, rfl⟩;rw [← hx] at HP HZ HO HB HN HR0 HR1 HR2 HR3 HR6 ⊢;clear hx;have p7 := cq HP.o 7;have o7 := cq HO.o 7;have fo7 := fz HO.o;simp only [nD, nE, nF] at p7 o7;have pa7 := (((Za.refl x5).alloc (.cells #[] 9)).cell ⟨w.heap.size, 7, none⟩ (Zd HP.o)).trans p7;have HS := zh (Htrace.o.keep Z4 (fun _ h => h) (Zc.later (HB.o.trans (Below.mono ((Za.refl x5).alloc (.cells #[] 9)) HB.o.size))))
   go_upto_region 15 with (at_builtin; refine Zao Zdf (by decide) rfl _ _ 24 rfl 9 iStringS (.string ⟨#[]⟩) 16 Tryz.underlying24 hiStringS hzStringS0 hzStringS1 hzStringS2 rfl rfl (Zy (by simp)) rfl HS.o (by omega) (by decide) ?_; intro v7 w7 hr7 hl7; obtain ⟨A7, c7, rfl, _⟩ := id hr7; have hlx := ((Za.refl x5).alloc (.cells #[] 9)).trans hl7; have o7x := (hlx.cell _ (Zd HO.o)).trans o7; have fo7x := frozen_of_row _ (w.heap.size + 2) 7 _ _ ((hlx.block _ (Zd HO.o)).trans HO.o); clear o7 fo7)
   clear pa7 p7 HS o7x fo7x;have hlo7 := hlx.size;have hbs7 : x5.heap.size + 1 ≤ w7.heap.size := by have := hl7.size; simpa using this
   have HR7 := zh ((hr7.trim Zg).keep Zg.is (G := fun b => w6.heap.size ≤ b ∧ b < w7.heap.size) (fun b h => ⟨by have := h.1; have := HN.o; have : x5.heap.size ≤ (x5.alloc (.cells #[] 9)).heap.size := (by simp); have := hbs7; omega, h.2⟩) (Zc.refl _ _));have HM7 := zh (show w.heap.size + 3 ≤ w6.heap.size ∧ w6.heap.size ≤ w7.heap.size from ⟨by have := HM6.o; omega, by have := HN.o; have : x5.heap.size ≤ (x5.alloc (.cells #[] 9)).heap.size := (by simp); have := hbs7; omega⟩);replace HP := zC hlx HP;replace HZ := zC hlx HZ;replace HO := zC hlx HO;replace HB := zh (HB.o.trans (Below.mono hlx HB.o.size));replace HR0 := zh (HR0.o.later Zg.is hlx);replace HR1 := zh (HR1.o.later Zf.is hlx);replace HR2 := zh (HR2.o.later Zq.is hlx);replace HR3 := zh (HR3.o.later Zn.is hlx);replace HR6 := zh (HR6.o.later Zg.is hlx);replace HN : Hd (w7.heap.size ≤ w7.heap.size) := zh (Nat.le_refl _);clear hr7 hl7 hlx hlo7 hbs7;replace HO := zh (Zax (o := 7) HO.o (.slice A7 r.trace.length c7));simp only [List.setIfInBounds_toArray, List.set_cons_zero, List.set_cons_succ] at HO;replace HP := zh ((Below.heap_setCell _ ⟨w.heap.size + 2, 7, none⟩ (.slice A7 r.trace.length c7) _ hne1).trans HP.o);replace HZ := zh ((Below.heap_setCell _ ⟨w.heap.size + 2, 7, none⟩ (.slice A7 r.trace.length c7) _ hne2).trans HZ.o);replace HB := zh (HB.o.setCell (p := ⟨w.heap.size + 2, 7, none⟩) (by simp) (.slice A7 r.trace.length c7));replace HR0 := zh (HR0.o.keep Zg.is (fun _ h => h) ((Zc.refl _ _).set (B := w.heap.size + 2) (by have := HM0.o; omega) 7 (.slice A7 r.trace.length c7)))
   replace HR1 := zh (HR1.o.keep Zf.is (fun _ h => h) ((Zc.refl _ _).set (B := w.heap.size + 2) (by have := HM1.o; omega) 7 (.slice A7 r.trace.length c7)));replace HR2 := zh (HR2.o.keep Zq.is (fun _ h => h) ((Zc.refl _ _).set (B := w.heap.size + 2) (by have := HM2.o; omega) 7 (.slice A7 r.trace.length c7)));replace HR3 := zh (HR3.o.keep Zn.is (fun _ h => h) ((Zc.refl _ _).set (B := w.heap.size + 2) (by have := HM3.o; omega) 7 (.slice A7 r.trace.length c7)));replace HR6 := zh (HR6.o.keep Zg.is (fun _ h => h) ((Zc.refl _ _).set (B := w.heap.size + 2) (by have := HM6.o; omega) 7 (.slice A7 r.trace.length c7)));replace HR7 := zh (HR7.o.keep Zg.is (fun _ h => h) ((Zc.refl _ _).set (B := w.heap.size + 2) (by have := HM7.o; omega) 7 (.slice A7 r.trace.length c7)));replace HN := zh (show _ ≤ _ from Nat.le_trans HN.o ((Zc.refl (fun _ => False) _).set (B := w.heap.size + 2) (fun h => h) 7 (.slice A7 r.trace.length c7)).size);obtain ⟨x6, hx⟩ : ∃ x, x = w7.setCell ⟨w.heap.size + 2, 7, none⟩ (.slice A7 r.trace.length c7) := ⟨_, rfl⟩;rw [← hx] at HP HZ HO HB HN HR0 HR1 HR2 HR3 HR6 HR7 ⊢;clear hx;have p8 := cq HP.o 8;have o8 := cq HO.o 8;have fo8 := fz HO.o;simp only [nD, nE, nF] at p8 o8;have pa8 := (((Za.refl x6).alloc (.cells #[] 89)).cell ⟨w.heap.size, 8, none⟩ (Zd HP.o)).trans p8;have HS := zh (Hactives.o.keep Zba (fun _ h => h) (Zc.later (HB.o.trans (Below.mono ((Za.refl x6).alloc (.cells #[] 89)) HB.o.size))))
   go_upto_region 16 with (at_builtin; refine Zao Zhk (by decide) rfl _ _ 28 rfl 89 iActiveS (.agg #[.int .i64 0, .int .i64 0]) 16 Tryz.underlying28 hiActiveS hzActiveS0 hzActiveS1 hzActiveS2 rfl rfl (Zy (by simp)) rfl HS.o (by omega) (by decide) ?_; intro v8 w8 hr8 hl8; obtain ⟨A8, c8, rfl, _⟩ := id hr8; have hlx := ((Za.refl x6).alloc (.cells #[] 89)).trans hl8; have o8x := (hlx.cell _ (Zd HO.o)).trans o8; have fo8x := frozen_of_row _ (w.heap.size + 2) 8 _ _ ((hlx.block _ (Zd HO.o)).trans HO.o); clear o8 fo8)
   clear pa8 p8 HS o8x fo8x;have hlo8 := hlx.size;have hbs8 : x6.heap.size + 1 ≤ w8.heap.size := by have := hl8.size; simpa using this
   have HR8 := zh ((hr8.trim Zah).keep Zah.is (G := fun b => w7.heap.size ≤ b ∧ b < w8.heap.size) (fun b h => ⟨by have := h.1; have := HN.o; have : x6.heap.size ≤ (x6.alloc (.cells #[] 89)).heap.size := (by simp); have := hbs8; omega, h.2⟩) (Zc.refl _ _));have HM8 := zh (show w.heap.size + 3 ≤ w7.heap.size ∧ w7.heap.size ≤ w8.heap.size from ⟨by have := HM7.o; omega, by have := HN.o; have : x6.heap.size ≤ (x6.alloc (.cells #[] 89)).heap.size := (by simp); have := hbs8; omega⟩);replace HP := zC hlx HP;replace HZ := zC hlx HZ;replace HO := zC hlx HO;replace HB := zh (HB.o.trans (Below.mono hlx HB.o.size));replace HR0 := zh (HR0.o.later Zg.is hlx);replace HR1 := zh (HR1.o.later Zf.is hlx);replace HR2 := zh (HR2.o.later Zq.is hlx);replace HR3 := zh (HR3.o.later Zn.is hlx);replace HR6 := zh (HR6.o.later Zg.is hlx);replace HR7 := zh (HR7.o.later Zg.is hlx);replace HN : Hd (w8.heap.size ≤ w8.heap.size) := zh (Nat.le_refl _);clear hr8 hl8 hlx hlo8 hbs8;replace HO := zh (Zax (o := 8) HO.o (.slice A8 r.aE.length c8));simp only [List.setIfInBounds_toArray, List.set_cons_zero, List.set_cons_succ] at HO;replace HP := zh ((Below.heap_setCell _ ⟨w.heap.size + 2, 8, none⟩ (.slice A8 r.aE.length c8) _ hne1).trans HP.o);replace HZ := zh ((Below.heap_setCell _ ⟨w.heap.size + 2, 8, none⟩ (.slice A8 r.aE.length c8) _ hne2).trans HZ.o);replace HB := zh (HB.o.setCell (p := ⟨w.heap.size + 2, 8, none⟩) (by simp) (.slice A8 r.aE.length c8))
   replace HR0 := zh (HR0.o.keep Zg.is (fun _ h => h) ((Zc.refl _ _).set (B := w.heap.size + 2) (by have := HM0.o; omega) 8 (.slice A8 r.aE.length c8)));replace HR1 := zh (HR1.o.keep Zf.is (fun _ h => h) ((Zc.refl _ _).set (B := w.heap.size + 2) (by have := HM1.o; omega) 8 (.slice A8 r.aE.length c8)));replace HR2 := zh (HR2.o.keep Zq.is (fun _ h => h) ((Zc.refl _ _).set (B := w.heap.size + 2) (by have := HM2.o; omega) 8 (.slice A8 r.aE.length c8)));replace HR3 := zh (HR3.o.keep Zn.is (fun _ h => h) ((Zc.refl _ _).set (B := w.heap.size + 2) (by have := HM3.o; omega) 8 (.slice A8 r.aE.length c8)));replace HR6 := zh (HR6.o.keep Zg.is (fun _ h => h) ((Zc.refl _ _).set (B := w.heap.size + 2) (by have := HM6.o; omega) 8 (.slice A8 r.aE.length c8)));replace HR7 := zh (HR7.o.keep Zg.is (fun _ h => h) ((Zc.refl _ _).set (B := w.heap.size + 2) (by have := HM7.o; omega) 8 (.slice A8 r.aE.length c8)));replace HR8 := zh (HR8.o.keep Zah.is (fun _ h => h) ((Zc.refl _ _).set (B := w.heap.size + 2) (by have := HM8.o; omega) 8 (.slice A8 r.aE.length c8)));replace HN := zh (show _ ≤ _ from Nat.le_trans HN.o ((Zc.refl (fun _ => False) _).set (B := w.heap.size + 2) (fun h => h) 8 (.slice A8 r.aE.length c8)).size);obtain ⟨x7, hx⟩ : ∃ x, x = w8.setCell ⟨w.heap.size + 2, 8, none⟩ (.slice A8 r.aE.length c8) := ⟨_, rfl⟩;rw [← hx] at HP HZ HO HB HN HR0 HR1 HR2 HR3 HR6 HR7 HR8 ⊢
   clear hx;have z0 := Zae HZ.o;obtain ⟨o0, o1, o2, o3, o4, o5, o6, o7, o8, o9, o10, o11, o12⟩ := Zae HO.o;have fz0 := fz HZ.o;go_wp2_with fail;refine bodyPost_ret (v := .agg #[.slice A0 r.names.length c0, .slice A1 r.aB.length c1, .slice A2 r.aA.length c2, .slice A3 r.globals.length c3, .string r.aC, .int .i64 r.aD, .slice A6 r.output.length c6, .slice A7 r.trace.length c7, .slice A8 r.aE.length c8, .bool r.aF, .int .i64 r.ticks, .int .i64 r.aG, .int .i64 r.made]) (by simp [results, Tryz.results42, go_sem, z0, o0, fz0, o1, o2, o3, o4, o5, o6, o7, o8, o9, o10, o11, o12, hne3]) rfl ⟨[.slice A0 r.names.length c0, .slice A1 r.aB.length c1, .slice A2 r.aA.length c2, .slice A3 r.globals.length c3, .string r.aC, .int .i64 r.aD, .slice A6 r.output.length c6, .slice A7 r.trace.length c7, .slice A8 r.aE.length c8, .bool r.aF, .int .i64 r.ticks, .int .i64 r.aG, .int .i64 r.made], rfl, ?_, (((((((((((((HB.o.setCell (p := ⟨w.heap.size + 1, 0, none⟩) (by simp) _).setCell (p := ⟨w.heap.size + 1, 1, none⟩) (by simp) _).setCell (p := ⟨w.heap.size + 1, 2, none⟩) (by simp) _).setCell (p := ⟨w.heap.size + 1, 3, none⟩) (by simp) _).setCell (p := ⟨w.heap.size + 1, 4, none⟩) (by simp) _).setCell (p := ⟨w.heap.size + 1, 5, none⟩) (by simp) _).setCell (p := ⟨w.heap.size + 1, 6, none⟩) (by simp) _).setCell (p := ⟨w.heap.size + 1, 7, none⟩) (by simp) _).setCell (p := ⟨w.heap.size + 1, 8, none⟩) (by simp) _).setCell (p := ⟨w.heap.size + 1, 9, none⟩) (by simp) _).setCell (p := ⟨w.heap.size + 1, 10, none⟩) (by simp) _).setCell (p := ⟨w.heap.size + 1, 11, none⟩) (by simp) _).setCell (p := ⟨w.heap.size + 1, 12, none⟩) (by simp) _)⟩
   have := HM0.o; have := HM1.o; have := HM2.o; have := HM3.o; have := HM6.o; have := HM7.o; have := HM8.o;have kk := Z5 (F := fun y => y ≠ w.heap.size + 1) (fun h => h rfl) [.slice A0 r.names.length c0, .slice A1 r.aB.length c1, .slice A2 r.aA.length c2, .slice A3 r.globals.length c3, .string r.aC, .int .i64 r.aD, .slice A6 r.output.length c6, .slice A7 r.trace.length c7, .slice A8 r.aE.length c8, .bool r.aF, .int .i64 r.ticks, .int .i64 r.aG, .int .i64 r.made] x7 0 (Zc.refl _ _);simp only [Zp, Nat.zero_add, Nat.reduceAdd] at kk;exact ⟨(fun y => if y < w0.heap.size then 0 else if y < w1.heap.size then 1 else if y < wr.heap.size then 2 else if y < w3.heap.size then 3 else if y < w6.heap.size then 4 else if y < w7.heap.size then 5 else (6 : Nat)), _, _, _, _, _, _, _, rfl, HR0.o.keep Zg.is (fun b h => ⟨by have := h.1; omega, by have := h.1; have := h.2; dsimp only; (repeat' split) <;> omega⟩) (kk.mono fun b h => by have := h.1; have := h.2; omega), HR1.o.keep Zf.is (fun b h => ⟨by have := h.1; omega, by have := h.1; have := h.2; dsimp only; (repeat' split) <;> omega⟩) (kk.mono fun b h => by have := h.1; have := h.2; omega), HR2.o.keep Zq.is (fun b h => ⟨by have := h.1; omega, by have := h.1; have := h.2; dsimp only; (repeat' split) <;> omega⟩) (kk.mono fun b h => by have := h.1; have := h.2; omega), HR3.o.keep Zn.is (fun b h => ⟨by have := h.1; omega, by have := h.1; have := h.2; dsimp only; (repeat' split) <;> omega⟩) (kk.mono fun b h => by have := h.1; have := h.2; omega), Hsubject.o, Hposition.o, HR6.o.keep Zg.is (fun b h => ⟨by have := h.1; omega, by have := h.1; have := h.2; dsimp only; (repeat' split) <;> omega⟩) (kk.mono fun b h => by have := h.1; have := h.2; omega), HR7.o.keep Zg.is (fun b h => ⟨by have := h.1; omega, by have := h.1; have := h.2; dsimp only; (repeat' split) <;> omega⟩) (kk.mono fun b h => by have := h.1; have := h.2; omega), HR8.o.keep Zah.is (fun b h => ⟨by have := h.1; omega, by have := h.1; have := h.2; dsimp only; (repeat' split) <;> omega⟩) (kk.mono fun b h => by have := h.1; have := h.2; omega), Hticks.o, Hbudget.o, Hmade.o⟩
theorem Znp (s : ByteArray) (w : World) : Calls Tryz.prog 113 #[.string s] w fun e w' => e = .returned (.agg #[.int .i64 2, .int .i64 0, .int .i64 0, .string s, .int .i64 0, .int .i64 0]) ∧ Za w w' := by
 have HL := zh ((Za.refl w).alloc (.cells #[.int .i64 0, .int .i64 0, .int .i64 0, .string ⟨#[]⟩, .int .i64 0, .int .i64 0] 34));go_enter Tryz.func113, Tryz.ntmps113;go_wp2_with fail;refine bodyPost_ret (v := .agg #[.int .i64 2, .int .i64 0, .int .i64 0, .string s, .int .i64 0, .int .i64 0]) (by simp [results, Tryz.results113, go_sem]) rfl ⟨rfl, ?_⟩
 first | exact (Za.refl _).alloc _ | exact ((Za.refl _).alloc _).alloc _ | exact Za.refl _
theorem Zoy (n : Int) (w : World) : Calls Tryz.prog 130 #[.int .i64 n] w fun e w' => e = .returned (.agg #[.int .i64 1, .int .i64 n, .int .i64 0, .string ⟨#[]⟩, .int .i64 0, .int .i64 0]) ∧ Za w w' := by
 have HL := zh ((Za.refl w).alloc (.cells #[.int .i64 0, .int .i64 0, .int .i64 0, .string ⟨#[]⟩, .int .i64 0, .int .i64 0] 34));go_enter Tryz.func130, Tryz.ntmps130;go_wp2_with fail;refine bodyPost_ret (v := .agg #[.int .i64 1, .int .i64 n, .int .i64 0, .string ⟨#[]⟩, .int .i64 0, .int .i64 0]) (by simp [results, Tryz.results130, go_sem]) rfl ⟨rfl, ?_⟩
 first | exact (Za.refl _).alloc _ | exact ((Za.refl _).alloc _).alloc _ | exact Za.refl _
theorem Zih (r : Zh) (B : Nat) (cs : List Value) (F : Nat → Prop) (w : World) (x i : Zj) (h : Zb3 F w B r cs) (hx : Ze F w x [.int .i64 x.kind, .int .i64 x.aH, .int .i64 x.index, .string x.text, .int .i64 x.set_.low, .int .i64 x.set_.high]) (hi : Ze F w i [.int .i64 i.kind, .int .i64 i.aH, .int .i64 i.index, .string i.text, .int .i64 i.set_.low, .int .i64 i.set_.high]) (hm : r.aA.length ≤ 1048576) (hdx : Zz r x = true) (hitm : ∀ j (h : j < r.aA.length), r.aA[j].aJ.length ≤ 1048576) :
  Calls Tryz.prog 78 #[.pointer (some ⟨B, 0, none⟩), .agg #[.int .i64 x.kind, .int .i64 x.aH, .int .i64 x.index, .string x.text, .int .i64 x.set_.low, .int .i64 x.set_.high], .agg #[.int .i64 i.kind, .int .i64 i.aH, .int .i64 i.index, .string i.text, .int .i64 i.set_.low, .int .i64 i.set_.high]] w fun e w' => Zav F w B (Zbg r x i) e w' := by
 have HX64 := zh (show Ze F w x [.int .i64 x.kind, .int .i64 x.aH, .int .i64 x.index, .string x.text, .int .i64 x.set_.low, .int .i64 x.set_.high] from hx);have HI64 := zh (show Ze F w i [.int .i64 i.kind, .int .i64 i.aH, .int .i64 i.index, .string i.text, .int .i64 i.set_.low, .int .i64 i.set_.high] from hi);have hin : Zac x.aH ∧ Zac i.aH ∧ x.text.size ≤ maxLen ∧ i.text.size ≤ maxLen := ⟨hx.2.2.1, hi.2.2.1, hx.2.2.2.2.1, hi.2.2.2.2.1⟩;have HIN := zh hin;have HBW := zh h.lt;have HFB := zh h.nB;have HDX := zh hdx;have HIT := zh hitm;have HM := zh hm;have hl : Za w (((w.alloc (.cells #[.int .i64 x.kind, .int .i64 x.aH, .int .i64 x.index, .string x.text, .int .i64 x.set_.low, .int .i64 x.set_.high] 34)).alloc (.cells #[.int .i64 i.kind, .int .i64 i.aH, .int .i64 i.index, .string i.text, .int .i64 i.set_.low, .int .i64 i.set_.high] 34)).alloc (.cells #[.int .i64 0, .int .i64 0, .int .i64 0, .string ⟨#[]⟩, .int .i64 0, .int .i64 0] 34)) := (((Za.refl w).alloc _).alloc _).alloc _;have HXB := zh (((Za.refl _).alloc (.cells #[.int .i64 i.kind, .int .i64 i.aH, .int .i64 i.index, .string i.text, .int .i64 i.set_.low, .int .i64 i.set_.high] 34)).trans ((Za.refl _).alloc (.cells #[.int .i64 0, .int .i64 0, .int .i64 0, .string ⟨#[]⟩, .int .i64 0, .int .i64 0] 34)) |>.block w.heap.size (by simp) |>.trans (heap_alloc_new w (.cells #[.int .i64 x.kind, .int .i64 x.aH, .int .i64 x.index, .string x.text, .int .i64 x.set_.low, .int .i64 x.set_.high] 34)))
 have HIB := zh (((Za.refl _).alloc (.cells #[.int .i64 0, .int .i64 0, .int .i64 0, .string ⟨#[]⟩, .int .i64 0, .int .i64 0] 34)).block (w.heap.size + 1) (by simp) |>.trans (Zy (w := w.alloc (.cells #[.int .i64 x.kind, .int .i64 x.aH, .int .i64 x.index, .string x.text, .int .i64 x.set_.low, .int .i64 x.set_.high] 34)) (o := #[.int .i64 i.kind, .int .i64 i.aH, .int .i64 i.index, .string i.text, .int .i64 i.set_.low, .int .i64 i.set_.high]) (T := 34) (by simp)));have HRB := zh (show (((w.alloc (.cells #[.int .i64 x.kind, .int .i64 x.aH, .int .i64 x.index, .string x.text, .int .i64 x.set_.low, .int .i64 x.set_.high] 34)).alloc (.cells #[.int .i64 i.kind, .int .i64 i.aH, .int .i64 i.index, .string i.text, .int .i64 i.set_.low, .int .i64 i.set_.high] 34)).alloc (.cells #[.int .i64 0, .int .i64 0, .int .i64 0, .string ⟨#[]⟩, .int .i64 0, .int .i64 0] 34)).heap[w.heap.size + 1 + 1]? = some (.cells #[.int .i64 0, .int .i64 0, .int .i64 0, .string ⟨#[]⟩, .int .i64 0, .int .i64 0] 34 (0, 0)) from Zy (by simp));have HL := zh hl;have HSW := zh (show (((w.alloc (.cells #[.int .i64 x.kind, .int .i64 x.aH, .int .i64 x.index, .string x.text, .int .i64 x.set_.low, .int .i64 x.set_.high] 34)).alloc (.cells #[.int .i64 i.kind, .int .i64 i.aH, .int .i64 i.index, .string i.text, .int .i64 i.set_.low, .int .i64 i.set_.high] 34)).alloc (.cells #[.int .i64 0, .int .i64 0, .int .i64 0, .string ⟨#[]⟩, .int .i64 0, .int .i64 0] 34)).heap.size = w.heap.size + 3 by simp)
 have HS := zh (h.trim.later hl);obtain ⟨w3, hw3⟩ : ∃ z, z = (((w.alloc (.cells #[.int .i64 x.kind, .int .i64 x.aH, .int .i64 x.index, .string x.text, .int .i64 x.set_.low, .int .i64 x.set_.high] 34)).alloc (.cells #[.int .i64 i.kind, .int .i64 i.aH, .int .i64 i.index, .string i.text, .int .i64 i.set_.low, .int .i64 i.set_.high] 34)).alloc (.cells #[.int .i64 0, .int .i64 0, .int .i64 0, .string ⟨#[]⟩, .int .i64 0, .int .i64 0] 34)) := ⟨_, rfl⟩;rw [← hw3] at HXB HIB HRB HL HS HSW;have HLC := zh (Za.refl w3);clear h hx hi hm hdx hitm hl hin
 by_cases k5 : x.kind = 5
 ·have t5 : (x.kind == 5) = true := beq_iff_eq.2 k5;have hq : Zbg r x i = (Zct r ⟨8, 0, 0, [x, i], []⟩, ⟨17, r.aA.length, 0, ⟨#[]⟩, ⟨0, 0⟩⟩, 0) := by unfold Zbg; rw [if_pos k5]
  have HQ := zh hq;clear hq k5;go_enter Tryz.func78, Tryz.ntmps78;go_upto_region 1 with (fail);rw [← hw3];clear hw3;have HXC := zB HLC HXB;have HIC := zB HLC HIB;have HRC := zB HLC HRB;obtain ⟨p0, p1, p2, p3, p4, p5⟩ := cz6 HXC.o;have q0 := cz6 HIC.o;obtain ⟨z0, z1, z2, z3, z4, z5⟩ := cz6 HRC.o;have fz0 := fz HRC.o;go_wp2_with fail;refine (Zib r B cs _ w3 x i HS.o (show Ze _ _ x _ from HX64.o) (show Ze _ _ i _ from HI64.o) HM.o).mono ?_;rintro e w5 ⟨rfl, ⟨cs5, hS5⟩, hG5⟩;clear HXC HIC HRC p0 p1 p2 p3 p4 p5 q0 z0 z1 z2 z3 z4 z5 fz0;have hR5 : w5.heap[w.heap.size + 1 + 1]? = some (.cells #[.int .i64 0, .int .i64 0, .int .i64 0, .string ⟨#[]⟩, .int .i64 0, .int .i64 0] 34 (0, 0)) := (hG5.keep.same _ ⟨fun hf => by have := hf.2; omega, by have := HBW.o; omega⟩ (by rw [HSW.o]; omega)).trans HRB.o;obtain ⟨z0, z1, z2, z3, z4, z5⟩ := cz6 hR5;have fz0 := fz hR5;have HS5 := zh hS5;have HG5 := zh (show Zbb F w B w5 from ⟨⟨Nat.le_trans HL.o.size hG5.keep.size, fun b hb hl => (hG5.keep.same b ⟨fun h => hb.1 h.1, hb.2⟩ (Nat.lt_of_lt_of_le hl HL.o.size)).trans (HL.o.block b hl)⟩, (Below.mono HL.o (Nat.zero_le _)).trans hG5.below⟩);clear hS5 hG5 hR5;go_wp2_with fail;have hd := Zau (F := F) (w := w) (R := w.heap.size + 1 + 1) HS5.o (by have := HSW.o; have := HBW.o; rintro (⟨_, h⟩ | h) <;> omega) (fun b hb => by rcases hb with h | h; exact .inl h.1; right; rw [HSW.o] at h; omega) HFB.o HBW.o HG5.o (by omega) [.int .i64 17, .int .i64 r.aA.length, .int .i64 0, .string ⟨#[]⟩, .int .i64 0, .int .i64 0] 0
  simp only [Zp, Nat.zero_add, Nat.reduceAdd] at hd;refine bodyPost_ret (v := .tuple #[.agg #[.int .i64 17, .int .i64 r.aA.length, .int .i64 0, .string ⟨#[]⟩, .int .i64 0, .int .i64 0], .int .i64 0]) (by simp [results, Tryz.results78, go_sem, z0, fz0, z1, z2, z3, z4, z5]) rfl (by show Zav F w B (Zbg r x i) _ _; rw [HQ.o]; exact ⟨rfl, hd.1, hd.2⟩)
 have t5 : (x.kind == 5) = false := nH.2 k5
 by_cases K4 : x.kind = 4
 ·obtain ⟨j, hj, hjl⟩ := Zdu HDX.o (by rw [K4]; decide);have hjl2 : (j : Int) < (r.aA.length : Int) := by omega
  have HJ := zh hj;have t4 : (x.kind == 4) = true := beq_iff_eq.2 K4;have t7 : (x.kind == 7) = false := nH.2 (by omega);have hit := HIT.o j hjl;have HKV := zh K4;clear K4 hj;obtain ⟨mi, hmi⟩ : ∃ q, Zey i = q := ⟨_, rfl⟩;have HMI := zh hmi;clear hmi
  cases mi with
  | none =>
   have HQ := zh (show Zbg r x i = (r, vZ, 101) by have K := HKV.o; unfold Zbg; rw [if_neg (by omega), if_pos (by omega), HMI.o]);go_enter Tryz.func78, Tryz.ntmps78;go_upto_region 1 with (fail);rw [← hw3];clear hw3;have HXC := zB HLC HXB;have HIC := zB HLC HIB;have HRC := zB HLC HRB;obtain ⟨p0, p1, p2, p3, p4, p5⟩ := cz6 HXC.o;have q0 := cz6 HIC.o;obtain ⟨z0, z1, z2, z3, z4, z5⟩ := cz6 HRC.o;have fz0 := fz HRC.o;go_wp2_with fail;refine (Zbr i _ F _ (Zb.keep (G := F) HI64.o (fun _ h => h) (Zc.later (HL.o.trans HLC.o)))).mono ?_;rw [HMI.o];rintro e w6 ⟨rfl, hcl⟩;clear HXC HIC HRC p0 p1 p2 p3 p4 p5 q0 z0 z1 z2 z3 z4 z5 fz0;replace HLC := zh (HLC.o.trans hcl);clear hcl;have HXC := zB HLC HXB;have HIC := zB HLC HIB;have HRC := zB HLC HRB;obtain ⟨p0, p1, p2, p3, p4, p5⟩ := cz6 HXC.o;have q0 := cz6 HIC.o;obtain ⟨z0, z1, z2, z3, z4, z5⟩ := cz6 HRC.o;have fz0 := fz HRC.o;simp only [Zcc];go_wp2_with fail;have hd := Zau (F := F) (w := w) (R := w.heap.size + 1 + 1) (HS.o.later HLC.o) (by have := HBW.o; rintro ⟨_, h⟩; omega) (fun b hb => .inl hb.1) HFB.o HBW.o (Zbb.later (HL.o.trans HLC.o)) (by omega) [.int .i64 0, .int .i64 0, .int .i64 0, .string ⟨#[]⟩, .int .i64 0, .int .i64 0] 0;simp only [Zp, Nat.zero_add, Nat.reduceAdd] at hd;refine bodyPost_ret (v := .tuple #[.agg #[.int .i64 0, .int .i64 0, .int .i64 0, .string ⟨#[]⟩, .int .i64 0, .int .i64 0], .int .i64 (101)]) (by simp [results, Tryz.results78, go_sem, z0, fz0, z1, z2, z3, z4, z5]) rfl (by show Zav F w B (Zbg r x i) _ _; rw [HQ.o]; exact ⟨rfl, hd.1, hd.2⟩)
  | some m =>
   have HM64 := zh (Zdt HIN.o.2.1 HMI.o);obtain ⟨k, hk⟩ : ∃ k, plc m (r.aA[j].aJ.length : Int) = k := ⟨_, rfl⟩;have hkb := Ze5 (i := m) (n := (r.aA[j].aJ.length : Int)) (by omega);rw [hk] at hkb;have HKK := zh hk;clear hk;go_enter Tryz.func78, Tryz.ntmps78;go_upto_region 1 with (fail);rw [← hw3];clear hw3;have HXC := zB HLC HXB;have HIC := zB HLC HIB;have HRC := zB HLC HRB;obtain ⟨p0, p1, p2, p3, p4, p5⟩ := cz6 HXC.o;have q0 := cz6 HIC.o;obtain ⟨z0, z1, z2, z3, z4, z5⟩ := cz6 HRC.o;have fz0 := fz HRC.o;go_wp2_with fail;refine (Zbr i _ F _ (Zb.keep (G := F) HI64.o (fun _ h => h) (Zc.later (HL.o.trans HLC.o)))).mono ?_;rw [HMI.o];rintro e w6 ⟨rfl, hcl⟩;clear HXC HIC HRC p0 p1 p2 p3 p4 p5 q0 z0 z1 z2 z3 z4 z5 fz0;replace HLC := zh (HLC.o.trans hcl);clear hcl;have HXC := zB HLC HXB;have HIC := zB HLC HIB;have HRC := zB HLC HRB;obtain ⟨p0, p1, p2, p3, p4, p5⟩ := cz6 HXC.o;have q0 := cz6 HIC.o;obtain ⟨z0, z1, z2, z3, z4, z5⟩ := cz6 HRC.o;have fz0 := fz HRC.o;simp only [Zcc];go_upto_region 7 with (fail);refine Zbd [11, 12] [] (by kernel_rfl) (fun W hW => ?_);have hWL := (show Za _ W by rw [hW]; exact (Za.refl _).drew);clear hW;clear HXC HIC HRC p0 p1 p2 p3 p4 p5 q0 z0 z1 z2 z3 z4 z5 fz0;replace HLC := zh (HLC.o.trans hWL);clear hWL;have HXC := zB HLC HXB;have HIC := zB HLC HIB;have HRC := zB HLC HRB;obtain ⟨p0, p1, p2, p3, p4, p5⟩ := cz6 HXC.o
   have q0 := cz6 HIC.o;obtain ⟨z0, z1, z2, z3, z4, z5⟩ := cz6 HRC.o;have fz0 := fz HRC.o;rw [HJ.o] at p1;obtain ⟨Ao, co, b2, hco, hcmo, hro⟩ := (HS.o.later HLC.o).at_.aA;unfold maxLen at hcmo;obtain ⟨ob, oo, Aj, cj, Ajk, cjk, eo, hob, _, _, _, e3, _, hrj, _⟩ := Zai.obj hro hjl;cases eo;obtain ⟨Aj2, cj2, ej, hcj, hcmj, _⟩ := id hrj;cases ej;unfold maxLen at hcmj;have hBW := (HS.o.later HLC.o).lt;have hXW := Zd HXC.o;clear hro hrj;refine tU 0 38 (v := ?_) rfl rfl (fun x hx => ?_) ?_;rotate_left
   ·go_simp;first|done|with_reducible rfl
   simp only [Act.put, nA, nB, nC];refine tU 1 39 (v := ?_) rfl rfl (fun x hx => ?_) ?_;rotate_left
   ·go_simp;first|done|with_reducible rfl
   simp only [Act.put, nA, nB, nC];refine tU 2 40 (v := ?_) rfl rfl (fun x hx => ?_) ?_;rotate_left
   ·go_simp;first|done|with_reducible rfl
   simp only [Act.put, nA, nB, nC];refine tU 3 41 (v := ?_) rfl rfl (fun x hx => ?_) ?_;rotate_left
   ·go_simp;first|done|with_reducible rfl
   simp only [Act.put, nA, nB, nC];refine tU 4 42 (v := ?_) rfl rfl (fun x hx => ?_) ?_;rotate_left
   ·have x2 := (hx.cell ⟨B, 2, none⟩ hBW).trans b2; have y1 := (hx.cell ⟨w.heap.size, 1, none⟩ hXW).trans p1; have z3 := (hx.cell ⟨ob, oo + j * 5 + 3, none⟩ hob).trans e3; go_simp;first|done|with_reducible rfl
   simp only [Act.put, nA, nB, nC];refine tU 5 43 (v := ?_) rfl rfl (fun x hx => ?_) ?_;rotate_left
   ·go_simp;first|done|with_reducible rfl
   simp only [Act.put, nA, nB, nC];refine tU 6 44 (v := ?_) rfl rfl (fun x hx => ?_) ?_;rotate_left
   ·have x2 := (hx.cell ⟨B, 2, none⟩ hBW).trans b2; have y1 := (hx.cell ⟨w.heap.size, 1, none⟩ hXW).trans p1; have z3 := (hx.cell ⟨ob, oo + j * 5 + 3, none⟩ hob).trans e3; go_simp;first|done|with_reducible rfl
   simp only [Act.put, nA, nB, nC];refine tU 7 45 (v := ?_) rfl rfl (fun x hx => ?_) ?_;rotate_left
   ·go_simp;first|done|with_reducible rfl|rw[if_neg (by omega)]|rw[if_pos (by omega)]
   simp only [Act.put, nA, nB, nC];refine tU 8 46 (v := ?_) rfl rfl (fun x hx => ?_) ?_;rotate_left
   ·go_simp;first|done|with_reducible rfl
   simp only [Act.put, nA, nB, nC];refine tU 9 47 (v := ?_) rfl rfl (fun x hx => ?_) ?_;rotate_left
   ·have x2 := (hx.cell ⟨B, 2, none⟩ hBW).trans b2; have y1 := (hx.cell ⟨w.heap.size, 1, none⟩ hXW).trans p1; have z3 := (hx.cell ⟨ob, oo + j * 5 + 3, none⟩ hob).trans e3; go_simp;first|done|with_reducible rfl
   simp only [Act.put, nA, nB, nC];refine tU 10 48 (v := ?_) rfl rfl (fun x hx => ?_) ?_;rotate_left
   ·go_simp;first|done|with_reducible rfl
   simp only [Act.put, nA, nB, nC];refine Zbl [_, _] (by kernel_rfl) rfl rfl ?_;simp only [List.getElem_toArray, List.getElem_cons_succ, List.getElem_cons_zero];clear hBW hXW b2 e3 hob;go_wp2_with fail;refine (Zfr m _ _ HM64.o (by omega) (by omega)).mono ?_;rw [HKK.o];rintro e w8 ⟨rfl, rfl⟩
   by_cases hk0 : k < 0
   ·have u0 : decide (k < 0) = true := decide_eq_true hk0;have HQ := zh (show Zbg r x i = (r, vZ, -1) by have K := HKV.o; unfold Zbg; rw [if_neg (by omega), if_pos (by omega), HMI.o]; simp only []; rw [HJ.o, Zck hjl, HKK.o, if_pos hk0]);go_wp2_with fail;have hd := Zau (F := F) (w := w) (R := w.heap.size + 1 + 1) (HS.o.later HLC.o) (by have := HBW.o; rintro ⟨_, h⟩; omega) (fun b hb => .inl hb.1) HFB.o HBW.o (Zbb.later (HL.o.trans HLC.o)) (by omega) [.int .i64 0, .int .i64 0, .int .i64 0, .string ⟨#[]⟩, .int .i64 0, .int .i64 0] 0;simp only [Zp, Nat.zero_add, Nat.reduceAdd] at hd;refine bodyPost_ret (v := .tuple #[.agg #[.int .i64 0, .int .i64 0, .int .i64 0, .string ⟨#[]⟩, .int .i64 0, .int .i64 0], .int .i64 (-1)]) (by simp [results, Tryz.results78, go_sem, z0, fz0, z1, z2, z3, z4, z5]) rfl (by show Zav F w B (Zbg r x i) _ _; rw [HQ.o]; exact ⟨rfl, hd.1, hd.2⟩)
   ·have u0 : decide (k < 0) = false := decide_eq_false hk0;obtain ⟨kn, rfl⟩ : ∃ kn : Nat, k = kn := ⟨k.toNat, by omega⟩;have HQ := zh (show Zbg r x i = (r, ⟨15, (j : Int), (kn : Int), ⟨#[]⟩, ⟨0, 0⟩⟩, 0) by have K := HKV.o; unfold Zbg; rw [if_neg (by omega), if_pos (by omega), HMI.o]; simp only []; rw [HJ.o, Zck hjl, HKK.o, if_neg hk0, if_pos K])
    try rw [HJ.o] at p1
    go_wp2_with fail;have hd := Zau (F := F) (w := w) (R := w.heap.size + 1 + 1) (HS.o.later HLC.o) (by have := HBW.o; rintro ⟨_, h⟩; omega) (fun b hb => .inl hb.1) HFB.o HBW.o (Zbb.later (HL.o.trans HLC.o)) (by omega) [.int .i64 15, .int .i64 (j : Int), .int .i64 (kn : Int), .string ⟨#[]⟩, .int .i64 0, .int .i64 0] 0;simp only [Zp, Nat.zero_add, Nat.reduceAdd] at hd;refine bodyPost_ret (v := .tuple #[.agg #[.int .i64 15, .int .i64 (j : Int), .int .i64 (kn : Int), .string ⟨#[]⟩, .int .i64 0, .int .i64 0], .int .i64 (0)]) (by simp [results, Tryz.results78, go_sem, z0, fz0, z1, z2, z3, z4, z5]) rfl (by show Zav F w B (Zbg r x i) _ _; rw [HQ.o]; exact ⟨rfl, hd.1, hd.2⟩)
 by_cases K7 : x.kind = 7
 ·obtain ⟨j, hj, hjl⟩ := Zdu HDX.o (by rw [K7]; decide);have hjl2 : (j : Int) < (r.aA.length : Int) := by omega
  have HJ := zh hj;have t4 : (x.kind == 4) = false := nH.2 (by omega);have t7 : (x.kind == 7) = true := beq_iff_eq.2 K7;have hit := HIT.o j hjl;have HKV := zh K7;clear K7 hj;obtain ⟨mi, hmi⟩ : ∃ q, Zey i = q := ⟨_, rfl⟩;have HMI := zh hmi;clear hmi
  cases mi with
  | none =>
   have HQ := zh (show Zbg r x i = (r, vZ, 101) by have K := HKV.o; unfold Zbg; rw [if_neg (by omega), if_pos (by omega), HMI.o]);go_enter Tryz.func78, Tryz.ntmps78;go_upto_region 1 with (fail);rw [← hw3];clear hw3;have HXC := zB HLC HXB;have HIC := zB HLC HIB;have HRC := zB HLC HRB;obtain ⟨p0, p1, p2, p3, p4, p5⟩ := cz6 HXC.o;have q0 := cz6 HIC.o;obtain ⟨z0, z1, z2, z3, z4, z5⟩ := cz6 HRC.o;have fz0 := fz HRC.o;go_wp2_with fail;refine (Zbr i _ F _ (Zb.keep (G := F) HI64.o (fun _ h => h) (Zc.later (HL.o.trans HLC.o)))).mono ?_;rw [HMI.o];rintro e w6 ⟨rfl, hcl⟩;clear HXC HIC HRC p0 p1 p2 p3 p4 p5 q0 z0 z1 z2 z3 z4 z5 fz0;replace HLC := zh (HLC.o.trans hcl);clear hcl;have HXC := zB HLC HXB;have HIC := zB HLC HIB;have HRC := zB HLC HRB;obtain ⟨p0, p1, p2, p3, p4, p5⟩ := cz6 HXC.o;have q0 := cz6 HIC.o;obtain ⟨z0, z1, z2, z3, z4, z5⟩ := cz6 HRC.o;have fz0 := fz HRC.o;simp only [Zcc];go_wp2_with fail;have hd := Zau (F := F) (w := w) (R := w.heap.size + 1 + 1) (HS.o.later HLC.o) (by have := HBW.o; rintro ⟨_, h⟩; omega) (fun b hb => .inl hb.1) HFB.o HBW.o (Zbb.later (HL.o.trans HLC.o)) (by omega) [.int .i64 0, .int .i64 0, .int .i64 0, .string ⟨#[]⟩, .int .i64 0, .int .i64 0] 0;simp only [Zp, Nat.zero_add, Nat.reduceAdd] at hd;refine bodyPost_ret (v := .tuple #[.agg #[.int .i64 0, .int .i64 0, .int .i64 0, .string ⟨#[]⟩, .int .i64 0, .int .i64 0], .int .i64 (101)]) (by simp [results, Tryz.results78, go_sem, z0, fz0, z1, z2, z3, z4, z5]) rfl (by show Zav F w B (Zbg r x i) _ _; rw [HQ.o]; exact ⟨rfl, hd.1, hd.2⟩)
  | some m =>
   have HM64 := zh (Zdt HIN.o.2.1 HMI.o);obtain ⟨k, hk⟩ : ∃ k, plc m (r.aA[j].aJ.length : Int) = k := ⟨_, rfl⟩;have hkb := Ze5 (i := m) (n := (r.aA[j].aJ.length : Int)) (by omega);rw [hk] at hkb;have HKK := zh hk;clear hk;go_enter Tryz.func78, Tryz.ntmps78;go_upto_region 1 with (fail);rw [← hw3];clear hw3;have HXC := zB HLC HXB;have HIC := zB HLC HIB;have HRC := zB HLC HRB;obtain ⟨p0, p1, p2, p3, p4, p5⟩ := cz6 HXC.o;have q0 := cz6 HIC.o;obtain ⟨z0, z1, z2, z3, z4, z5⟩ := cz6 HRC.o;have fz0 := fz HRC.o;go_wp2_with fail;refine (Zbr i _ F _ (Zb.keep (G := F) HI64.o (fun _ h => h) (Zc.later (HL.o.trans HLC.o)))).mono ?_;rw [HMI.o];rintro e w6 ⟨rfl, hcl⟩;clear HXC HIC HRC p0 p1 p2 p3 p4 p5 q0 z0 z1 z2 z3 z4 z5 fz0;replace HLC := zh (HLC.o.trans hcl);clear hcl;have HXC := zB HLC HXB;have HIC := zB HLC HIB;have HRC := zB HLC HRB;obtain ⟨p0, p1, p2, p3, p4, p5⟩ := cz6 HXC.o;have q0 := cz6 HIC.o;obtain ⟨z0, z1, z2, z3, z4, z5⟩ := cz6 HRC.o;have fz0 := fz HRC.o;simp only [Zcc];go_upto_region 7 with (fail);refine Zbd [11, 12] [] (by kernel_rfl) (fun W hW => ?_);have hWL := (show Za _ W by rw [hW]; exact (Za.refl _).drew);clear hW;clear HXC HIC HRC p0 p1 p2 p3 p4 p5 q0 z0 z1 z2 z3 z4 z5 fz0;replace HLC := zh (HLC.o.trans hWL);clear hWL;have HXC := zB HLC HXB;have HIC := zB HLC HIB;have HRC := zB HLC HRB;obtain ⟨p0, p1, p2, p3, p4, p5⟩ := cz6 HXC.o
   have q0 := cz6 HIC.o;obtain ⟨z0, z1, z2, z3, z4, z5⟩ := cz6 HRC.o;have fz0 := fz HRC.o;rw [HJ.o] at p1;obtain ⟨Ao, co, b2, hco, hcmo, hro⟩ := (HS.o.later HLC.o).at_.aA;unfold maxLen at hcmo;obtain ⟨ob, oo, Aj, cj, Ajk, cjk, eo, hob, _, _, _, e3, _, hrj, _⟩ := Zai.obj hro hjl;cases eo;obtain ⟨Aj2, cj2, ej, hcj, hcmj, _⟩ := id hrj;cases ej;unfold maxLen at hcmj;have hBW := (HS.o.later HLC.o).lt;have hXW := Zd HXC.o;clear hro hrj;refine tU 0 38 (v := ?_) rfl rfl (fun x hx => ?_) ?_;rotate_left
   ·go_simp;first|done|with_reducible rfl
   simp only [Act.put, nA, nB, nC];refine tU 1 39 (v := ?_) rfl rfl (fun x hx => ?_) ?_;rotate_left
   ·go_simp;first|done|with_reducible rfl
   simp only [Act.put, nA, nB, nC];refine tU 2 40 (v := ?_) rfl rfl (fun x hx => ?_) ?_;rotate_left
   ·go_simp;first|done|with_reducible rfl
   simp only [Act.put, nA, nB, nC];refine tU 3 41 (v := ?_) rfl rfl (fun x hx => ?_) ?_;rotate_left
   ·go_simp;first|done|with_reducible rfl
   simp only [Act.put, nA, nB, nC];refine tU 4 42 (v := ?_) rfl rfl (fun x hx => ?_) ?_;rotate_left
   ·have x2 := (hx.cell ⟨B, 2, none⟩ hBW).trans b2; have y1 := (hx.cell ⟨w.heap.size, 1, none⟩ hXW).trans p1; have z3 := (hx.cell ⟨ob, oo + j * 5 + 3, none⟩ hob).trans e3; go_simp;first|done|with_reducible rfl
   simp only [Act.put, nA, nB, nC];refine tU 5 43 (v := ?_) rfl rfl (fun x hx => ?_) ?_;rotate_left
   ·go_simp;first|done|with_reducible rfl
   simp only [Act.put, nA, nB, nC];refine tU 6 44 (v := ?_) rfl rfl (fun x hx => ?_) ?_;rotate_left
   ·have x2 := (hx.cell ⟨B, 2, none⟩ hBW).trans b2; have y1 := (hx.cell ⟨w.heap.size, 1, none⟩ hXW).trans p1; have z3 := (hx.cell ⟨ob, oo + j * 5 + 3, none⟩ hob).trans e3; go_simp;first|done|with_reducible rfl
   simp only [Act.put, nA, nB, nC];refine tU 7 45 (v := ?_) rfl rfl (fun x hx => ?_) ?_;rotate_left
   ·go_simp;first|done|with_reducible rfl|rw[if_neg (by omega)]|rw[if_pos (by omega)]
   simp only [Act.put, nA, nB, nC];refine tU 8 46 (v := ?_) rfl rfl (fun x hx => ?_) ?_;rotate_left
   ·go_simp;first|done|with_reducible rfl
   simp only [Act.put, nA, nB, nC];refine tU 9 47 (v := ?_) rfl rfl (fun x hx => ?_) ?_;rotate_left
   ·have x2 := (hx.cell ⟨B, 2, none⟩ hBW).trans b2; have y1 := (hx.cell ⟨w.heap.size, 1, none⟩ hXW).trans p1; have z3 := (hx.cell ⟨ob, oo + j * 5 + 3, none⟩ hob).trans e3; go_simp;first|done|with_reducible rfl
   simp only [Act.put, nA, nB, nC];refine tU 10 48 (v := ?_) rfl rfl (fun x hx => ?_) ?_;rotate_left
   ·go_simp;first|done|with_reducible rfl
   simp only [Act.put, nA, nB, nC];refine Zbl [_, _] (by kernel_rfl) rfl rfl ?_;simp only [List.getElem_toArray, List.getElem_cons_succ, List.getElem_cons_zero];clear hBW hXW b2 e3 hob;go_wp2_with fail;refine (Zfr m _ _ HM64.o (by omega) (by omega)).mono ?_;rw [HKK.o];rintro e w8 ⟨rfl, rfl⟩
   by_cases hk0 : k < 0
   ·have u0 : decide (k < 0) = true := decide_eq_true hk0;have HQ := zh (show Zbg r x i = (r, vZ, -1) by have K := HKV.o; unfold Zbg; rw [if_neg (by omega), if_pos (by omega), HMI.o]; simp only []; rw [HJ.o, Zck hjl, HKK.o, if_pos hk0]);go_wp2_with fail;have hd := Zau (F := F) (w := w) (R := w.heap.size + 1 + 1) (HS.o.later HLC.o) (by have := HBW.o; rintro ⟨_, h⟩; omega) (fun b hb => .inl hb.1) HFB.o HBW.o (Zbb.later (HL.o.trans HLC.o)) (by omega) [.int .i64 0, .int .i64 0, .int .i64 0, .string ⟨#[]⟩, .int .i64 0, .int .i64 0] 0;simp only [Zp, Nat.zero_add, Nat.reduceAdd] at hd;refine bodyPost_ret (v := .tuple #[.agg #[.int .i64 0, .int .i64 0, .int .i64 0, .string ⟨#[]⟩, .int .i64 0, .int .i64 0], .int .i64 (-1)]) (by simp [results, Tryz.results78, go_sem, z0, fz0, z1, z2, z3, z4, z5]) rfl (by show Zav F w B (Zbg r x i) _ _; rw [HQ.o]; exact ⟨rfl, hd.1, hd.2⟩)
   ·have u0 : decide (k < 0) = false := decide_eq_false hk0;obtain ⟨kn, rfl⟩ : ∃ kn : Nat, k = kn := ⟨k.toNat, by omega⟩;have HQ := zh (show Zbg r x i = (r, ⟨16, (j : Int), (kn : Int), ⟨#[]⟩, ⟨0, 0⟩⟩, 0) by have K := HKV.o; unfold Zbg; rw [if_neg (by omega), if_pos (by omega), HMI.o]; simp only []; rw [HJ.o, Zck hjl, HKK.o, if_neg hk0, if_neg (by omega)])
    try rw [HJ.o] at p1
    go_wp2_with fail;have hd := Zau (F := F) (w := w) (R := w.heap.size + 1 + 1) (HS.o.later HLC.o) (by have := HBW.o; rintro ⟨_, h⟩; omega) (fun b hb => .inl hb.1) HFB.o HBW.o (Zbb.later (HL.o.trans HLC.o)) (by omega) [.int .i64 16, .int .i64 (j : Int), .int .i64 (kn : Int), .string ⟨#[]⟩, .int .i64 0, .int .i64 0] 0;simp only [Zp, Nat.zero_add, Nat.reduceAdd] at hd;refine bodyPost_ret (v := .tuple #[.agg #[.int .i64 16, .int .i64 (j : Int), .int .i64 (kn : Int), .string ⟨#[]⟩, .int .i64 0, .int .i64 0], .int .i64 (0)]) (by simp [results, Tryz.results78, go_sem, z0, fz0, z1, z2, z3, z4, z5]) rfl (by show Zav F w B (Zbg r x i) _ _; rw [HQ.o]; exact ⟨rfl, hd.1, hd.2⟩)
 have t4 : (x.kind == 4) = false := nH.2 K4;have t7 : (x.kind == 7) = false := nH.2 K7;obtain ⟨xt, hxt⟩ : ∃ q, Zeq x = q := ⟨_, rfl⟩;have HXT := zh hxt;clear hxt;obtain ⟨mi, hmi⟩ : ∃ q, Zey i = q := ⟨_, rfl⟩;have HMI := zh hmi;clear hmi
 cases xt with
 | none =>
  have HQ := zh (show Zbg r x i = (r, vZ, 114) by unfold Zbg; rw [if_neg k5, if_neg (by omega), HXT.o])
  cases mi with
  | none =>
   go_enter Tryz.func78, Tryz.ntmps78;go_upto_region 1 with (fail);rw [← hw3];clear hw3;have HXC := zB HLC HXB;have HIC := zB HLC HIB;have HRC := zB HLC HRB;obtain ⟨p0, p1, p2, p3, p4, p5⟩ := cz6 HXC.o;have q0 := cz6 HIC.o;obtain ⟨z0, z1, z2, z3, z4, z5⟩ := cz6 HRC.o;have fz0 := fz HRC.o;go_wp2_with fail;refine (Zbr i _ F _ (Zb.keep (G := F) HI64.o (fun _ h => h) (Zc.later (HL.o.trans HLC.o)))).mono ?_;rw [HMI.o];rintro e w6 ⟨rfl, hcl⟩;clear HXC HIC HRC p0 p1 p2 p3 p4 p5 q0 z0 z1 z2 z3 z4 z5 fz0;replace HLC := zh (HLC.o.trans hcl);clear hcl;have HXC := zB HLC HXB;have HIC := zB HLC HIB;have HRC := zB HLC HRB;obtain ⟨p0, p1, p2, p3, p4, p5⟩ := cz6 HXC.o;have q0 := cz6 HIC.o;obtain ⟨z0, z1, z2, z3, z4, z5⟩ := cz6 HRC.o;have fz0 := fz HRC.o;simp only [Zcc];go_wp2_with fail;refine (Zdg x _ F _ (Zb.keep (G := F) HX64.o (fun _ h => h) (Zc.later (HL.o.trans HLC.o)))).mono ?_;rw [HXT.o];rintro e w7 ⟨rfl, hcl⟩;clear HXC HIC HRC p0 p1 p2 p3 p4 p5 q0 z0 z1 z2 z3 z4 z5 fz0;replace HLC := zh (HLC.o.trans hcl);clear hcl;have HXC := zB HLC HXB;have HIC := zB HLC HIB;have HRC := zB HLC HRB;obtain ⟨p0, p1, p2, p3, p4, p5⟩ := cz6 HXC.o;have q0 := cz6 HIC.o;obtain ⟨z0, z1, z2, z3, z4, z5⟩ := cz6 HRC.o;have fz0 := fz HRC.o;simp only [Zex];go_wp2_with fail;have hd := Zau (F := F) (w := w) (R := w.heap.size + 1 + 1) (HS.o.later HLC.o) (by have := HBW.o; rintro ⟨_, h⟩; omega) (fun b hb => .inl hb.1) HFB.o HBW.o (Zbb.later (HL.o.trans HLC.o)) (by omega) [.int .i64 0, .int .i64 0, .int .i64 0, .string ⟨#[]⟩, .int .i64 0, .int .i64 0] 0
   simp only [Zp, Nat.zero_add, Nat.reduceAdd] at hd;refine bodyPost_ret (v := .tuple #[.agg #[.int .i64 0, .int .i64 0, .int .i64 0, .string ⟨#[]⟩, .int .i64 0, .int .i64 0], .int .i64 (114)]) (by simp [results, Tryz.results78, go_sem, z0, fz0, z1, z2, z3, z4, z5]) rfl (by show Zav F w B (Zbg r x i) _ _; rw [HQ.o]; exact ⟨rfl, hd.1, hd.2⟩)
  | some m =>
   go_enter Tryz.func78, Tryz.ntmps78;go_upto_region 1 with (fail);rw [← hw3];clear hw3;have HXC := zB HLC HXB;have HIC := zB HLC HIB;have HRC := zB HLC HRB;obtain ⟨p0, p1, p2, p3, p4, p5⟩ := cz6 HXC.o;have q0 := cz6 HIC.o;obtain ⟨z0, z1, z2, z3, z4, z5⟩ := cz6 HRC.o;have fz0 := fz HRC.o;go_wp2_with fail;refine (Zbr i _ F _ (Zb.keep (G := F) HI64.o (fun _ h => h) (Zc.later (HL.o.trans HLC.o)))).mono ?_;rw [HMI.o];rintro e w6 ⟨rfl, hcl⟩;clear HXC HIC HRC p0 p1 p2 p3 p4 p5 q0 z0 z1 z2 z3 z4 z5 fz0;replace HLC := zh (HLC.o.trans hcl);clear hcl;have HXC := zB HLC HXB;have HIC := zB HLC HIB;have HRC := zB HLC HRB;obtain ⟨p0, p1, p2, p3, p4, p5⟩ := cz6 HXC.o;have q0 := cz6 HIC.o;obtain ⟨z0, z1, z2, z3, z4, z5⟩ := cz6 HRC.o;have fz0 := fz HRC.o;simp only [Zcc];go_wp2_with fail;refine (Zdg x _ F _ (Zb.keep (G := F) HX64.o (fun _ h => h) (Zc.later (HL.o.trans HLC.o)))).mono ?_;rw [HXT.o];rintro e w7 ⟨rfl, hcl⟩;clear HXC HIC HRC p0 p1 p2 p3 p4 p5 q0 z0 z1 z2 z3 z4 z5 fz0;replace HLC := zh (HLC.o.trans hcl);clear hcl;have HXC := zB HLC HXB;have HIC := zB HLC HIB;have HRC := zB HLC HRB;obtain ⟨p0, p1, p2, p3, p4, p5⟩ := cz6 HXC.o;have q0 := cz6 HIC.o;obtain ⟨z0, z1, z2, z3, z4, z5⟩ := cz6 HRC.o;have fz0 := fz HRC.o;simp only [Zex];go_wp2_with fail;have hd := Zau (F := F) (w := w) (R := w.heap.size + 1 + 1) (HS.o.later HLC.o) (by have := HBW.o; rintro ⟨_, h⟩; omega) (fun b hb => .inl hb.1) HFB.o HBW.o (Zbb.later (HL.o.trans HLC.o)) (by omega) [.int .i64 0, .int .i64 0, .int .i64 0, .string ⟨#[]⟩, .int .i64 0, .int .i64 0] 0
   simp only [Zp, Nat.zero_add, Nat.reduceAdd] at hd;refine bodyPost_ret (v := .tuple #[.agg #[.int .i64 0, .int .i64 0, .int .i64 0, .string ⟨#[]⟩, .int .i64 0, .int .i64 0], .int .i64 (114)]) (by simp [results, Tryz.results78, go_sem, z0, fz0, z1, z2, z3, z4, z5]) rfl (by show Zav F w B (Zbg r x i) _ _; rw [HQ.o]; exact ⟨rfl, hd.1, hd.2⟩)
 | some t =>
  have hts := Zjb HDX.o HIN.o.1 HXT.o
  cases mi with
  | none =>
   have HQ := zh (show Zbg r x i = (r, vZ, 101) by unfold Zbg; rw [if_neg k5, if_neg (by omega), HXT.o]; simp only []; rw [HMI.o]);go_enter Tryz.func78, Tryz.ntmps78;go_upto_region 1 with (fail);rw [← hw3];clear hw3;have HXC := zB HLC HXB;have HIC := zB HLC HIB;have HRC := zB HLC HRB;obtain ⟨p0, p1, p2, p3, p4, p5⟩ := cz6 HXC.o;have q0 := cz6 HIC.o;obtain ⟨z0, z1, z2, z3, z4, z5⟩ := cz6 HRC.o;have fz0 := fz HRC.o;go_wp2_with fail;refine (Zbr i _ F _ (Zb.keep (G := F) HI64.o (fun _ h => h) (Zc.later (HL.o.trans HLC.o)))).mono ?_;rw [HMI.o];rintro e w6 ⟨rfl, hcl⟩;clear HXC HIC HRC p0 p1 p2 p3 p4 p5 q0 z0 z1 z2 z3 z4 z5 fz0;replace HLC := zh (HLC.o.trans hcl);clear hcl;have HXC := zB HLC HXB;have HIC := zB HLC HIB;have HRC := zB HLC HRB;obtain ⟨p0, p1, p2, p3, p4, p5⟩ := cz6 HXC.o;have q0 := cz6 HIC.o;obtain ⟨z0, z1, z2, z3, z4, z5⟩ := cz6 HRC.o;have fz0 := fz HRC.o;simp only [Zcc];go_wp2_with fail;refine (Zdg x _ F _ (Zb.keep (G := F) HX64.o (fun _ h => h) (Zc.later (HL.o.trans HLC.o)))).mono ?_;rw [HXT.o];rintro e w7 ⟨rfl, hcl⟩;clear HXC HIC HRC p0 p1 p2 p3 p4 p5 q0 z0 z1 z2 z3 z4 z5 fz0;replace HLC := zh (HLC.o.trans hcl);clear hcl;have HXC := zB HLC HXB;have HIC := zB HLC HIB;have HRC := zB HLC HRB;obtain ⟨p0, p1, p2, p3, p4, p5⟩ := cz6 HXC.o;have q0 := cz6 HIC.o;obtain ⟨z0, z1, z2, z3, z4, z5⟩ := cz6 HRC.o;have fz0 := fz HRC.o
   simp only [Zex];go_wp2_with fail;have hd := Zau (F := F) (w := w) (R := w.heap.size + 1 + 1) (HS.o.later HLC.o) (by have := HBW.o; rintro ⟨_, h⟩; omega) (fun b hb => .inl hb.1) HFB.o HBW.o (Zbb.later (HL.o.trans HLC.o)) (by omega) [.int .i64 0, .int .i64 0, .int .i64 0, .string ⟨#[]⟩, .int .i64 0, .int .i64 0] 0;simp only [Zp, Nat.zero_add, Nat.reduceAdd] at hd;refine bodyPost_ret (v := .tuple #[.agg #[.int .i64 0, .int .i64 0, .int .i64 0, .string ⟨#[]⟩, .int .i64 0, .int .i64 0], .int .i64 (101)]) (by simp [results, Tryz.results78, go_sem, z0, fz0, z1, z2, z3, z4, z5]) rfl (by show Zav F w B (Zbg r x i) _ _; rw [HQ.o]; exact ⟨rfl, hd.1, hd.2⟩)
  | some m =>
   have HM64 := zh (Zdt HIN.o.2.1 HMI.o);obtain ⟨k, hk⟩ : ∃ k, plc m (t.size : Int) = k := ⟨_, rfl⟩;have hkb := Ze5 (i := m) (n := (t.size : Int)) (by omega);rw [hk] at hkb;have HKK := zh hk;clear hk;go_enter Tryz.func78, Tryz.ntmps78;go_upto_region 1 with (fail);rw [← hw3];clear hw3;have HXC := zB HLC HXB;have HIC := zB HLC HIB;have HRC := zB HLC HRB;obtain ⟨p0, p1, p2, p3, p4, p5⟩ := cz6 HXC.o;have q0 := cz6 HIC.o;obtain ⟨z0, z1, z2, z3, z4, z5⟩ := cz6 HRC.o;have fz0 := fz HRC.o;go_wp2_with fail;refine (Zbr i _ F _ (Zb.keep (G := F) HI64.o (fun _ h => h) (Zc.later (HL.o.trans HLC.o)))).mono ?_;rw [HMI.o];rintro e w6 ⟨rfl, hcl⟩;clear HXC HIC HRC p0 p1 p2 p3 p4 p5 q0 z0 z1 z2 z3 z4 z5 fz0;replace HLC := zh (HLC.o.trans hcl);clear hcl;have HXC := zB HLC HXB;have HIC := zB HLC HIB;have HRC := zB HLC HRB;obtain ⟨p0, p1, p2, p3, p4, p5⟩ := cz6 HXC.o;have q0 := cz6 HIC.o;obtain ⟨z0, z1, z2, z3, z4, z5⟩ := cz6 HRC.o;have fz0 := fz HRC.o;simp only [Zcc];go_wp2_with fail;refine (Zdg x _ F _ (Zb.keep (G := F) HX64.o (fun _ h => h) (Zc.later (HL.o.trans HLC.o)))).mono ?_;rw [HXT.o];rintro e w7 ⟨rfl, hcl⟩;clear HXC HIC HRC p0 p1 p2 p3 p4 p5 q0 z0 z1 z2 z3 z4 z5 fz0;replace HLC := zh (HLC.o.trans hcl);clear hcl;have HXC := zB HLC HXB;have HIC := zB HLC HIB;have HRC := zB HLC HRB;obtain ⟨p0, p1, p2, p3, p4, p5⟩ := cz6 HXC.o;have q0 := cz6 HIC.o
   obtain ⟨z0, z1, z2, z3, z4, z5⟩ := cz6 HRC.o;have fz0 := fz HRC.o;simp only [Zex];go_wp2_with fail;refine (Zfr m _ _ HM64.o (by omega) (by omega)).mono ?_;rw [HKK.o];rintro e w8 ⟨rfl, rfl⟩
   by_cases hk0 : k < 0
   ·have u0 : decide (k < 0) = true := decide_eq_true hk0;have HQ := zh (show Zbg r x i = (r, vZ, -1) by unfold Zbg; rw [if_neg k5, if_neg (by omega), HXT.o]; simp only []; rw [HMI.o]; simp only []; rw [HKK.o, if_pos hk0]);go_wp2_with fail;have hd := Zau (F := F) (w := w) (R := w.heap.size + 1 + 1) (HS.o.later HLC.o) (by have := HBW.o; rintro ⟨_, h⟩; omega) (fun b hb => .inl hb.1) HFB.o HBW.o (Zbb.later (HL.o.trans HLC.o)) (by omega) [.int .i64 0, .int .i64 0, .int .i64 0, .string ⟨#[]⟩, .int .i64 0, .int .i64 0] 0;simp only [Zp, Nat.zero_add, Nat.reduceAdd] at hd;refine bodyPost_ret (v := .tuple #[.agg #[.int .i64 0, .int .i64 0, .int .i64 0, .string ⟨#[]⟩, .int .i64 0, .int .i64 0], .int .i64 (-1)]) (by simp [results, Tryz.results78, go_sem, z0, fz0, z1, z2, z3, z4, z5]) rfl (by show Zav F w B (Zbg r x i) _ _; rw [HQ.o]; exact ⟨rfl, hd.1, hd.2⟩)
   ·have u0 : decide (k < 0) = false := decide_eq_false hk0;obtain ⟨kn, rfl⟩ : ∃ kn : Nat, k = kn := ⟨k.toNat, by omega⟩;have HQ := zh (show Zbg r x i = (r, ⟨2, 0, 0, t.extract kn (kn + 1), ⟨0, 0⟩⟩, 0) by unfold Zbg; rw [if_neg k5, if_neg (by omega), HXT.o]; simp only []; rw [HMI.o]; simp only []; rw [HKK.o, if_neg hk0]; rfl);go_wp2_with fail;refine (Znp (t.extract kn (kn + 1)) _).mono ?_;rintro e w9 ⟨rfl, hcl⟩;clear HXC HIC HRC p0 p1 p2 p3 p4 p5 q0 z0 z1 z2 z3 z4 z5 fz0;replace HLC := zh (HLC.o.trans hcl);clear hcl;have HXC := zB HLC HXB;have HIC := zB HLC HIB;have HRC := zB HLC HRB;obtain ⟨p0, p1, p2, p3, p4, p5⟩ := cz6 HXC.o;have q0 := cz6 HIC.o;obtain ⟨z0, z1, z2, z3, z4, z5⟩ := cz6 HRC.o;have fz0 := fz HRC.o;go_wp2_with fail;have hd := Zau (F := F) (w := w) (R := w.heap.size + 1 + 1) (HS.o.later HLC.o) (by have := HBW.o; rintro ⟨_, h⟩; omega) (fun b hb => .inl hb.1) HFB.o HBW.o (Zbb.later (HL.o.trans HLC.o)) (by omega) [.int .i64 2, .int .i64 0, .int .i64 0, .string (t.extract kn (kn + 1)), .int .i64 0, .int .i64 0] 0;simp only [Zp, Nat.zero_add, Nat.reduceAdd] at hd;refine bodyPost_ret (v := .tuple #[.agg #[.int .i64 2, .int .i64 0, .int .i64 0, .string (t.extract kn (kn + 1)), .int .i64 0, .int .i64 0], .int .i64 (0)]) (by simp [results, Tryz.results78, go_sem, z0, fz0, z1, z2, z3, z4, z5]) rfl (by show Zav F w B (Zbg r x i) _ _; rw [HQ.o]; exact ⟨rfl, hd.1, hd.2⟩)
end Go.Proofs.YtpmhelkiicigfaaGreatDoor
