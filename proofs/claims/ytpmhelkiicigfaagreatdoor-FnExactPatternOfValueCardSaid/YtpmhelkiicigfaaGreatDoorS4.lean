/- Part of the walks that the claim stands on. -/
import Derived.Test.YtpmhelkiicigfaaGreatDoorS2
import Derived.Test.YtpmhelkiicigfaaGreatDoorS3
import Derived.Test.YtpmhelkiicigfaaGreatDoorS1
import Derived.Deep.LoopGhost
import Derived.Deep.DeepCutAuto
import Derived.Deep.CutBlock
import Derived.Test.YtpmhelkiicigfaaGreatDoorChecked
set_option maxRecDepth 100000
set_option maxHeartbeats 40000000
namespace Go.Proofs.YtpmhelkiicigfaaGreatDoor
open Go.RowKit
theorem Zg0 (r : Zf) (cs : List Value) (F : Nat → Prop) (w : World) (hsz : Zav r ≤ 1048576) (h : Zcf F w r cs) :
  Calls Tryz.prog 45 #[.agg cs.toArray] w fun e w' => e = .returned (.bool (Zap r)) ∧ Below w.heap.size w w' := by
 obtain ⟨R, hR⟩ : ∃ R, Zap r = R := ⟨_, rfl⟩;rw [hR];have HR0 := zh hR;clear hR;have hel := h;obtain ⟨aL, aM, aN, aO, aP, aQ, aR, rfl, aV, aW, aX, aY, aZ, bA, bB, bC, bD, bE, bF, bG⟩ := h;obtain ⟨An, cn, rfl, kn, ln, _⟩ := id aV;obtain ⟨Ar, cr, rfl, kr, lr, _⟩ := id aW;obtain ⟨Ao, co, rfl, ko, lo, _⟩ := id aX;obtain ⟨Ag, cg, rfl, kg, lg, _⟩ := id aY;obtain ⟨Au, cu, rfl, ku, lu, _⟩ := id bB;obtain ⟨At, ct, rfl, kt, lt, _⟩ := id bC;obtain ⟨Aa, ca, rfl, ka, la, _⟩ := id bD;unfold maxLen at ln lr lo lg lu lt la;have HSO : Hd (∀ j (h : j < r.aA.length), r.aA[j].aK.length ≤ 1048576) := zh (fun j h => by
  have hz : Zk ByteArray.size r.names + (Zk Zp r.aB + (Zk Zs r.aA + (Zk Zw r.globals + (r.aC.size + (Zk ByteArray.size r.output + (Zk ByteArray.size r.trace + (Zk (fun _ => 0) r.aE))))))) ≤ 1048576 := hsz;have h1 : Zk Zs r.aA = r.aA.length + Za0 Zs r.aA := rfl;have h2 := Zdz Zs r.aA _ (List.getElem_mem h);have h3 : Zs r.aA[j] = (r.aA[j].aJ.length + Za0 Zw r.aA[j].aJ) + (r.aA[j].aK.length + Za0 Zw r.aA[j].aK) := rfl
  omega)
 have HOL : Hd (r.aA.length ≤ 1048576) := zh (by
  have hz : Zk ByteArray.size r.names + (Zk Zp r.aB + (Zk Zs r.aA + (Zk Zw r.globals + (r.aC.size + (Zk ByteArray.size r.output + (Zk ByteArray.size r.trace + (Zk (fun _ => 0) r.aE))))))) ≤ 1048576 := hsz;have h1 : Zk Zs r.aA = r.aA.length + Za0 Zs r.aA := rfl
  omega)
 have HSL : Hd (r.aC.size ≤ 1048576) := zh (by
  have hz : Zk ByteArray.size r.names + (Zk Zp r.aB + (Zk Zs r.aA + (Zk Zw r.globals + (r.aC.size + (Zk ByteArray.size r.output + (Zk ByteArray.size r.trace + (Zk (fun _ => 0) r.aE))))))) ≤ 1048576 := hsz
  omega)
 have hl1 := (Za.refl w).alloc (.cells #[.slice An r.names.length cn, .slice Ar r.aB.length cr, .slice Ao r.aA.length co, .slice Ag r.globals.length cg, .string r.aC, .int .i64 r.aD, .slice Au r.output.length cu, .slice At r.trace.length ct, .slice Aa r.aE.length ca, .bool r.aF, .int .i64 r.ticks, .int .i64 r.aG, .int .i64 r.made] 30);have HEL := zh hel;have HQn := zh aV;have HQr := zh aW;have HQo := zh aX;have HQg := zh aY;have HQu := zh bB;have HQt := zh bC;have HQa := zh bD;have HP64 := zh (show Zy r.aD ∧ Zy r.ticks ∧ Zy r.aG ∧ Zy r.made from ⟨bA, bE, bF, bG⟩);have HM := zh (heap_alloc_new w (.cells #[.slice An r.names.length cn, .slice Ar r.aB.length cr, .slice Ao r.aA.length co, .slice Ag r.globals.length cg, .string r.aC, .int .i64 r.aD, .slice Au r.output.length cu, .slice At r.trace.length ct, .slice Aa r.aE.length ca, .bool r.aF, .int .i64 r.ticks, .int .i64 r.aG, .int .i64 r.made] 30));have HB := zh (show Below w.heap.size w _ from hl1);obtain ⟨M, hM⟩ : ∃ M, w.heap.size = M := ⟨_, rfl⟩;obtain ⟨w1, hw1⟩ : ∃ x, x = w.alloc (.cells #[.slice An r.names.length cn, .slice Ar r.aB.length cr, .slice Ao r.aA.length co, .slice Ag r.globals.length cg, .string r.aC, .int .i64 r.aD, .slice Au r.output.length cu, .slice At r.trace.length ct, .slice Aa r.aE.length ca, .bool r.aF, .int .i64 r.ticks, .int .i64 r.aG, .int .i64 r.made] 30) := ⟨_, rfl⟩
 rw [← hw1] at HM HB;rw [hM] at HM;clear hel hl1 hsz aV aW aX aY aZ bA bB bC bD bE bF bG;obtain ⟨n12, hn12⟩ : ∃ q, (decide (r.names.length ≤ 12)) = q := ⟨_, rfl⟩;have W0n12 : (decide (12 < (r.names.length : Int))) = !n12 := by rw [← hn12]; exact (by rw [Bool.eq_iff_iff]; simp only [nJ, nK, nL, ne_eq, nM, nI, nH] <;> omega)
 obtain ⟨nm, hnm⟩ : ∃ q, (r.names.all Zb5) = q := ⟨_, rfl⟩;obtain ⟨r8, hr8⟩ : ∃ q, (decide (r.aB.length ≤ 8)) = q := ⟨_, rfl⟩;have W0r8 : (decide (8 < (r.aB.length : Int))) = !r8 := by rw [← hr8]; exact (by rw [Bool.eq_iff_iff]; simp only [nJ, nK, nL, ne_eq, nM, nI, nH] <;> omega)
 obtain ⟨rok, hrok⟩ : ∃ q, (r.aB.all Ze4) = q := ⟨_, rfl⟩;obtain ⟨g12, hg12⟩ : ∃ q, (decide (r.globals.length ≤ 12)) = q := ⟨_, rfl⟩;have W0g12 : (decide (12 < (r.globals.length : Int))) = !g12 := by rw [← hg12]; exact (by rw [Bool.eq_iff_iff]; simp only [nJ, nK, nL, ne_eq, nM, nI, nH] <;> omega)
 obtain ⟨s120, hs120⟩ : ∃ q, (decide (r.aC.size ≤ 120)) = q := ⟨_, rfl⟩;have W0s120 : (decide (120 < (r.aC.size : Int))) = !s120 := by rw [← hs120]; exact (by rw [Bool.eq_iff_iff]; simp only [nJ, nK, nL, ne_eq, nM, nI, nH] <;> omega)
 obtain ⟨p1, hp1⟩ : ∃ q, (decide (1 ≤ r.aD)) = q := ⟨_, rfl⟩;have W0p1 : (decide (r.aD < 1)) = !p1 := by rw [← hp1]; exact (by rw [Bool.eq_iff_iff]; simp only [nJ, nK, nL, ne_eq, nM, nI, nH] <;> omega)
 obtain ⟨p2, hp2⟩ : ∃ q, (decide (r.aD ≤ (r.aC.size : Int) + 1)) = q := ⟨_, rfl⟩;have W0p2 : (decide ((r.aC.size : Int) + 1 < r.aD)) = !p2 := by rw [← hp2]; exact (by rw [Bool.eq_iff_iff]; simp only [nJ, nK, nL, ne_eq, nM, nI, nH] <;> omega)
 obtain ⟨a40, ha40⟩ : ∃ q, (decide (r.aE.length ≤ 40)) = q := ⟨_, rfl⟩;have W0a40 : (decide (40 < (r.aE.length : Int))) = !a40 := by rw [← ha40]; exact (by rw [Bool.eq_iff_iff]; simp only [nJ, nK, nL, ne_eq, nM, nI, nH] <;> omega)
 obtain ⟨acts, hacts⟩ : ∃ q, (r.aE.all (Zcy r)) = q := ⟨_, rfl⟩;obtain ⟨outs, houts⟩ : ∃ q, (r.output.all Zgn) = q := ⟨_, rfl⟩;obtain ⟨b0, hb0⟩ : ∃ q, (decide (0 ≤ r.aG)) = q := ⟨_, rfl⟩;have W0b0 : (decide (r.aG < 0)) = !b0 := by rw [← hb0]; exact (by rw [Bool.eq_iff_iff]; simp only [nJ, nK, nL, ne_eq, nM, nI, nH] <;> omega)
 obtain ⟨b4, hb4⟩ : ∃ q, (decide (r.aG ≤ 4000)) = q := ⟨_, rfl⟩;have W0b4 : (decide (4000 < r.aG)) = !b4 := by rw [← hb4]; exact (by rw [Bool.eq_iff_iff]; simp only [nJ, nK, nL, ne_eq, nM, nI, nH] <;> omega)
 obtain ⟨t0, ht0⟩ : ∃ q, (decide (0 ≤ r.ticks)) = q := ⟨_, rfl⟩;have W0t0 : (decide (r.ticks < 0)) = !t0 := by rw [← ht0]; exact (by rw [Bool.eq_iff_iff]; simp only [nJ, nK, nL, ne_eq, nM, nI, nH] <;> omega)
 obtain ⟨tb, htb⟩ : ∃ q, (decide (r.ticks ≤ r.aG)) = q := ⟨_, rfl⟩;have W0tb : (decide (r.aG < r.ticks)) = !tb := by rw [← htb]; exact (by rw [Bool.eq_iff_iff]; simp only [nJ, nK, nL, ne_eq, nM, nI, nH] <;> omega)
 obtain ⟨m0_, hm0_⟩ : ∃ q, (decide (0 ≤ r.made)) = q := ⟨_, rfl⟩;have W0m0_ : (decide (r.made < 0)) = !m0_ := by rw [← hm0_]; exact (by rw [Bool.eq_iff_iff]; simp only [nJ, nK, nL, ne_eq, nM, nI, nH] <;> omega)
 obtain ⟨gl, hgl⟩ : ∃ q, (Zao r r.globals) = q := ⟨_, rfl⟩;obtain ⟨objs, hobjs⟩ : ∃ q, (r.aA.all (Zai r)) = q := ⟨_, rfl⟩;obtain ⟨sers, hsers⟩ : ∃ q, (Zcp r.aA) = q := ⟨_, rfl⟩;have HR := zh (show R = (n12 && (nm && (r8 && (rok && (g12 && (s120 && (p1 && (p2 && (a40 && (acts && (outs && (b0 && (b4 && (t0 && (tb && (m0_ && (gl && (objs && (sers))))))))))))))))))) by rw [← HR0.o, ← hn12, ← hnm, ← hr8, ← hrok, ← hg12, ← hs120, ← hp1, ← hp2, ← ha40, ← hacts, ← houts, ← hb0, ← hb4, ← ht0, ← htb, ← hm0_, ← hgl, ← hobjs, ← hsers]; try rfl);have Hn12 := zh hn12;clear hn12;have Hnm := zh hnm;clear hnm;have Hr8 := zh hr8;clear hr8;have Hrok := zh hrok;clear hrok;have Hg12 := zh hg12;clear hg12;have Hs120 := zh hs120;clear hs120;have Hp1 := zh hp1;clear hp1;have Hp2 := zh hp2;clear hp2;have Ha40 := zh ha40;clear ha40;have Hacts := zh hacts;clear hacts;have Houts := zh houts;clear houts;have Hb0 := zh hb0;clear hb0;have Hb4 := zh hb4;clear hb4;have Ht0 := zh ht0;clear ht0;have Htb := zh htb;clear htb;have Hm0_ := zh hm0_;clear hm0_;have Hgl := zh hgl;clear hgl;have Hobjs := zh hobjs;clear hobjs;have Hsers := zh hsers;clear hsers;go_enter Tryz.func45, Tryz.ntmps45;go_upto_region 1 with (fail);rw [← hw1]
 try rw [hM]
 have HMS := zh hM;clear hw1 hM;obtain ⟨m0, m1, m2, m3, m4, m5, m6, m7, m8, m9, m10, m11, m12⟩ := Zbb HM.o
 cases n12 with
 | false =>
  simp only [Bool.not_false] at W0n12;have hR0 : R = false := by rw [HR.o]; simp
  subst hR0;go_wp2_with fail;go_ret;exact ⟨rfl, HB.o⟩
 | true =>
  simp only [Bool.not_true] at W0n12
  cases r8 with
  | false =>
   simp only [Bool.not_false] at W0r8;have hR0 : R = false := by rw [HR.o]; simp
   subst hR0;go_wp2_with fail;go_ret;exact ⟨rfl, HB.o⟩
  | true =>
   simp only [Bool.not_true] at W0r8
   cases g12 with
   | false =>
    simp only [Bool.not_false] at W0g12;have hR0 : R = false := by rw [HR.o]; simp
    subst hR0;go_wp2_with fail;go_ret;exact ⟨rfl, HB.o⟩
   | true =>
    simp only [Bool.not_true] at W0g12
    cases s120 with
    | false =>
     simp only [Bool.not_false] at W0s120;have hR0 : R = false := by rw [HR.o]; simp
     subst hR0;go_wp2_with fail;go_ret;exact ⟨rfl, HB.o⟩
    | true =>
     simp only [Bool.not_true] at W0s120;have hs120 : r.aC.size ≤ 120 := of_decide_eq_true Hs120.o;go_wp2_with fail;refine (Zcs _ _ _ _).mono ?_;rw [Hp1.o, Hp2.o];rintro e x4 ⟨rfl, rfl⟩
     cases p1 with
     | false =>
      simp only [Bool.not_false] at W0p1;have hR0 : R = false := by rw [HR.o]; simp
      subst hR0;go_wp2_with fail;go_ret;exact ⟨rfl, HB.o⟩
     | true =>
      simp only [Bool.not_true] at W0p1
      cases p2 with
      | false =>
       simp only [Bool.not_false] at W0p2;have hR0 : R = false := by rw [HR.o]; simp
       subst hR0;go_wp2_with fail;go_ret;exact ⟨rfl, HB.o⟩
      | true =>
       simp only [Bool.not_true] at W0p2
       cases a40 with
       | false =>
        simp only [Bool.not_false] at W0a40;have hR0 : R = false := by rw [HR.o]; simp
        subst hR0;go_wp2_with fail;go_ret;exact ⟨rfl, HB.o⟩
       | true =>
        simp only [Bool.not_true] at W0a40
        cases m0_ with
        | false =>
         simp only [Bool.not_false] at W0m0_;have hR0 : R = false := by rw [HR.o]; simp
         subst hR0;go_wp2_with fail;go_ret;exact ⟨rfl, HB.o⟩
        | true =>
         simp only [Bool.not_true] at W0m0_;go_wp2_with fail;refine (Zcs _ _ _ _).mono ?_;rw [Hb0.o, Hb4.o];rintro e x2 ⟨rfl, rfl⟩
         cases b0 with
         | false =>
          simp only [Bool.not_false] at W0b0;have hR0 : R = false := by rw [HR.o]; simp
          subst hR0;go_wp2_with fail;go_ret;exact ⟨rfl, HB.o⟩
         | true =>
          simp only [Bool.not_true] at W0b0
          cases b4 with
          | false =>
           simp only [Bool.not_false] at W0b4;have hR0 : R = false := by rw [HR.o]; simp
           subst hR0;go_wp2_with fail;go_ret;exact ⟨rfl, HB.o⟩
          | true =>
           simp only [Bool.not_true] at W0b4;go_wp2_with fail;refine (Zcs _ _ _ _).mono ?_;rw [Ht0.o, Htb.o];rintro e x3 ⟨rfl, rfl⟩
           cases t0 with
           | false =>
            simp only [Bool.not_false] at W0t0;have hR0 : R = false := by rw [HR.o]; simp
            subst hR0;go_wp2_with fail;go_ret;exact ⟨rfl, HB.o⟩
           | true =>
            simp only [Bool.not_true] at W0t0
            cases tb with
            | false =>
             simp only [Bool.not_false] at W0tb;have hR0 : R = false := by rw [HR.o]; simp
             subst hR0;go_wp2_with fail;go_ret;exact ⟨rfl, HB.o⟩
            | true =>
             simp only [Bool.not_true] at W0tb;go_wp2_with fail;refine (Zhq r.names _ 12 F _ (HQn.o.later Zad HB.o)).mono ?_;rw [Hnm.o, show decide ((r.names.length : Int) ≤ 12) = true by rw [← Hn12.o]; exact (by rw [Bool.eq_iff_iff]; simp only [nJ, nK, nL, ne_eq, nM, nI, nH] <;> omega)];rintro e x1 ⟨rfl, hcl⟩;clear m0 m1 m2 m3 m4 m5 m6 m7 m8 m9 m10 m11 m12;replace HM := zC hcl HM;replace HB := zh (HB.o.trans (Below.mono hcl HB.o.size));clear hcl;obtain ⟨m0, m1, m2, m3, m4, m5, m6, m7, m8, m9, m10, m11, m12⟩ := Zbb HM.o
             cases nm with
             | false =>
              have hR0 : R = false := by rw [HR.o]; simp
              subst hR0;go_wp2_with fail;go_ret;exact ⟨rfl, HB.o⟩
             | true =>
              go_wp2_with fail;clear m0 m1 m2 m3 m4 m5 m6 m7 m8 m9 m10 m11 m12
              go_loopw [3] (fun i wr => ∃ j : Nat, i = .int .i64 j ∧ j ≤ r.aB.length ∧ Hd (∀ k (h : k < r.aB.length), k < j → Ze4 r.aB[k] = true) ∧ Hd (wr.heap[M]? = some (.cells #[.slice An r.names.length cn, .slice Ar r.aB.length cr, .slice Ao r.aA.length co, .slice Ag r.globals.length cg, .string r.aC, .int .i64 r.aD, .slice Au r.output.length cu, .slice At r.trace.length ct, .slice Aa r.aE.length ca, .bool r.aF, .int .i64 r.ticks, .int .i64 r.aG, .int .i64 r.made] 30 (0, 0))) ∧ Hd (Below w.heap.size w wr)) (fun i _ => r.aB.length - (intOf i).toNat)
              case atStart => exact ⟨0, rfl, Nat.zero_le _, zh (fun k _ h => by omega), HM, HB⟩
              case round =>
                              clear HM HB;obtain ⟨j, rfl, hj, HD, HM, HB⟩ := hrel;obtain ⟨m0, m1, m2, m3, m4, m5, m6, m7, m8, m9, m10, m11, m12⟩ := Zbb HM.o
                              by_cases hlt : j < r.aB.length
                              ·have t1 : decide ((j : Int) < r.aB.length) = true := decide_eq_true (by omega);obtain ⟨ob, oo, cs, rfl, _, hob, hE, hc⟩ := (HQr.o.later Zah HB.o).at__ hlt;obtain ⟨vf, rfl, hnm64, hrf, hln64⟩ := hE;obtain ⟨Af, cf, rfl, hcf, hcmf, _⟩ := id hrf;unfold maxLen at hcmf;have e0 := hc 0 _ rfl;have e1 := hc 1 _ rfl;have e2 := hc 2 _ rfl;simp only [Nat.add_zero] at e0;obtain ⟨y, hy⟩ : ∃ y, r.aB[j] = y := ⟨_, rfl⟩;rw [hy] at e0 e1 e2 hnm64 hrf hln64 hcf;have HY := zh hy;have HRF := zh hrf;have HN64 := zh hnm64;clear hy hc hrf hnm64;have hl4 := (Za.refl wr).alloc (.cells #[.string y.name, .slice Af y.fields.length cf, .int .i64 y.line] 136);have HN := zh (heap_alloc_new wr (.cells #[.string y.name, .slice Af y.fields.length cf, .int .i64 y.line] 136));have HM4 := zC hl4 HM;have HB4 := zh (HB.o.trans (Below.mono hl4 HB.o.size));have HNO : Hd (Ze4 y = false → R = false) := zh (fun e => by rw [HR.o]; have : r.aB.all Ze4 = false := Zed hlt (by rw [HY.o]; exact e); rw [← Hrok.o, this]; simp);obtain ⟨N, hN⟩ : ∃ N, wr.heap.size = N := ⟨_, rfl⟩;obtain ⟨x0, hx0⟩ : ∃ x, x = wr.alloc (.cells #[.string y.name, .slice Af y.fields.length cf, .int .i64 y.line] 136) := ⟨_, rfl⟩;rw [← hx0] at HN HM4 HB4;obtain ⟨q0, hq0⟩ : ∃ q, Zb5 y.name = q := ⟨_, rfl⟩;obtain ⟨q1, hq1⟩ : ∃ q, decide (y.fields.length ≤ 6) = q := ⟨_, rfl⟩;obtain ⟨q2, hq2⟩ : ∃ q, y.fields.all Zb5 = q := ⟨_, rfl⟩;obtain ⟨q3, hq3⟩ : ∃ q, twB y.fields = q := ⟨_, rfl⟩;obtain ⟨q4, hq4⟩ : ∃ q, decide (0 ≤ y.line) = q := ⟨_, rfl⟩
                               have w4 : decide (y.line < 0) = !q4 := by rw [← hq4]; exact (by rw [Bool.eq_iff_iff]; simp only [nJ, nK, nL, ne_eq, nM, nI, nH] <;> omega)
                               have HOK := zh (show Ze4 y = (q0 && (q1 && (q2 && (!q3 && q4)))) by rw [← hq0, ← hq1, ← hq2, ← hq3, ← hq4]; rfl);have H0 := zh hq0;have H1 := zh hq1;have H2 := zh hq2;have H3 := zh hq3;clear hq0 hq1 hq2 hq3 hq4;rw [hN] at HN;have HL4 : Hd (Za wr x0) := zh (by rw [hx0]; exact hl4);clear hl4;go_upto_region 7 with (fail);rw [← hx0]
                               try rw [hN]
                               clear hx0 hN m0 m1 m2 m3 m4 m5 m6 m7 m8 m9 m10 m11 m12 e0 e1 e2 hob;obtain ⟨f0, f1, f2⟩ := cz3 HN.o;go_wp2_with fail;refine (Zgm y.name _ HN64.o).mono ?_;rw [H0.o];rintro e x1 ⟨rfl, hcl⟩;clear f0 f1 f2;replace HN := zC hcl HN;replace HL4 := zh (HL4.o.trans hcl);replace HM4 := zC hcl HM4;replace HB4 := zh (HB4.o.trans (Below.mono hcl HB4.o.size));clear hcl
                               cases q0 with
                               | false =>
                                have hR0 : R = false := HNO.o (by rw [HOK.o]; rfl);subst hR0;go_wp2_with fail;go_ret;exact ⟨rfl, HB4.o⟩
                               | true =>
                                obtain ⟨f0, f1, f2⟩ := cz3 HN.o;go_wp2_with fail;refine (Zhq y.fields _ 6 F _ (HRF.o.keep Zad (fun _ h => h) (Ze.later (HL4.o)))).mono ?_;rw [H2.o, show decide ((y.fields.length : Int) ≤ 6) = q1 by rw [← H1.o]; exact (by rw [Bool.eq_iff_iff]; simp only [nJ, nK, nL, ne_eq, nM, nI, nH] <;> omega)];rintro e x2 ⟨rfl, hcl⟩;clear f0 f1 f2;replace HN := zC hcl HN;replace HL4 := zh (HL4.o.trans hcl);replace HM4 := zC hcl HM4;replace HB4 := zh (HB4.o.trans (Below.mono hcl HB4.o.size));clear hcl;have hboth : (q2 = false ∨ q1 = false) → R = false := fun h => HNO.o (by rw [HOK.o]; rcases h with rfl | rfl <;> simp)
                                cases q2 with
                                | false =>
                                 have hR0 : R = false := hboth (.inl rfl);clear hboth;subst hR0;go_wp2_with fail;go_ret;exact ⟨rfl, HB4.o⟩
                                | true =>
                                 cases q1 with
                                 | false =>
                                  have hR0 : R = false := hboth (.inr rfl);clear hboth;subst hR0;go_wp2_with fail;go_ret;exact ⟨rfl, HB4.o⟩
                                 | true =>
                                  clear hboth;obtain ⟨f0, f1, f2⟩ := cz3 HN.o;go_wp2_with fail;refine (Zns y.fields _ F _ (HRF.o.keep Zad (fun _ h => h) (Ze.later (HL4.o)))).mono ?_;rw [H3.o];rintro e x3 ⟨rfl, rfl⟩
                                  cases q3 with
                                  | true =>
                                   have hR0 : R = false := HNO.o (by rw [HOK.o]; simp);subst hR0;go_wp2_with fail;go_ret;exact ⟨rfl, HB4.o⟩
                                  | false =>
                                   cases q4 with
                                   | false =>
                                    simp only [Bool.not_false] at w4;have hR0 : R = false := HNO.o (by rw [HOK.o]; simp);subst hR0;go_wp2_with fail;go_ret;exact ⟨rfl, HB4.o⟩
                                   | true =>
                                    simp only [Bool.not_true] at w4;have HD2 : Hd (∀ k (h : k < r.aB.length), k < j + 1 → Ze4 r.aB[k] = true) := zh (Zda HD.o (fun _ => by rw [HY.o, HOK.o]; rfl));go_wp2_with fail
                                    go_roundw
                                    case rel => exact ⟨j + 1, by go_num, by omega, HD2, HM4, HB4⟩
                                    case measure => simp [intOf]; omega
                              ·have t1 : decide ((j : Int) < r.aB.length) = false := decide_eq_false (by omega);have h1 : r.aB.all Ze4 = true := Zfh (fun k hk => HD.o k hk (by omega));replace HR := zh (show _ = _ from HR.o.trans (by rw [← Hrok.o, h1]));clear h1;go_upto_region 9 with (fail);go_wp2_with fail;clear m0 m1 m2 m3 m4 m5 m6 m7 m8 m9 m10 m11 m12
                               go_loopw [5] (fun i wr => ∃ j : Nat, i = .int .i64 j ∧ j ≤ r.output.length ∧ Hd (∀ k (h : k < r.output.length), k < j → Zgn r.output[k] = true) ∧ Hd (wr.heap[M]? = some (.cells #[.slice An r.names.length cn, .slice Ar r.aB.length cr, .slice Ao r.aA.length co, .slice Ag r.globals.length cg, .string r.aC, .int .i64 r.aD, .slice Au r.output.length cu, .slice At r.trace.length ct, .slice Aa r.aE.length ca, .bool r.aF, .int .i64 r.ticks, .int .i64 r.aG, .int .i64 r.made] 30 (0, 0))) ∧ Hd (Below w.heap.size w wr)) (fun i _ => r.output.length - (intOf i).toNat)
                               case atStart => exact ⟨0, rfl, Nat.zero_le _, zh (fun k _ h => by omega), HM, HB⟩
                               case round =>
                                clear HM HB;obtain ⟨j, rfl, hj, HD, HM, HB⟩ := hrel;obtain ⟨m0, m1, m2, m3, m4, m5, m6, m7, m8, m9, m10, m11, m12⟩ := Zbb HM.o
                                by_cases hlt : j < r.output.length
                                ·have t1 : decide ((j : Int) < r.output.length) = true := decide_eq_true (by omega);obtain ⟨ob, oo, cs, rfl, _, hob, hE, hc⟩ := (HQu.o.later Zad HB.o).at__ hlt;obtain ⟨rfl, hsm⟩ := hE;have e0 := hc 0 _ rfl;simp only [Nat.mul_one, Nat.add_zero] at e0;obtain ⟨y, hy⟩ : ∃ y, r.output[j] = y := ⟨_, rfl⟩;rw [hy] at e0 hsm;have HY := zh hy;clear hy hc
                                 by_cases h120 : y.size ≤ 120
                                 ·have u1 : decide (120 < (y.size : Int)) = false := decide_eq_false (by omega);have HD2 : Hd (∀ k (h : k < r.output.length), k < j + 1 → Zgn r.output[k] = true) := zh (Zda HD.o (fun _ => by rw [HY.o]; exact decide_eq_true h120));clear h120 hsm;go_wp2_with fail
                                  go_roundw
                                  case rel => exact ⟨j + 1, by go_num, by omega, HD2, HM, HB⟩
                                  case measure => simp [intOf]; omega
                                 ·have u1 : decide (120 < (y.size : Int)) = true := decide_eq_true (by omega);have hR0 : R = false := by rw [HR.o]; have : r.output.all Zgn = false := Zed hlt (by rw [HY.o]; exact decide_eq_false h120); rw [← Houts.o, this]; simp
                                  subst hR0;clear h120 hsm;go_wp2_with fail;go_ret;exact ⟨rfl, HB.o⟩
                                ·have t1 : decide ((j : Int) < r.output.length) = false := decide_eq_false (by omega);have h1 : r.output.all Zgn = true := Zfh (fun k hk => HD.o k hk (by omega));replace HR := zh (show _ = _ from HR.o.trans (by rw [← Houts.o, h1]));clear h1;go_upto_region 14 with (fail);go_wp2_with fail;clear m0 m1 m2 m3 m4 m5 m6 m7 m8 m9 m10 m11 m12
                                 go_loopw [6] (fun i wr => ∃ j : Nat, i = .int .i64 j ∧ j ≤ r.aE.length ∧ Hd (∀ k (h : k < r.aE.length), k < j → Zcy r r.aE[k] = true) ∧ Hd (wr.heap[M]? = some (.cells #[.slice An r.names.length cn, .slice Ar r.aB.length cr, .slice Ao r.aA.length co, .slice Ag r.globals.length cg, .string r.aC, .int .i64 r.aD, .slice Au r.output.length cu, .slice At r.trace.length ct, .slice Aa r.aE.length ca, .bool r.aF, .int .i64 r.ticks, .int .i64 r.aG, .int .i64 r.made] 30 (0, 0))) ∧ Hd (Below w.heap.size w wr)) (fun i _ => r.aE.length - (intOf i).toNat)
                                 case atStart => exact ⟨0, rfl, Nat.zero_le _, zh (fun k _ h => by omega), HM, HB⟩
                                 case round =>
                                  clear HM HB;obtain ⟨j, rfl, hj, HD, HM, HB⟩ := hrel;obtain ⟨m0, m1, m2, m3, m4, m5, m6, m7, m8, m9, m10, m11, m12⟩ := Zbb HM.o
                                  by_cases hlt : j < r.aE.length
                                  ·have t1 : decide ((j : Int) < r.aE.length) = true := decide_eq_true (by omega);obtain ⟨ob, oo, cs, rfl, _, hob, hE, hc⟩ := (HQa.o.later Zbd HB.o).at__ hlt;obtain ⟨rfl, hr64, hf64⟩ := hE;have e0 := hc 0 _ rfl;have e1 := hc 1 _ rfl;simp only [Nat.add_zero] at e0;obtain ⟨y, hy⟩ : ∃ y, r.aE[j] = y := ⟨_, rfl⟩;rw [hy] at e0 e1 hr64 hf64;have HY := zh hy;clear hy hc;obtain ⟨rt, fr⟩ := y;simp only at e0 e1 hr64 hf64;have hl4 := (Za.refl wr).alloc (.cells #[.int .i64 rt, .int .i64 fr] 89);have HM4 := zC hl4 HM;have HB4 := zh (HB.o.trans (Below.mono hl4 HB.o.size));have HNO : Hd (Zcy r ⟨rt, fr⟩ = false → R = false) := zh (fun e => by rw [HR.o]; have : r.aE.all (Zcy r) = false := Zed hlt (by rw [HY.o]; exact e); rw [← Hacts.o, this]; simp);have n0 := cq HM4.o 0;have n2 := cq HM4.o 2;simp only [nD, nE, nF] at n0 n2;obtain ⟨pa, hpa⟩ : ∃ q, decide (0 ≤ rt) = q := ⟨_, rfl⟩;obtain ⟨pb, hpb⟩ : ∃ q, decide (rt ≤ (r.names.length : Int) - 1) = q := ⟨_, rfl⟩;have HPA := zh hpa;have HPB := zh hpb;clear hpa hpb hl4;go_wp2_with fail;clear m0 m1 m2 m3 m4 m5 m6 m7 m8 m9 m10 m11 m12 e0 e1 hob;refine (Zcs _ _ _ _).mono ?_;rw [HPA.o, HPB.o];rintro e x5 ⟨rfl, rfl⟩
                                   cases pa with
                                   | false =>
                                    have hR0 : R = false := HNO.o (by unfold Zcy; rw [HPA.o]; rfl);subst hR0;go_wp2_with fail;go_ret;exact ⟨rfl, HB4.o⟩
                                   | true =>
                                    cases pb with
                                    | false =>
                                     have hR0 : R = false := HNO.o (by unfold Zcy; rw [decide_eq_false (p := rt < _) (by have := of_decide_eq_false HPB.o; omega)]; simp);subst hR0;go_wp2_with fail;go_ret;exact ⟨rfl, HB4.o⟩
                                    | true =>
                                     have HA := zh (show Zcy r ⟨rt, fr⟩ = Za9 r fr 1 by unfold Zcy; rw [HPA.o, decide_eq_true (p := rt < _) (by have := of_decide_eq_true HPB.o; omega)]; rfl);obtain ⟨pc, hpc⟩ : ∃ q, decide (0 ≤ fr) = q := ⟨_, rfl⟩;obtain ⟨pd, hpd⟩ : ∃ q, decide (fr ≤ (r.aA.length : Int) - 1) = q := ⟨_, rfl⟩;have HPC := zh hpc;have HPD := zh hpd;clear hpc hpd;go_wp2_with fail;refine (Zcs _ _ _ _).mono ?_;rw [HPC.o, HPD.o];rintro e x6 ⟨rfl, rfl⟩
                                     cases pc with
                                     | false =>
                                      have hR0 : R = false := HNO.o (by rw [HA.o]; exact Zks (of_decide_eq_false HPC.o));subst hR0;go_wp2_with fail;go_ret;exact ⟨rfl, HB4.o⟩
                                     | true =>
                                      cases pd with
                                      | false =>
                                       have hR0 : R = false := HNO.o (by rw [HA.o]; exact Zd3 (by have := of_decide_eq_false HPD.o; omega));subst hR0;go_wp2_with fail;go_ret;exact ⟨rfl, HB4.o⟩
                                      | true =>
                                       obtain ⟨i, rfl⟩ : ∃ i : Nat, fr = i := ⟨fr.toNat, by have := of_decide_eq_true HPC.o; omega⟩;have hil : i < r.aA.length := by have := of_decide_eq_true HPD.o; omega
                                       have hil2 : (i : Int) < (r.aA.length : Int) := by omega
                                       obtain ⟨ob, oo, Ai, ci, Ak, ck, rfl, hob, f0, _⟩ := Z3.obj (HQo.o.later Za4 HB4.o) hil;have HA2 := zh (show Zcy r ⟨rt, (i : Int)⟩ = (r.aA[i].kind == 1) by rw [HA.o, Zdi hil]);obtain ⟨q, hq⟩ : ∃ q, (r.aA[i].kind == 1) = q := ⟨_, rfl⟩;have hq2 : (r.aA[i].kind != 1) = !q := by rw [← hq]; rfl
                                       have HQQ := zh hq;clear hq
                                       cases q with
                                       | false =>
                                        simp only [Bool.not_false] at hq2;have hR0 : R = false := HNO.o (by rw [HA2.o, HQQ.o]);subst hR0;go_wp2_with fail;go_ret;exact ⟨rfl, HB4.o⟩
                                       | true =>
                                        simp only [Bool.not_true] at hq2;have HD2 : Hd (∀ k (h : k < r.aE.length), k < j + 1 → Zcy r r.aE[k] = true) := zh (Zda HD.o (fun _ => by rw [HY.o, HA2.o, HQQ.o]));go_wp2_with fail
                                        go_roundw
                                        case rel => exact ⟨j + 1, by go_num, by omega, HD2, HM4, HB4⟩
                                        case measure => simp [intOf]; omega
                                  ·have t1 : decide ((j : Int) < r.aE.length) = false := decide_eq_false (by omega);have h1 : r.aE.all (Zcy r) = true := Zfh (fun k hk => HD.o k hk (by omega));replace HR := zh (show _ = _ from HR.o.trans (by rw [← Hacts.o, h1]));clear h1;go_upto_region 20 with (fail);go_wp2_with fail;clear m0 m1 m2 m3 m4 m5 m6 m7 m8 m9 m10 m11 m12
                                   go_loopw [8] (fun i wr => ∃ j : Nat, i = .int .i64 j ∧ j ≤ r.aA.length ∧ Hd (∀ k (h : k < r.aA.length), k < j → Zai r r.aA[k] = true) ∧ Hd (∀ k (h : k < r.aA.length), k < j → r.aA[k].aI = 0 ∨ ∀ i (hi : i < r.aA.length), i < k → r.aA[i].aI ≠ r.aA[k].aI) ∧ Hd (wr.heap[M]? = some (.cells #[.slice An r.names.length cn, .slice Ar r.aB.length cr, .slice Ao r.aA.length co, .slice Ag r.globals.length cg, .string r.aC, .int .i64 r.aD, .slice Au r.output.length cu, .slice At r.trace.length ct, .slice Aa r.aE.length ca, .bool r.aF, .int .i64 r.ticks, .int .i64 r.aG, .int .i64 r.made] 30 (0, 0))) ∧ Hd (Below w.heap.size w wr)) (fun i _ => r.aA.length - (intOf i).toNat)
                                   case atStart => exact ⟨0, rfl, Nat.zero_le _, zh (fun k _ h => by omega), zh (fun k _ h => by omega), HM, HB⟩
                                   case round =>
                                    clear HM HB;obtain ⟨j, rfl, hj, HD, HE, HM, HB⟩ := hrel;obtain ⟨m0, m1, m2, m3, m4, m5, m6, m7, m8, m9, m10, m11, m12⟩ := Zbb HM.o
                                    by_cases hlt : j < r.aA.length
                                    ·have t1 : decide ((j : Int) < r.aA.length) = true := decide_eq_true (by omega);obtain ⟨ob, oo, Ai, ci, Ak, ck, rfl, hob, e0, e1, e2, e3, e4, hrI, hrK, hk64, ht64, hs64⟩ := Z3.obj (HQo.o.later Za4 HB.o) hlt;obtain ⟨p, hp⟩ : ∃ p, Zai r r.aA[j] = p := ⟨_, rfl⟩;have HP := zh hp;have HH := zh (Zlv r M _ F _ r.aA[j] _ (⟨HM.o, Zal.keep HEL.o (fun _ h => h) (Ze.later HB.o)⟩ : Z3 F _ M r _) (⟨_, _, rfl, hk64, ht64, hs64, hrI, hrK⟩ : Zbk F _ r.aA[j] [.int .i64 r.aA[j].kind, .int .i64 r.aA[j].tag, .int .i64 r.aA[j].aI, .slice Ai r.aA[j].aJ.length ci, .slice Ak r.aA[j].aK.length ck]) (HSO.o j hlt));rw [hp] at HH;clear hp hrI hrK hk64 ht64 hs64;go_wp2_with fail;refine HH.o.mono ?_;rintro e w5 ⟨rfl, hcl⟩;clear e0 e1 e2 e3 e4 hob HH m0 m1 m2 m3 m4 m5 m6 m7 m8 m9 m10 m11 m12;replace HM := zC hcl HM;replace HB := zh (HB.o.trans (Below.mono hcl HB.o.size));clear hcl
                                     cases p with
                                     | false =>
                                      have hR0 : R = false := by rw [HR.o]; have : r.aA.all (Zai r) = false := Zed hlt HP.o; rw [← Hobjs.o, this]; simp
                                      subst hR0;go_wp2_with fail;go_ret;exact ⟨rfl, HB.o⟩
                                     | true =>
                                      have HD2 : Hd (∀ k (h : k < r.aA.length), k < j + 1 → Zai r r.aA[k] = true) := zh (Zda HD.o (fun _ => HP.o));go_wp2_with fail
                                      go_loopw [9] (fun i wr => ∃ k : Nat, i = .int .i64 k ∧ k ≤ j ∧ Hd (∀ q (h : q < r.aA.length), q < k → r.aA[j].aI = 0 ∨ r.aA[q].aI ≠ r.aA[j].aI) ∧ Hd (wr.heap[M]? = some (.cells #[.slice An r.names.length cn, .slice Ar r.aB.length cr, .slice (some ⟨ob, oo, none⟩) r.aA.length co, .slice Ag r.globals.length cg, .string r.aC, .int .i64 r.aD, .slice Au r.output.length cu, .slice At r.trace.length ct, .slice Aa r.aE.length ca, .bool r.aF, .int .i64 r.ticks, .int .i64 r.aG, .int .i64 r.made] 30 (0, 0))) ∧ Hd (Below w.heap.size w wr)) (fun i _ => j - (intOf i).toNat)
                                      case atStart => exact ⟨0, rfl, Nat.zero_le _, zh (fun k _ h => by omega), HM, HB⟩
                                      case round =>
                                       clear HM HB;obtain ⟨k, rfl, hk, HF, HM, HB⟩ := hrel
                                       by_cases hkj : k < j
                                       ·have u1 : decide ((k : Int) < (j : Int)) = true := decide_eq_true (by omega);have hkl : k < r.aA.length := by omega
                                        obtain ⟨ob1, oo1, Ai1, ci1, Ak1, ck1, eo1, hob, _, _, e2, _, _, _, _, _, _, _⟩ := Z3.obj (HQo.o.later Za4 HB.o) hlt;cases eo1;obtain ⟨ob2, oo2, Ai2, ci2, Ak2, ck2, eo2, _, _, _, g2, _, _, _, _, _, _, _⟩ := Z3.obj (HQo.o.later Za4 HB.o) hkl;cases eo2;have m2 := cq HM.o 2;simp only [nD, nE, nF] at m2;obtain ⟨y, hy⟩ : ∃ y, r.aA[j].aI = y := ⟨_, rfl⟩;obtain ⟨z, hz⟩ : ∃ z, r.aA[k].aI = z := ⟨_, rfl⟩;rw [hy] at e2;rw [hz] at g2;have HY := zh hy;have HZ := zh hz;clear hy hz;go_upto_region 28 with (fail)
                                        by_cases hs0 : y = 0
                                        ·have u3 : (y != 0) = false := by rw [← Bool.not_eq_true, bne_iff_ne]; omega
                                         have HF2 : Hd (∀ q (h : q < r.aA.length), q < k + 1 → r.aA[j].aI = 0 ∨ r.aA[q].aI ≠ r.aA[j].aI) := zh (fun q hq h => .inl (HY.o.trans hs0));clear hs0;refine Z4 (fun V hV => ?_);have hVL := (show Za _ V by rw [hV]; exact (Za.refl _).drew);replace HM := zC hVL HM;replace HB := zh (HB.o.trans (Below.mono hVL HB.o.size));have q2 := cq HM.o 2;simp only [nD, nE, nF] at q2;have hMV := Zb HM.o;have hobV : ob < V.heap.size := Nat.lt_of_lt_of_le hob hVL.size;have s2 := (hVL.cell ⟨ob, oo + j * 5 + 2, none⟩ hob).trans e2;have u2 := (hVL.cell ⟨ob, oo + k * 5 + 2, none⟩ hob).trans g2;clear hV hVL e2 g2 m2 hob
                                         repeat go_big_quiet_step (fail)
                                         refine wpQuiet_nil ?_;go_wp2_with fail
                                         go_roundw
                                         case rel => exact ⟨k + 1, by go_num, by omega, HF2, HM, HB⟩
                                         case measure => simp [intOf]; omega
                                        ·have u3 : (y != 0) = true := bne_iff_ne.2 hs0
                                         by_cases hyz : y = z
                                         ·have u4 : (y == z) = true := beq_iff_eq.2 hyz;have hR0 : R = false := by
                                           rw [HR.o, ← Hsers.o, Zj2 hlt (by rw [HY.o]; exact hs0) hkj (by rw [HZ.o, HY.o, hyz])];simp
                                          subst hR0;clear hs0 hyz;refine Z4 (fun V hV => ?_);have hVL := (show Za _ V by rw [hV]; exact (Za.refl _).drew);replace HM := zC hVL HM;replace HB := zh (HB.o.trans (Below.mono hVL HB.o.size));have q2 := cq HM.o 2;simp only [nD, nE, nF] at q2;have hMV := Zb HM.o;have hobV : ob < V.heap.size := Nat.lt_of_lt_of_le hob hVL.size;have s2 := (hVL.cell ⟨ob, oo + j * 5 + 2, none⟩ hob).trans e2;have u2 := (hVL.cell ⟨ob, oo + k * 5 + 2, none⟩ hob).trans g2;clear hV hVL e2 g2 m2 hob
                                          repeat go_big_quiet_step (fail)
                                          refine wpQuiet_nil ?_;go_wp2_with fail;go_ret;exact ⟨rfl, HB.o⟩
                                         ·have u4 : (y == z) = false := nH.2 hyz;have HF2 : Hd (∀ q (h : q < r.aA.length), q < k + 1 → r.aA[j].aI = 0 ∨ r.aA[q].aI ≠ r.aA[j].aI) := zh (fun q hq h => by
                                           rcases Nat.lt_or_ge q k with h1 | h1
                                           ·exact HF.o q hq h1
                                           ·obtain rfl : q = k := by omega
                                            exact .inr (by rw [HZ.o, HY.o]; exact fun e => hyz e.symm))
                                          clear hs0 hyz;refine Z4 (fun V hV => ?_);have hVL := (show Za _ V by rw [hV]; exact (Za.refl _).drew);replace HM := zC hVL HM;replace HB := zh (HB.o.trans (Below.mono hVL HB.o.size));have q2 := cq HM.o 2;simp only [nD, nE, nF] at q2;have hMV := Zb HM.o;have hobV : ob < V.heap.size := Nat.lt_of_lt_of_le hob hVL.size;have s2 := (hVL.cell ⟨ob, oo + j * 5 + 2, none⟩ hob).trans e2;have u2 := (hVL.cell ⟨ob, oo + k * 5 + 2, none⟩ hob).trans g2;clear hV hVL e2 g2 m2 hob
                                          repeat go_big_quiet_step (fail)
                                          refine wpQuiet_nil ?_;go_wp2_with fail
                                          go_roundw
                                          case rel => exact ⟨k + 1, by go_num, by omega, HF2, HM, HB⟩
                                          case measure => simp [intOf]; omega
                                       ·have u1 : decide ((k : Int) < (j : Int)) = false := decide_eq_false (by omega);have HE2 : Hd (∀ k (h : k < r.aA.length), k < j + 1 → r.aA[k].aI = 0 ∨ ∀ i (hi : i < r.aA.length), i < k → r.aA[i].aI ≠ r.aA[k].aI) := zh (fun q hq h => by
                                         rcases Nat.lt_or_ge q j with h1 | h1
                                         ·exact HE.o q hq h1
                                         ·obtain rfl : q = j := by omega
                                          by_cases e : r.aA[q].aI = 0
                                          ·exact .inl e
                                          ·exact .inr (fun i hi hiq => (HF.o i hi (by omega)).resolve_left e))
                                        go_wp2_with fail
                                        go_roundw
                                        case rel => exact ⟨j + 1, by go_num, by omega, HD2, HE2, HM, HB⟩
                                        case measure => simp [intOf]; omega
                                    ·have t1 : decide ((j : Int) < r.aA.length) = false := decide_eq_false (by omega);have h1 : r.aA.all (Zai r) = true := Zfh (fun k hk => HD.o k hk (by omega));have h2 : Zcp r.aA = true := Zio (fun k hk => HE.o k hk (by omega));have hR0 : R = gl := by rw [HR.o, ← Hobjs.o, ← Hsers.o, h1, h2]; simp
                                     subst hR0;clear h1 h2;have HH := zh (Zb7 r M _ F _ r.globals _ (⟨HM.o, Zal.keep HEL.o (fun _ h => h) (Ze.later HB.o)⟩ : Z3 F _ M r _) (HQg.o.later Zc HB.o));rw [Hgl.o] at HH;go_wp2_with fail;refine HH.o.mono ?_;rintro e w6 ⟨rfl, hcl⟩;have HB6 := zh (HB.o.trans (Below.mono hcl HB.o.size));clear hcl;go_wp2_with fail;go_ret;exact ⟨rfl, HB6.o⟩
def sZ : Zf := ⟨[], [], [], [], ⟨#[]⟩, 0, [], [], [], false, 0, 0, 0⟩
def Zo1 (q : Zf × Zd × Int) : Zf × Zd × Int := if q.2.2 = 0 then (q.1, q.2.1, 0) else (sZ, vZ, q.2.2)
def Zwu (r : Zf) (x : Zd) (k : Int) : Zf × Zd × Int := if (Zap r && (Zbn r x && (decide (0 ≤ k) && decide (k ≤ 1000)))) = true then Zo1 (elR r x k.toNat) else (sZ, vZ, 205)
/-- What they leave. -/
def Zv9 (w : World) (q : Zf × Zd × Int) (e : Ending) (w' : World) : Prop :=
 ∃ cs', e = .returned (.tuple #[.agg cs'.toArray, .agg #[.int .i64 q.2.1.kind, .int .i64 q.2.1.aH, .int .i64 q.2.1.index, .string q.2.1.text, .int .i64 q.2.1.set_.low, .int .i64 q.2.1.set_.high], .int .i64 q.2.2]) ∧ Zec (fun b => w.heap.size ≤ b) w' q.1 cs' ∧ Below w.heap.size w w'
theorem Zf7 {r : Zf} {v : Zd} (h : Zbn r v = true) : Zj r v = true := by
 unfold Zbn at h;rw [Bool.and_eq_true] at h;exact h.2
theorem Ziu (r : Zf) (cs : List Value) (F : Nat → Prop) (w : World) (v : Zd) (hsz : Zav r ≤ 1048576) (h : Zcf F w r cs) (hv : Zg F w v [.int .i64 v.kind, .int .i64 v.aH, .int .i64 v.index, .string v.text, .int .i64 v.set_.low, .int .i64 v.set_.high]) :
  Calls Tryz.prog 12 #[.agg cs.toArray, .agg #[.int .i64 v.kind, .int .i64 v.aH, .int .i64 v.index, .string v.text, .int .i64 v.set_.low, .int .i64 v.set_.high]] w fun e w' => e = .returned (.bool (Zap r && Zj r v)) ∧ Below w.heap.size w w' := by
 have hh := h;obtain ⟨aL, aM, aN, aO, aP, aQ, aR, rfl, _⟩ := h;have hl := ((Za.refl w).alloc (.cells #[aL, aM, aN, aO, .string r.aC, .int .i64 r.aD, aP, aQ, aR, .bool r.aF, .int .i64 r.ticks, .int .i64 r.aG, .int .i64 r.made] 30)).alloc (.cells #[.int .i64 v.kind, .int .i64 v.aH, .int .i64 v.index, .string v.text, .int .i64 v.set_.low, .int .i64 v.set_.high] 34);have HV := zh hv;have HMB := zh (((Za.refl _).alloc (.cells #[.int .i64 v.kind, .int .i64 v.aH, .int .i64 v.index, .string v.text, .int .i64 v.set_.low, .int .i64 v.set_.high] 34)).block w.heap.size (by simp) |>.trans (heap_alloc_new w (.cells #[aL, aM, aN, aO, .string r.aC, .int .i64 r.aD, aP, aQ, aR, .bool r.aF, .int .i64 r.ticks, .int .i64 r.aG, .int .i64 r.made] 30)));have HXB := zh (show ((w.alloc (.cells #[aL, aM, aN, aO, .string r.aC, .int .i64 r.aD, aP, aQ, aR, .bool r.aF, .int .i64 r.ticks, .int .i64 r.aG, .int .i64 r.made] 30)).alloc (.cells #[.int .i64 v.kind, .int .i64 v.aH, .int .i64 v.index, .string v.text, .int .i64 v.set_.low, .int .i64 v.set_.high] 34)).heap[w.heap.size + 1]? = some (.cells #[.int .i64 v.kind, .int .i64 v.aH, .int .i64 v.index, .string v.text, .int .i64 v.set_.low, .int .i64 v.set_.high] 34 (0, 0)) from Za8 (by simp));have HL := zh hl;have HC := zh (Zg0 r _ F _ hsz (Zal.keep hh (fun _ h => h) (Ze.later hl)))
 have HH := zh hh;obtain ⟨w2, hw2⟩ : ∃ x, x = (w.alloc (.cells #[aL, aM, aN, aO, .string r.aC, .int .i64 r.aD, aP, aQ, aR, .bool r.aF, .int .i64 r.ticks, .int .i64 r.aG, .int .i64 r.made] 30)).alloc (.cells #[.int .i64 v.kind, .int .i64 v.aH, .int .i64 v.index, .string v.text, .int .i64 v.set_.low, .int .i64 v.set_.high] 34) := ⟨_, rfl⟩;rw [← hw2] at HMB HXB HL HC;obtain ⟨p, hp⟩ : ∃ p, Zap r = p := ⟨_, rfl⟩;obtain ⟨q, hq⟩ : ∃ p, Zj r v = p := ⟨_, rfl⟩;rw [hp, hq];have HP := zh hp;have HQ := zh hq;clear hl hh hsz hv hp hq;go_enter Tryz.func12, Tryz.ntmps12;go_upto_region 1 with (fail);rw [← hw2];clear hw2;have m0 := Zbb HMB.o;have p0 := cz6 HXB.o;go_wp2_with fail;refine HC.o.mono ?_;rw [HP.o];rintro e w3 ⟨rfl, hcl⟩;clear m0 p0;have HXC := zC hcl HXB;have HM3 := zC hcl HMB;have HL3 := zh (HL.o.trans hcl);clear hcl;have p0 := cz6 HXC.o
 cases p with
 | false =>
  go_wp2_with fail;go_ret;exact ⟨rfl, HL3.o⟩
 | true =>
  go_wp2_with fail;refine (Zbr r w.heap.size _ F _ v _ (⟨HM3.o, Zal.keep HH.o (fun _ h => h) (Ze.later HL3.o)⟩ : Z3 F _ _ r _) (show Zg F _ v _ from HV.o)).mono ?_;rw [HQ.o];rintro e w4 ⟨rfl, hcl⟩;have HL4 := zh (HL3.o.trans hcl);clear hcl;go_wp2_with fail;go_ret;exact ⟨by simp, HL4.o⟩
end Go.Proofs.YtpmhelkiicigfaaGreatDoor
namespace Go.Proofs.YtpmhelkiicigfaaGreatDoor
open Go.RowKit
section
variable {r : Zf} {o : Zam}
theorem Zq2 {i : Nat} (h : i < r.aA.length) : (Zcb r o).aA[i]? = r.aA[i]? := by
 show (r.aA ++ [o])[i]? = _;rw [List.getElem?_append_left h]
theorem Zl9 {n k : Int} (h : Za9 r n k = true) : n.toNat < r.aA.length := by
 unfold Za9 at h;rw [Bool.and_eq_true] at h
 rcases Nat.lt_or_ge n.toNat r.aA.length with h2 | h2
 ·exact h2
 ·rw [List.getElem?_eq_none h2] at h
  cases h.2
theorem Zj5 {n k : Int} (h : Za9 r n k = true) : Za9 (Zcb r o) n k = true := by
 have h2 := Zl9 h;unfold Za9 at h ⊢;rw [Zq2 h2];exact h
theorem Zmy {n : Int} (h : n.toNat < r.aA.length) : Zcw (Zcb r o) n = Zcw r n := by
 unfold Zcw;rw [Zq2 h]
theorem Zek {v : Zd} (h : Zj r v = true) : Zj (Zcb r o) v = true := by
 unfold Zj at h ⊢;rw [Bool.and_eq_true] at h ⊢;refine ⟨h.1, ?_⟩;have h2 := h.2;unfold Zbi at h2 ⊢
 by_cases hk : Zbf v.kind ≠ 0
 ·rw [if_pos hk, Bool.and_eq_true] at h2 ⊢;refine ⟨Zj5 h2.1, ?_⟩;rw [Zmy (Zl9 h2.1)];exact h2.2
 ·rw [if_neg hk] at h2 ⊢;exact h2
theorem Zdd {v : Zd} (h : Zbn r v = true) : Zbn (Zcb r o) v = true := by
 unfold Zbn at h ⊢;rw [Bool.and_eq_true] at h ⊢;exact ⟨h.1, Zek h.2⟩
theorem Zcn {l : List Zd} (h : Zao r l = true) : Zao (Zcb r o) l = true := by
 unfold Zao at h ⊢;rw [List.all_eq_true] at h ⊢;exact fun v hv => Zdd (h v hv)
theorem Zmz {k : Int} {v : Zd} (h : Zx r k v = true) : Zx (Zcb r o) k v = true := by
 unfold Zx at h ⊢;rw [Bool.and_eq_true] at h ⊢;exact ⟨h.1, Zek h.2⟩
theorem Zht : ∀ {ks : List Int} {l : List Zd}, Zh r ks l = true → Zh (Zcb r o) ks l = true
 | [], [], h => h
 | _ :: _, _ :: _, h => by
  unfold Zh at h ⊢;rw [Bool.and_eq_true] at h ⊢;exact ⟨Zmz h.1, Zht h.2⟩
 | [], _ :: _, h => by unfold Zh at h; cases h
 | _ :: _, [], h => by unfold Zh at h; cases h
theorem Zdp {c : Prop} [Decidable c] {a b a' b' : Bool} (h : (if c then a else b) = true) (h1 : a = true → a' = true) (h2 : b = true → b' = true) : (if c then a' else b') = true := by
 by_cases hc : c
 ·rw [if_pos hc] at h ⊢; exact h1 h
 ·rw [if_neg hc] at h ⊢; exact h2 h
theorem Z5 {a b a' b' : Bool} (h : (a && b) = true) (h1 : a = true → a' = true) (h2 : b = true → b' = true) : (a' && b') = true := by
 rw [Bool.and_eq_true] at h ⊢;exact ⟨h1 h.1, h2 h.2⟩
theorem Zo2 {p : Zam} (h : Zag r p = true) : Zag (Zcb r o) p = true := by
 unfold Zag at h ⊢;refine Zdp h (fun h => Z5 h id Zcn) fun h => ?_;refine Zdp h (fun h => Z5 h id Zcn) fun h => ?_;refine Zdp h (fun h => Z5 h id fun h => Z5 h id fun h => Z5 h Zcn fun h => Z5 h Zcn id) fun h => ?_;refine Zdp h (fun h => Z5 h id fun h => Z5 h id fun h => Z5 h Zcn id) fun h => ?_;refine Zdp h (fun h => Z5 h id fun h => ?_) fun h => ?_
 ·show (match r.aB[p.tag.toNat]? with | some t => decide (p.aJ.length = t.fields.length) && Zao (Zcb r o) p.aJ | none => false) = true
  cases hq : r.aB[p.tag.toNat]? with
  | none => rw [hq] at h; cases h
  | some t => rw [hq] at h; exact Z5 h id Zcn
 refine Zdp h (fun h => Z5 h id fun h => ?_) fun h => ?_
 ·rcases hq : p.aJ with _ | ⟨a, _ | ⟨b, _ | ⟨c, _ | ⟨d, l⟩⟩⟩⟩
  ·rw [hq] at h; cases h
  ·rw [hq] at h; cases h
  ·rw [hq] at h; cases h
  ·rw [hq] at h;exact Z5 h id fun h => Z5 h Zek fun h => Z5 h id fun h => Z5 h Zek fun h => Z5 h id fun h => Z5 h Zek id
  ·rw [hq] at h; cases h
 refine Zdp h (fun h => ?_) fun h => ?_
 ·unfold Zab at h ⊢;exact Z5 h id fun h => Z5 h id Zht
 refine Zdp h (fun h => ?_) fun h => ?_
 ·rcases hq : p.aJ with _ | ⟨a, _ | ⟨b, _ | ⟨c, l⟩⟩⟩
  ·rw [hq] at h; cases h
  ·rw [hq] at h; cases h
  ·rw [hq] at h;exact Z5 h id fun h => Z5 h Zdd Zdd
  ·rw [hq] at h; cases h
 refine Zdp h (fun h => ?_) id
 rcases hq : p.aJ with _ | ⟨a, _ | ⟨b, _ | ⟨c, l⟩⟩⟩
 ·rw [hq] at h; cases h
 ·rw [hq] at h; cases h
 ·rw [hq] at h;exact Z5 h id fun h => Z5 h id fun h => Z5 h Zdd fun h => Z5 h Zdd id
 ·rw [hq] at h; cases h
theorem Zqc {p : Zam} (h : Zai r p = true) : Zai (Zcb r o) p = true := by
 unfold Zai at h ⊢;exact Z5 h id fun h => Z5 h id fun h => Z5 h id Zo2
theorem Zm0 {l : List Zam} (h : Zcp l = true) (ho : o.aI = 0) : Zcp (l ++ [o]) = true := by
 unfold Zcp at h ⊢;rw [List.all_eq_true] at h ⊢;intro i hi;rw [List.mem_range, List.length_append] at hi
 rcases Nat.lt_or_ge i l.length with h2 | h2
 ·have h3 := h i (List.mem_range.2 h2);rw [List.getElem?_append_left h2, List.take_append_of_le_length (by omega)];exact h3
 ·rw [List.getElem?_append_right h2];have : i - l.length = 0 := by simp at hi; omega
  rw [this];show (o.aI == 0 || _) = true;rw [ho]
  rfl
theorem Zm1 (h : Zap r = true) (ho : Zai (Zcb r o) o = true) (hs : o.aI = 0) : Zap (Zcb r o) = true := by
 unfold Zap at h ⊢;refine Z5 h id fun h => Z5 h id fun h => Z5 h id fun h => Z5 h id fun h => Z5 h id fun h => Z5 h id fun h => Z5 h id fun h => Z5 h id fun h => Z5 h id fun h => Z5 h (fun h => ?_) fun h => Z5 h id fun h => Z5 h id fun h => Z5 h id fun h => Z5 h id fun h => Z5 h id fun h => Z5 h id fun h => Z5 h Zcn fun h => Z5 h (fun h => ?_) fun h => Zm0 h hs
 ·rw [List.all_eq_true] at h ⊢;intro a ha;have h2 := h a ha;unfold Zcy at h2 ⊢;exact Z5 h2 id fun h => Z5 h id Zj5
 ·rw [List.all_eq_true] at h ⊢;intro p hp
  rcases List.mem_append.1 (show p ∈ r.aA ++ [o] from hp) with h2 | h2
  ·exact Zqc (h p h2)
  ·rw [List.mem_singleton] at h2;rw [h2];exact ho
/-- An entry of a table. -/
theorem Zlw {x y : Zd} (h : Zap r = true) (hk : x.kind = 5) (hx : Zbn r x = true) (hy : Zbn r y = true) : Zap (Zcb r ⟨8, 0, 0, [x, y], []⟩) = true ∧ Zj (Zcb r ⟨8, 0, 0, [x, y], []⟩) ⟨17, r.aA.length, 0, ⟨#[]⟩, ⟨0, 0⟩⟩ = true := by
 refine ⟨Zm1 h ?_ rfl, ?_⟩
 ·show (true && (true && (true && (x.kind == 5 && (Zbn _ x && Zbn _ y))))) = true;rw [hk, Zdd hx, Zdd hy]
  rfl
 ·have hl : (r.aA.length : Int).toNat = r.aA.length := Int.toNat_natCast _;have hn : (⟨#[]⟩ : ByteArray).toList = [] := by rw [ByteArray.toList_eq]
  unfold Zj;rw [Bool.and_eq_true];refine ⟨?_, ?_⟩
  ·simp [Zn, hn]
  ·have ho : Za9 (Zcb r ⟨8, 0, 0, [x, y], []⟩) (r.aA.length : Int) 8 = true := by
    unfold Za9;rw [hl];show (decide ((0 : Int) ≤ (r.aA.length : Int)) && (match (r.aA ++ [(⟨8, 0, 0, [x, y], []⟩ : Zam)])[r.aA.length]? with | some o => o.kind == 8 | none => false)) = true;rw [List.getElem?_append_right (Nat.le_refl _), Nat.sub_self];simp
   simp [Zbi, Zbf, ho]
end
theorem Zk8 (q : Zf × Zd × Int) : (Zo1 q).2.2 = q.2.2 := by
 unfold Zo1
 split
 ·rename_i h; rw [h]
 ·rfl
theorem Zue {q : Zf × Zd × Int} (h : q.2.2 = 0) : Zo1 q = (q.1, q.2.1, 0) := if_pos h
/-- What is asked of an element. -/
def Zg1 (k n : Int) (q : Zf × Zd × Int) : Prop := (q.2.2 = 0 ↔ k < n) ∧ (q.2.2 = 0 → Zap q.1 = true ∧ Zj q.1 q.2.1 = true)
theorem Zg1.no {k n : Int} {r : Zf} {v : Zd} {c : Int} (hc : c ≠ 0) (h : ¬ k < n) : Zg1 k n (r, v, c) := ⟨⟨fun h2 => absurd h2 hc, fun h2 => absurd h2 h⟩, fun h2 => absurd h2 hc⟩
theorem Zg1.yes {k n : Int} {r : Zf} {v : Zd} (h : k < n) (h1 : Zap r = true) (h2 : Zj r v = true) : Zg1 k n (r, v, 0) := ⟨⟨fun _ => h, fun _ => rfl⟩, fun _ => ⟨h1, h2⟩⟩
theorem Zg1.wrap {k n : Int} {q : Zf × Zd × Int} (h : Zg1 k n q) : Zg1 k n (Zo1 q) := by
 refine ⟨by rw [Zk8]; exact h.1, fun h2 => ?_⟩;rw [Zk8] at h2;rw [Zue h2];exact h.2 h2
theorem Zo3 : (⟨#[]⟩ : ByteArray).toList = [] := by rw [ByteArray.toList_eq]
section
variable {r : Zf} {x : Zd} {k : Nat}
theorem Zuf (n : Nat) : plc ((k : Int) + 1) n = if k < n then (k : Int) else -1 := by
 unfold plc
 by_cases h : k < n
 ·rw [if_pos (by omega), if_pos h]; omega
 ·rw [if_neg (by omega), if_neg (by omega), if_neg h]
theorem Ziv (h : Zap r = true) {j : Nat} (hj : j < r.aA.length) : Zai r r.aA[j] = true := by
 unfold Zap at h;simp only [Bool.and_eq_true] at h;have h5 := h.2.2.2.2.2.2.2.2.2.2.2.2.2.2.2.2.2.1;rw [List.all_eq_true] at h5;exact h5 _ (List.getElem_mem hj)
theorem Zr3 (h : Zap r = true) {j : Nat} (hj : j < r.aA.length) (hk : r.aA[j].kind = 3 ∨ r.aA[j].kind = 4) : Zao r r.aA[j].aK = true := by
 have h6 := Ziv h hj;unfold Zai at h6;simp only [Bool.and_eq_true] at h6;have h7 := h6.2.2.2;unfold Zag at h7
 rcases hk with hk | hk
 ·rw [if_neg (by omega), if_neg (by omega), if_pos hk] at h7;simp only [Bool.and_eq_true] at h7;exact h7.2.2.2.1
 ·rw [if_neg (by omega), if_neg (by omega), if_neg (by omega), if_pos hk] at h7;simp only [Bool.and_eq_true] at h7;exact h7.2.2.1
theorem Zd6 (hx : Zj r x = true) (hk : Zbf x.kind ≠ 0) : Za9 r x.aH (Zbf x.kind) = true := by
 unfold Zj at hx;rw [Bool.and_eq_true] at hx;have h2 := hx.2;unfold Zbi at h2;rw [if_pos hk, Bool.and_eq_true] at h2;exact h2.1
theorem Zwa (h : Zap r = true) (hx : Zj r x = true) (hn : Zy x.aH) (hk : x.kind ≤ 7) (hs : (Zes r x).2 = 0) (h3 : ¬ (x.kind = 3 ∧ 120 < (Zes r x).1)) : Zg1 k (Zes r x).1 (elR r x k) := by
 have hk0 : 0 ≤ x.kind := by
  unfold Zj at hx;rw [Bool.and_eq_true] at hx;exact (Zja hx.1).1
 have hdx : Zbn r x = true := by
  unfold Zbn;rw [Bool.and_eq_true];exact ⟨decide_eq_true (by omega), hx⟩
 have hti : Zq0 ⟨1, (k : Int) + 1, 0, ⟨#[]⟩, ⟨0, 0⟩⟩ = some ((k : Int) + 1) := if_pos rfl;unfold elR
 by_cases h56 : x.kind = 5 ∨ x.kind = 6
 ·rw [if_pos h56];obtain ⟨j, hj, hjl⟩ := Zfq hx (by rcases h56 with e | e <;> rw [e] <;> decide);have ho := Zd6 hx (by rcases h56 with e | e <;> rw [e] <;> decide);rw [hj, Zdi hjl] at ho;have hok : r.aA[j].kind = Zbf x.kind := by simpa using ho
  have hd := Zr3 h hjl (by rcases h56 with e | e <;> rw [e] at hok <;> simp [Zbf] at hok <;> omega);have hsz : (Zes r x).1 = (r.aA[j].aK.length : Int) := by
   unfold Zes;rw [if_neg (by omega), if_neg (by omega), if_pos h56, hj, Zr0 hjl]
  rw [hsz, hj, Int.toNat_natCast, List.getElem?_eq_getElem hjl];simp only []
  by_cases hkl : k < r.aA[j].aK.length
  ·rw [List.getElem?_eq_getElem hkl];simp only [];unfold Zao at hd;rw [List.all_eq_true] at hd;have hy := hd _ (List.getElem_mem hkl)
   by_cases h5 : x.kind = 5
   ·rw [if_pos h5];have he := Zlw h h5 hdx hy;exact Zg1.yes (by omega) he.1 he.2
   ·rw [if_neg h5];exact Zg1.yes (by omega) h (Zf7 hy)
  ·rw [List.getElem?_eq_none (by omega)];exact Zg1.no (by decide) (by omega)
 ·rw [if_neg h56];unfold Zws;rw [if_neg (by omega)]
  by_cases h47 : x.kind = 4 ∨ x.kind = 7
  ·rw [if_pos h47, hti];simp only [];have hsz : (Zes r x).1 = (Zcw r x.aH : Int) := by
    unfold Zes;rw [if_neg (by omega), if_pos h47]
   rw [hsz, Zuf];have ho := Zd6 hx (by rcases h47 with e | e <;> rw [e] <;> decide);have hn0 : 0 ≤ x.aH := by
    unfold Za9 at ho;rw [Bool.and_eq_true] at ho;exact of_decide_eq_true ho.1
   by_cases hkl : k < Zcw r x.aH
   ·rw [if_pos hkl, if_neg (by omega)];refine Zg1.yes (by omega) h ?_;unfold Zj;rw [Bool.and_eq_true]
    rcases h47 with e | e
    ·rw [if_pos e];rw [e] at ho;have ho2 : Za9 r x.aH 2 = true := ho;exact ⟨by simp [Zn, Zo3, hn0], by simp [Zbi, Zbf, ho2]⟩
    ·rw [if_neg (by omega)];rw [e] at ho;have ho2 : Za9 r x.aH 5 = true := ho;exact ⟨by simp [Zn, Zo3, hn0], by simp [Zbi, Zbf, ho2, hkl]⟩
   ·rw [if_neg hkl, if_pos (by omega)];exact Zg1.no (by decide) (by omega)
  ·rw [if_neg h47];have key : ∀ t, Zc1 x = some t → (Zes r x).1 = (t.size : Int) → Zg1 k (Zes r x).1 (match Zc1 x with
     | none => (r, vZ, 114)
     | some t =>
      match Zq0 ⟨1, (k : Int) + 1, 0, ⟨#[]⟩, ⟨0, 0⟩⟩ with
      | none => (r, vZ, 101)
      | some n => if plc n t.size < 0 then (r, vZ, -1) else (r, ⟨2, 0, 0, Zq1 t (plc n t.size), ⟨0, 0⟩⟩, 0)) := by
    intro t ht hsz;rw [ht, hti, hsz];simp only [];rw [Zuf];have hts := Zgz hx hn ht
    by_cases hkl : k < t.size
    ·rw [if_pos hkl, if_neg (by omega)];refine Zg1.yes (by omega) h ?_;have hc : (Zq1 t k).size ≤ 120 := by
      unfold Zq1;rw [ByteArray.size_extract]
      omega
     unfold Zj;rw [Bool.and_eq_true];exact ⟨by simp [Zn]; omega, by simp [Zbi, Zbf]⟩
    ·rw [if_neg hkl, if_pos (by omega)];exact Zg1.no (by decide) (by omega)
   by_cases e3 : x.kind = 3
   ·have hsz : (Zes r x).1 = ((csT x.set_).size : Int) := by unfold Zes; rw [if_pos e3]
    refine key (csT x.set_) ?_ hsz;unfold Zc1;rw [if_neg (by omega), if_neg (by omega), if_pos e3, if_neg (by rw [hsz] at h3; omega)]
   ·have hsx : Zes r x = (match Zc1 x with | some t => ((t.size : Int), 0) | none => (0, 114)) := by
     unfold Zes;rw [if_neg e3, if_neg h47, if_neg h56, if_neg (by omega)]
     first | done | (cases Zc1 x <;> rfl)
    rcases ht : Zc1 x with _ | t
    ·rw [hsx, ht] at hs;exact absurd hs (by decide)
    ·have := key t ht (by rw [hsx, ht]);rw [ht] at this;exact this
theorem Zo4 (h : Zap r = true) (hx : Zj r x = true) (hn : Zy x.aH) (hk : x.kind ≤ 7) (h1 : k ≤ 1000) (hs : (Zes r x).2 = 0) (h3 : ¬ (x.kind = 3 ∧ 120 < (Zes r x).1)) : Zg1 k (Zes r x).1 (Zwu r x k) := by
 have hdx : Zbn r x = true := by
  unfold Zbn;rw [Bool.and_eq_true];exact ⟨decide_eq_true (by omega), hx⟩
 unfold Zwu;rw [h, hdx, if_pos (by simp; omega), Int.toNat_natCast];exact (Zwa h hx hn hk hs h3).wrap
end
end Go.Proofs.YtpmhelkiicigfaaGreatDoor
namespace Go.Proofs.YtpmhelkiicigfaaGreatDoor
open Go.RowKit
/-- The numbers of a value are in range. -/
def vIn (v : Zd) : Prop := Zy v.kind ∧ Zy v.aH ∧ Zy v.index ∧ v.text.size ≤ maxLen ∧ Zy v.set_.low ∧ Zy v.set_.high
theorem vIn.el {v : Zd} (h : vIn v) (F : Nat → Prop) (w : World) : Zg F w v [.int .i64 v.kind, .int .i64 v.aH, .int .i64 v.index, .string v.text, .int .i64 v.set_.low, .int .i64 v.set_.high] := ⟨rfl, h⟩
theorem Zde (n : Int) (h : -1000000 ≤ n) (h2 : n ≤ 1000000) : Zy n := ⟨by omega, by omega⟩
theorem Zr4 {α : Type} (sz : α → Nat) : ∀ (l : List α) (a : α), Za0 sz (l ++ [a]) = Za0 sz l + sz a
 | [], a => by simp [Za0]
 | b :: l, a => by
  rw [List.cons_append];simp only [Za0];rw [Zr4 sz l a]
  omega
theorem Zb4 {r : Zf} {v : Zd} (h : Zj r v = true) : v.text.size ≤ 120 := by
 by_cases h2 : v.kind = 2
 ·exact Zf2 h h2
 ·unfold Zj at h;rw [Bool.and_eq_true] at h;have h1 := h.1;unfold Zn at h1;rw [if_neg h2] at h1;have key : v.text.toList = [] → v.text.size ≤ 120 := fun e => by rw [Zr e]; omega
  (repeat' split at h1) <;> first | (simp only [Bool.and_eq_true] at h1; exact key (by simpa using h1.1.1.1.1)) | (simp only [Bool.and_eq_true] at h1; exact key (by simpa using h1.1.1.1)) | (simp only [Bool.and_eq_true] at h1; exact key (by simpa using h1.1.1)) | cases h1
end Go.Proofs.YtpmhelkiicigfaaGreatDoor
namespace Go.Proofs.YtpmhelkiicigfaaGreatDoor
open Go.RowKit
/-- What the building of a tree comes to. -/
inductive Zbp where
 | bad (c : Int)
 | good (p : Zaj) (vars : List Zd) (n : Nat)
/-- A variable's aH: found, or added. -/
def Ze7 (vars : List Zd) (x : Zd) : Option (Int × List Zd) :=
 if 0 ≤ Zei vars x then some (Zei vars x, vars) else if 24 ≤ vars.length then none else some ((vars.length : Int), vars ++ [x])
def itR (rc : List Zd → Nat → Zd → Zbp) : List Zd → Zaj → List Zd → Nat → Zbp
 | [], p, vs, n => .good p vs n
 | x :: l, p, vs, n =>
  if x.kind = 1 then (if 0 ≤ x.aH ∧ x.aH ≤ 120 then itR rc l { p with aH := x.aH } vs n else .bad 205)
  else if x.kind = 2 then itR rc l { p with text := x.text } vs n
  else if x.kind = 3 then itR rc l { p with set_ := x.set_ } vs n
  else if x.kind = 12 then (match rc vs n x with
   | .bad c => .bad c
   | .good q vs' n' => itR rc l { p with kids := p.kids ++ [q] } vs' n')
  else (match Ze7 vs x with
   | none => .bad 302
   | some (k, vs') => itR rc l { p with aH := k } vs' n)
def Zm2 (r : Zf) (n : Int) : List Zd := match r.aA[n.toNat]? with | some o => o.aJ | none => []
def Zvs (r : Zf) (n : Int) : Int := match r.aA[n.toNat]? with | some o => o.tag | none => 0
def Zdq (op : Int) : Zaj := ⟨op, ⟨#[]⟩, 0, ⟨0, 0⟩, []⟩
/-- The tree of a value: at most f levels. -/
def trR (r : Zf) : Nat → List Zd → Nat → Zd → Zbp
 | 0, _, _, _ => .bad 302
 | f + 1, vs, n, v =>
  if 300 < n + 1 then .bad 302
  else if v.kind = 12 then itR (trR r f) (Zm2 r v.aH) (Zdq (Zvs r v.aH)) vs (n + 1)
  else (match Zc1 v with
   | none => .bad 127
   | some t => .good { Zdq 1 with text := t } vs (n + 1))
/-- A state at which the rest comes to T. -/
def Now (code : Int) (res T : Zbp) : Prop := (code = 0 → res = T) ∧ (code ≠ 0 → T = .bad code)
theorem Now.of {res T : Zbp} (h : res = T) : Now 0 res T := ⟨fun _ => h, fun h => absurd rfl h⟩
theorem Now.stop {c : Int} {res T : Zbp} (h : T = .bad c) (hc : c ≠ 0) : Now c res T := ⟨fun h => absurd h hc, fun _ => h⟩
theorem Now.same {c : Int} {res res' T : Zbp} (h : Now c res T) (hc : c ≠ 0) : Now c res' T := ⟨fun h2 => absurd h2 hc, h.2⟩
theorem Now.eq {c : Int} {res res' T : Zbp} (h : Now c res T) (e : res' = res) : Now c res' T := by rw [e]; exact h
/-- The numbers of a pattern are in range. -/
structure PIn (p : Zaj) : Prop where
 op : Zy p.op
 text : p.text.size ≤ 1000
 aH : Zy p.aH
 low : Zy p.set_.low
 high : Zy p.set_.high
theorem PIn.zero (op : Int) (h : Zy op) : PIn (Zdq op) := ⟨h, Nat.zero_le _, Zde 0 (by omega) (by omega), Zde 0 (by omega) (by omega), Zde 0 (by omega) (by omega)⟩
abbrev Zbc : TypeId := 55
/-- The builder's state in block BB. -/
structure Bu (B BB : Nat) (TB : TypeId) (G : Nat → Prop) (w : World) (vars : List Zd) (n : Nat) (code : Int) (vv : Value) : Prop where
 blk : w.heap[BB]? = some (.cells #[.pointer (some ⟨B, 0, none⟩), vv, .int .i64 n, .int .i64 code] TB (0, 0))
 row : Zbe Zg 6 34 G w vars vv
 nG : ¬ G BB
 lt : ∀ b, G b → b < w.heap.size
 len : vars.length ≤ 24
 c64 : 0 ≤ code ∧ code ≤ 1000
section
variable {B BB : Nat} {TB : TypeId} {G : Nat → Prop} {w x : World} {vars : List Zd} {n : Nat} {code : Int} {vv : Value}
theorem Bu.keep (h : Bu B BB TB G w vars n code vv) (hk : Ze (fun b => b = BB ∨ G b) w x) : Bu B BB TB G x vars n code vv :=
 ⟨(hk.same BB (.inl rfl) (Zb h.blk)).trans h.blk, h.row.keep Zl.is (fun _ h => h) (hk.mono fun b hb => .inr hb), h.nG, fun b hb => Nat.lt_of_lt_of_le (h.lt b hb) hk.size, h.len, h.c64⟩
theorem Bu.later (h : Bu B BB TB G w vars n code vv) (hl : Za w x) : Bu B BB TB G x vars n code vv := h.keep (Ze.later hl)
/-- The aH of nodes is written. -/
theorem Bu.setN (h : Bu B BB TB G w vars n code vv) (m : Nat) : Bu B BB TB G (w.setCell ⟨BB, 2, none⟩ (.int .i64 m)) vars m code vv := by
 refine ⟨by have := Zaa (o := 2) h.blk (.int .i64 m); simpa using this, h.row.keep Zl.is (fun _ h => h) ((Ze.refl _ _).set h.nG _ _), h.nG, fun b hb => by simpa using h.lt b hb, h.len, h.c64⟩
/-- The code is written. -/
theorem Bu.setC (h : Bu B BB TB G w vars n code vv) (c : Int) (hc : 0 ≤ c ∧ c ≤ 1000) : Bu B BB TB G (w.setCell ⟨BB, 3, none⟩ (.int .i64 c)) vars n c vv := by
 refine ⟨by have := Zaa (o := 3) h.blk (.int .i64 c); simpa using this, h.row.keep Zl.is (fun _ h => h) ((Ze.refl _ _).set h.nG _ _), h.nG, fun b hb => by simpa using h.lt b hb, h.len, hc⟩
/-- The variables' slice is written. -/
theorem Bu.setV (h : Bu B BB TB G w vars n code vv) {y : World} {vars' : List Zd} {vv' : Value} {G' : Nat → Prop} (hk : Ze (fun b => ¬ G b) w y) (hrow : Zbe Zg 6 34 G' y vars' vv') (hG : ∀ b, G' b → G b ∨ w.heap.size ≤ b) (hl : vars'.length ≤ 24) :
  Bu B BB TB (fun b => G' b ∧ b < y.heap.size) (y.setCell ⟨BB, 1, none⟩ vv') vars' n code vv' := by
 have hlt := Zb h.blk;have hn : ¬ G' BB := fun hg => by
  rcases hG BB hg with h1 | h1
  ·exact h.nG h1
  ·omega
 refine ⟨?_, (hrow.trim Zl).keep Zl.is (fun _ h => h) ((Ze.refl _ _).set (fun h => hn h.1) _ _), fun h => hn h.1, fun b hb => by simpa using hb.2, hl, h.c64⟩;have hb : y.heap[BB]? = some (.cells (#[.pointer (some ⟨B, 0, none⟩), vv, .int .i64 n, .int .i64 code] : Array Value) TB (0, 0)) := (hk.same BB h.nG hlt).trans h.blk;have := Zaa (o := 1) hb vv'
 simpa using this
end
end Go.Proofs.YtpmhelkiicigfaaGreatDoor
namespace Go.Proofs.YtpmhelkiicigfaaGreatDoor
open Go
/-- Slots that are Zb8. -/
def Has : List (Nat × Value) → Array Value → Prop
 | [], _ => True
 | (k, v) :: t, A => A[k]? = some v ∧ Has t A
structure Fr (n : Nat) (ks : List (Nat × Value)) (a : Act) : Prop where
 size : a.tmps.size = n
 defers : a.defers = []
 has : Has ks a.tmps
theorem Zug (l : List Value) : (List.range l.length).map (fun k => l.getD k undef) = l := by
 refine List.ext_getElem (by simp) fun i h1 h2 => ?_;simp at h1;simp [h1]
/-- A frame of n slots, written out. -/
theorem Fr.lit {n : Nat} {ks : List (Nat × Value)} {a : Act} (h : Fr n ks a) : ∃ f : Nat → Value, a = ⟨((List.range n).map f).toArray, []⟩ ∧ ∀ k, k < n → a.tmps[k]? = some (f k) := by
 obtain ⟨⟨l⟩, d⟩ := a;obtain ⟨h1, rfl, -⟩ := h;have h1 : l.length = n := h1;refine ⟨fun k => l.getD k undef, ?_, fun k hk => ?_⟩
 ·rw [← h1, Zug]
 ·rw [List.getElem?_toArray];show l[k]? = some (l.getD k undef);rw [List.getD_eq_getElem?_getD, List.getElem?_eq_getElem (by omega)]
  rfl
theorem Zb8 {A : Array Value} {k : Nat} {v u : Value} (h : A[k]? = some v) (h2 : A[k]? = some u) : u = v := by
 rw [h] at h2;exact (Option.some.inj h2).symm
/-- The end of a piece. -/
def Zjm (R : Act → World → Prop) : Exit → Act → World → Prop
 | .normal, a, w => R a w
 | _, _, _ => False
variable {P : Program} {c : Code} {R K : Act → World → Prop} {Q : Exit → Act → World → Prop} {a : Act} {w : World}
theorem Ziw (h : c.wp P (Zjm R) a w) (k : ∀ a' w', R a' w' → K a' w') : c.wp P (Exit.then K Q) a w :=
 wp_mono h fun e a' w' hr => by cases e with | normal => exact k a' w' hr | _ => exact hr.elim
theorem Zqd {n : Nat} (h : c.wp P (Zjm R) a w) (k : ∀ a' w', R a' w' → K a' w') : c.wp P (Exit.inBlock n (Exit.then K Q)) a w :=
 wp_mono h fun e a' w' hr => by cases e with | normal => exact k a' w' hr | _ => exact hr.elim
/-- Pieces of code. -/
def cL : Code → Code | .seq a _ => a | c => c
def cR : Code → Code | .seq _ b => b | c => c
def cB : Code → Code | .block _ c => c | .loop c => c | c => c
def Zfj (f : Func) : Code := match f.body with | some c => c | none => .skip
end Go.Proofs.YtpmhelkiicigfaaGreatDoor
namespace Go.Proofs.YtpmhelkiicigfaaGreatDoor
open Go.RowKit
abbrev PC (p : Zaj) (vk : Value) : List Value := [.int .i64 p.op, .string p.text, .int .i64 p.aH, .int .i64 p.set_.low, .int .i64 p.set_.high, vk]
abbrev VC6 (v : Zd) : List Value := [.int .i64 v.kind, .int .i64 v.aH, .int .i64 v.index, .string v.text, .int .i64 v.set_.low, .int .i64 v.set_.high]
abbrev ZP6 : List Value := [.int .i64 0, .string ⟨#[]⟩, .int .i64 0, .int .i64 0, .int .i64 0, .slice none 0 0]
/-- What is left by the building of a tree. -/
def Zm3 (f B BB : Nat) (TB : TypeId) (G : Nat → Prop) (n0 : Nat) (c0 : Int) (T : Zbp) (w : World) (e : Ending) (w' : World) : Prop :=
 ∃ (p : Zaj) (pcs : List Value) (vars : List Zd) (n : Nat) (code : Int) (vv : Value) (G' H : Nat → Prop), e = .returned (.agg pcs.toArray) ∧ Zcm (f + 1) H w' p pcs ∧ Bu B BB TB G' w' vars n code vv ∧ Now code (.good p vars n) T ∧
  (n0 ≤ n ∧ (c0 = 0 → n ≤ 303 + 2 * f ∨ n ≤ n0 + 1) ∧ (c0 ≠ 0 → n ≤ n0 + 1)) ∧ (∀ b, G' b → G b ∨ w.heap.size ≤ b) ∧ (∀ b, H b → w.heap.size ≤ b ∧ b < w'.heap.size ∧ ¬ G' b) ∧ Tch (fun b => b = BB ∨ G b) w w'
theorem Now.code {c : Int} {p : Zaj} {vs : List Zd} {n : Nat} {c0 : Int} (h : Now c (.good p vs n) (.bad c0)) : c ≠ 0 := fun e => by
 have := h.1 e
 cases this
/-- A pattern without kids. -/
theorem Zqe {f : Nat} {H : Nat → Prop} {w : World} {p : Zaj} (hp : PIn p) (hk : p.kids = []) : Zcm (f + 1) H w p (PC p (.slice none 0 0)) :=
 ⟨fun _ => 0, .slice none 0 0, rfl, hp.op, by have := hp.text; unfold maxLen; omega, hp.aH, hp.low, hp.high, by rw [hk]; exact Zbe.nil _ _ _ _ _⟩
theorem Zqf {f : Nat} {H : Nat → Prop} {w : World} {p : Zaj} {vk : Value} (hp : PIn p) (hk : Zbe (Zcm f) 6 Zbc H w p.kids vk) : Zcm (f + 1) H w p (PC p vk) :=
 ⟨fun _ => 0, vk, rfl, hp.op, by have := hp.text; unfold maxLen; omega, hp.aH, hp.low, hp.high, hk.keep (Zv f).is (fun y hy => ⟨hy, rfl⟩) (Ze.refl _ _)⟩
/-- The state of a call that builds a tree: w0 the world when it began, L the level of the kids. -/
structure TrS (L : Nat) (w0 : World) (B BB RB PB : Nat) (TB : TypeId) (G0 : Nat → Prop) (w : World) (p : Zaj) (vars : List Zd) (n : Nat) (code : Int) (vv vk : Value) (G H : Nat → Prop) : Prop where
 bu : Bu B BB TB G w vars n code vv
 pb : w.heap[PB]? = some (.cells (PC p vk).toArray Zbc (0, 0))
 kids : Zbe (Zcm L) 6 Zbc H w p.kids vk
 pin : PIn p
 rb : w.heap[RB]? = some (.cells ZP6.toArray Zbc (0, 0))
 gG : ∀ b, G b → G0 b ∨ w0.heap.size ≤ b
 gP : ¬ G PB
 gR : ¬ G RB
 hH : ∀ b, H b → w0.heap.size ≤ b ∧ b < w.heap.size ∧ ¬ G b ∧ b ≠ PB ∧ b ≠ RB
 tch : Tch (fun b => b = BB ∨ G0 b) w0 w
 pos : w0.heap.size ≤ RB ∧ w0.heap.size ≤ PB ∧ PB ≠ RB ∧ BB < w0.heap.size
 g0 : ∀ b, G0 b → b < w0.heap.size
section
variable {L B BB RB PB : Nat} {w0 w x : World} {TB : TypeId} {G0 : Nat → Prop} {p : Zaj} {vars : List Zd} {n : Nat} {code : Int} {vv vk : Value} {G H : Nat → Prop}
/-- What the state keeps. -/
def TrK (BB RB PB : Nat) (G H : Nat → Prop) (b : Nat) : Prop := b = BB ∨ G b ∨ b = PB ∨ H b ∨ b = RB
theorem TrS.keep (h : TrS L w0 B BB RB PB TB G0 w p vars n code vv vk G H) (hk : Ze (TrK BB RB PB G H) w x) (ht : Tch (fun b => b = BB ∨ G0 b) w0 x) : TrS L w0 B BB RB PB TB G0 x p vars n code vv vk G H :=
 ⟨h.bu.keep (hk.mono fun b hb => hb.elim .inl fun hg => .inr (.inl hg)), (hk.same PB (.inr (.inr (.inl rfl))) (Zb h.pb)).trans h.pb, h.kids.keep (Zv L).is (fun _ h => h) (hk.mono fun b hb => .inr (.inr (.inr (.inl hb)))), h.pin,
  (hk.same RB (.inr (.inr (.inr (.inr rfl)))) (Zb h.rb)).trans h.rb, h.gG, h.gP, h.gR, fun b hb => ⟨(h.hH b hb).1, Nat.lt_of_lt_of_le (h.hH b hb).2.1 hk.size, (h.hH b hb).2.2⟩, ht, h.pos, h.g0⟩
theorem TrS.later (h : TrS L w0 B BB RB PB TB G0 w p vars n code vv vk G H) (hl : Za w x) : TrS L w0 B BB RB PB TB G0 x p vars n code vv vk G H := h.keep (Ze.later hl) (h.tch.la hl)
/-- A cell of the pattern is written. -/
theorem TrS.setP (h : TrS L w0 B BB RB PB TB G0 w p vars n code vv vk G H) (o : Nat) (v : Value) (p' : Zaj) (hp : (PC p vk).toArray.setIfInBounds o v = (PC p' vk).toArray) (hk : p'.kids = p.kids) (hi : PIn p') : TrS L w0 B BB RB PB TB G0 (w.setCell ⟨PB, o, none⟩ v) p' vars n code vv vk G H := by
 have hpos := h.pos;have hK : Ze (fun b => b ≠ PB) w (w.setCell ⟨PB, o, none⟩ v) := (Ze.refl _ _).set (fun h => h rfl) _ _;have ht : Tch (fun b => b = PB) w (w.setCell ⟨PB, o, none⟩ v) := Tch.set (P := fun b => b = PB) (Tch.refl _ _) rfl _ _;refine ⟨h.bu.keep (hK.mono fun b hb e => by
  rcases hb with hb | hb
  ·omega
  ·exact h.gP (e ▸ hb)), by rw [← hp]; exact Zaa h.pb v, by rw [hk]; exact h.kids.keep (Zv L).is (fun _ h => h) (hK.mono fun b hb => (h.hH b hb).2.2.2.1), hi, (hK.same RB (fun e => hpos.2.2.1 e.symm) (Zb h.rb)).trans h.rb, h.gG, h.gP, h.gR, fun b hb => ⟨(h.hH b hb).1, by simpa using (h.hH b hb).2.1, (h.hH b hb).2.2⟩, Tch.trans h.tch ht (fun _ h => h) (fun b hl e => by omega), h.pos, h.g0⟩
/-- The code is written. -/
theorem TrS.setCode (h : TrS L w0 B BB RB PB TB G0 w p vars n code vv vk G H) (c : Int) (hc : 0 ≤ c ∧ c ≤ 1000) : TrS L w0 B BB RB PB TB G0 (w.setCell ⟨BB, 3, none⟩ (.int .i64 c)) p vars n c vv vk G H := by
 have hpos := h.pos;have hK : Ze (fun b => b ≠ BB) w (w.setCell ⟨BB, 3, none⟩ (.int .i64 c)) := (Ze.refl _ _).set (fun h => h rfl) _ _;exact ⟨h.bu.setC c hc, (hK.same PB (by omega) (Zb h.pb)).trans h.pb, h.kids.keep (Zv L).is (fun _ h => h) (hK.mono fun b hb e => by have := (h.hH b hb).1; omega), h.pin, (hK.same RB (by omega) (Zb h.rb)).trans h.rb, h.gG, h.gP, h.gR, fun b hb => ⟨(h.hH b hb).1, by simpa using (h.hH b hb).2.1, (h.hH b hb).2.2⟩, h.tch.set (.inl rfl) 3 _, h.pos, h.g0⟩
/-- A variable's aH was asked. -/
theorem TrS.var (h : TrS L w0 B BB RB PB TB G0 w p vars n code vv vk G H) {vars' : List Zd} {code' : Int} {vv' : Value} {G' : Nat → Prop} (hb : Bu B BB TB G' x vars' n code' vv') (hG : ∀ b, G' b → G b ∨ w.heap.size ≤ b) (ht : Tch (fun b => b = BB ∨ G b) w x) : TrS L w0 B BB RB PB TB G0 x p vars' n code' vv' vk G' H := by
 have hpos := h.pos;have hpl := Zb h.pb;have hrl := Zb h.rb;have hs := h.tch.size;refine ⟨hb, ht.has h.pb (by rintro (e | e); omega; exact h.gP e), h.kids.keep (Zv L).is (fun _ h => h) (ht.keeps fun b hb e => ?_), h.pin, ht.has h.rb (by rintro (e | e); omega; exact h.gR e), fun b hb => ?_, fun hg => ?_, fun hg => ?_, fun b hb => ?_, Tch.trans h.tch ht (fun _ h => h) (fun b hl hp => ?_), h.pos, h.g0⟩
 ·have h1 := h.hH b hb
  rcases e with e | e
  ·omega
  ·exact h1.2.2.1 e
 ·rcases hG b hb with q | q
  ·exact h.gG b q
  ·right; omega
 ·rcases hG PB hg with q | q
  ·exact h.gP q
  ·omega
 ·rcases hG RB hg with q | q
  ·exact h.gR q
  ·omega
 ·have h1 := h.hH b hb;refine ⟨h1.1, Nat.lt_of_lt_of_le h1.2.1 ht.size, fun hg => ?_, h1.2.2.2⟩
  rcases hG b hg with q | q
  ·exact h1.2.2.1 q
  ·omega
 ·rcases hp with hp | hp
  ·exact .inl hp
  ·rcases h.gG b hp with q | q
   ·exact .inr q
   ·omega
/-- A kid was built. -/
theorem TrS.child (h : TrS L w0 B BB RB PB TB G0 w p vars n code vv vk G H) {vars' : List Zd} {n' : Nat} {code' : Int} {vv' : Value} {G' : Nat → Prop} (hb : Bu B BB TB G' x vars' n' code' vv') (hG : ∀ b, G' b → G b ∨ w.heap.size ≤ b) (ht : Tch (fun b => b = BB ∨ G b) w x) : TrS L w0 B BB RB PB TB G0 x p vars' n' code' vv' vk G' H := by
 have h2 : TrS L w0 B BB RB PB TB G0 x p vars' n' code' vv' vk G' H := by
  have hpos := h.pos;have hpl := Zb h.pb;have hrl := Zb h.rb;have hs := h.tch.size;refine ⟨hb, ht.has h.pb (by rintro (e | e); omega; exact h.gP e), h.kids.keep (Zv L).is (fun _ h => h) (ht.keeps fun b hb e => ?_), h.pin, ht.has h.rb (by rintro (e | e); omega; exact h.gR e), fun b hb => ?_, fun hg => ?_, fun hg => ?_, fun b hb => ?_, Tch.trans h.tch ht (fun _ h => h) (fun b hl hp => ?_), h.pos, h.g0⟩
  ·have h1 := h.hH b hb
   rcases e with e | e
   ·omega
   ·exact h1.2.2.1 e
  ·rcases hG b hb with q | q
   ·exact h.gG b q
   ·right; omega
  ·rcases hG PB hg with q | q
   ·exact h.gP q
   ·omega
  ·rcases hG RB hg with q | q
   ·exact h.gR q
   ·omega
  ·have h1 := h.hH b hb;refine ⟨h1.1, Nat.lt_of_lt_of_le h1.2.1 ht.size, fun hg => ?_, h1.2.2.2⟩
   rcases hG b hg with q | q
   ·exact h1.2.2.1 q
   ·omega
  ·rcases hp with hp | hp
   ·exact .inl hp
   ·rcases h.gG b hp with q | q
    ·exact .inr q
    ·omega
 exact h2
/-- A kid was appended: V the world ahead of the append (behind the new element's block E), Y behind it. -/
theorem TrS.push (h : TrS L w0 B BB RB PB TB G0 w p vars n code vv vk G H) {Y : World} {q : Zaj} {vk' : Value} {Hq : Nat → Prop} (hl : Za w x) (hHq : ∀ b, Hq b → w0.heap.size ≤ b ∧ b < w.heap.size ∧ ¬ G b ∧ b ≠ PB ∧ b ≠ RB)
  (hrow : Zbe (Zcm L) 6 Zbc (fun y => H y ∨ Hq y ∨ y = x.heap.size) Y (p.kids ++ [q]) vk') (hk : Ze (fun y => ¬ H y) x Y) (hb0 : Below 0 x Y) :
  ∃ H', TrS L w0 B BB RB PB TB G0 (Y.setCell ⟨PB, 5, none⟩ vk') { p with kids := p.kids ++ [q] } vars n code vv vk' G H' ∧ ∀ b, H' b → H b ∨ Hq b ∨ b = x.heap.size := by
 have hpos := h.pos;have hxs := hl.size;have hYs := hk.size;have hpl := Zb h.pb;have hrl := Zb h.rb;have hs := h.tch.size;have hKx : Ze (fun y => ¬ H y) w Y := ⟨Nat.le_trans hxs hYs, fun b hb hlt => (hk.same b hb (by omega)).trans (hl.block b hlt)⟩;have hKs : Ze (fun y => y ≠ PB) Y (Y.setCell ⟨PB, 5, none⟩ vk') := (Ze.refl _ _).set (fun h => h rfl) _ _;have hK2 : Ze (fun y => ¬ H y ∧ y ≠ PB) w (Y.setCell ⟨PB, 5, none⟩ vk') := (hKx.mono fun b hb => hb.1).trans (hKs.mono fun b hb => hb.2);have hnot : ∀ b, (H b ∨ Hq b ∨ b = x.heap.size) → w0.heap.size ≤ b ∧ ¬ G b ∧ b ≠ PB ∧ b ≠ RB := fun b hb => by
  rcases hb with hb | hb | hb
  ·have := h.hH b hb; exact ⟨this.1, this.2.2⟩
  ·have := hHq b hb; exact ⟨this.1, this.2.2⟩
  ·exact ⟨by omega, fun hg => by have := h.bu.lt b hg; omega, by omega, by omega⟩
 refine ⟨fun y => (H y ∨ Hq y ∨ y = x.heap.size) ∧ y < Y.heap.size, ⟨h.bu.keep (hK2.mono fun b hb => ?_), ?_, ?_, ⟨h.pin.op, h.pin.text, h.pin.aH, h.pin.low, h.pin.high⟩, (hK2.same RB ⟨fun hr => (h.hH RB hr).2.2.2.2 rfl, fun e => hpos.2.2.1 e.symm⟩ hrl).trans h.rb, h.gG, h.gP, h.gR, fun b hb => ⟨(hnot b hb.1).1, by simpa using hb.2, (hnot b hb.1).2⟩, Tch.trans h.tch (⟨hK2.mono fun b hb => ⟨fun h => hb (.inl h), fun h => hb (.inr h)⟩, ((Below.mono hl (Nat.zero_le _)).trans hb0).setCell (Nat.zero_le _) _⟩ : Tch (fun b => H b ∨ b = PB) w _) (fun _ h => h) (fun b hlt hp => ?_), h.pos, h.g0⟩, fun b hb => hb.1⟩
 ·rcases hb with hb | hb
  ·subst hb; exact ⟨fun hr => by have := (h.hH b hr).1; omega, by omega⟩
  ·exact ⟨fun hr => (h.hH b hr).2.2.1 hb, fun e => h.gP (e ▸ hb)⟩
 ·have hb : Y.heap[PB]? = some (.cells (PC p vk).toArray Zbc (0, 0)) := (hKx.same PB (fun hr => (h.hH PB hr).2.2.2.1 rfl) hpl).trans h.pb;have := Zaa (o := 5) hb vk'
  simpa using this
 ·exact (hrow.trim (Zv L)).keep (Zv L).is (fun _ h => h) (hKs.mono fun b hb => (hnot b hb.1).2.2.1)
 ·rcases hp with hp | hp
  ·have := (h.hH b hp).1; omega
  ·omega
end
/-- The result is a leaf, written into block RB at the end. -/
theorem Zeg {f B BB RB n0 n' : Nat} {TB : TypeId} {G G' : Nat → Prop} {c0 c' : Int} {T : Zbp} {w y : World} {vars : List Zd} {vv : Value} (hb : Bu B BB TB G' y vars n' c' vv) (ht : Tch (fun b => b = BB ∨ G b) w y) (hG : ∀ b, G' b → G b ∨ w.heap.size ≤ b) (hRG : ¬ G' RB) (hR : w.heap.size ≤ RB) (hBB : BB < w.heap.size) (p : Zaj) (hp : PIn p) (hk : p.kids = []) (hN : Now c' (.good p vars n') T) (hnn : n0 ≤ n' ∧ (c0 = 0 → n' ≤ 303 + 2 * f ∨ n' ≤ n0 + 1) ∧ (c0 ≠ 0 → n' ≤ n0 + 1)) :
  Zm3 f B BB TB G n0 c0 T w (.returned (.agg (PC p (.slice none 0 0)).toArray)) (Zz y RB 0 (PC p (.slice none 0 0))) := by
 have hK := Zaf (F := fun b => b ≠ RB) (B := RB) (w := y) (fun h => h rfl) (PC p (.slice none 0 0)) y 0 (Ze.refl _ _);have hB := Zae (Nat.zero_le RB) (PC p (.slice none 0 0)) y 0 (Below.refl _ _);refine ⟨p, _, vars, n', c', vv, G', fun _ => False, rfl, Zqe hp hk, hb.keep (hK.mono fun b hb e => ?_), hN, hnn, hG, fun _ h => h.elim, Tch.trans ht (⟨hK, hB⟩ : Tch (fun b => b = RB) y _) (fun _ h => h) (fun b hl e => by omega)⟩
 rcases hb with hb | hb
 ·omega
 ·exact hRG (e ▸ hb)
/-- The result is the pattern of the state, written into block RB at the end. -/
theorem Zq3 {L B BB RB PB n0 n : Nat} {TB : TypeId} {G0 G H : Nat → Prop} {code : Int} {T : Zbp} {w0 y : World} {p : Zaj} {vars : List Zd} {vv vk : Value} (h : TrS L w0 B BB RB PB TB G0 y p vars n code vv vk G H) (hN : Now code (.good p vars n) T) (hnn : n0 ≤ n ∧ n ≤ 303 + 2 * L) :
  Zm3 L B BB TB G0 n0 0 T w0 (.returned (.agg (PC p vk).toArray)) (Zz y RB 0 (PC p vk)) := by
 have hpos := h.pos;have hK := Zaf (F := fun b => b ≠ RB) (B := RB) (w := y) (fun h => h rfl) (PC p vk) y 0 (Ze.refl _ _);have hB := Zae (Nat.zero_le RB) (PC p vk) y 0 (Below.refl _ _);refine ⟨p, _, vars, n, code, vv, G, H, rfl, Zqf h.pin (h.kids.keep (Zv L).is (fun _ h => h) (hK.mono fun b hb e => (h.hH b hb).2.2.2.2 e)), h.bu.keep (hK.mono fun b hb e => ?_), hN, ⟨hnn.1, fun _ => .inl hnn.2, fun h => absurd rfl h⟩, h.gG, fun b hb => ⟨(h.hH b hb).1, Nat.lt_of_lt_of_le (h.hH b hb).2.1 hK.size, (h.hH b hb).2.2.1⟩, Tch.trans h.tch (⟨hK, hB⟩ : Tch (fun b => b = RB) y _) (fun _ h => h) (fun b hl e => by omega)⟩
 rcases hb with hb | hb
 ·omega
 ·exact h.gR (e ▸ hb)
theorem Now.child {code code2 : Int} {r : Zf} {f n n2 : Nat} {x : Zd} {l vars vars2 : List Zd} {p q : Zaj} {T : Zbp} (hk : x.kind = 12) (h : Now code (itR (trR r f) (x :: l) p vars n) T) (h2 : Now code2 (.good q vars2 n2) (if code = 0 then trR r f vars n x else .bad code)) :
  Now code2 (itR (trR r f) l { p with kids := p.kids ++ [q] } vars2 n2) T := by
 have e : itR (trR r f) (x :: l) p vars n = (match trR r f vars n x with
   | .bad c => .bad c
   | .good q vs' n' => itR (trR r f) l { p with kids := p.kids ++ [q] } vs' n') := by rw [itR, if_neg (by omega), if_neg (by omega), if_neg (by omega), if_pos hk] <;> first | done | (cases trR r f vars n x <;> rfl)
 by_cases hc : code = 0
 ·rw [if_pos hc] at h2;have h1 := h.1 hc;rw [e] at h1;refine ⟨fun hc2 => ?_, fun hc2 => ?_⟩
  ·rw [← h2.1 hc2] at h1;exact h1
  ·rw [h2.2 hc2] at h1;exact h1.symm
 ·rw [if_neg hc] at h2;refine ⟨fun hc2 => ?_, fun hc2 => ?_⟩
  ·have := h2.1 hc2
   cases this
  ·have := h2.2 hc2
   injection this with e2
   rw [← e2];exact h.2 hc
theorem Now.var {code code2 : Int} {rc : List Zd → Nat → Zd → Zbp} {n : Nat} {x : Zd} {l vars vars2 : List Zd} {p : Zaj} {T : Zbp} {k : Int} (hk : ¬ x.kind = 1 ∧ ¬ x.kind = 2 ∧ ¬ x.kind = 3 ∧ ¬ x.kind = 12) (h : Now code (itR rc (x :: l) p vars n) T) (h1 : ∀ k0 vs0, Ze7 vars x = some (k0, vs0) → k = k0 ∧ vars2 = vs0 ∧ code2 = code) (h2 : Ze7 vars x = none → code2 = if code = 0 then 302 else code) :
  Now code2 (itR rc l { p with aH := k } vars2 n) T := by
 have e : itR rc (x :: l) p vars n = (match Ze7 vars x with
   | none => .bad 302
   | some (k, vs') => itR rc l { p with aH := k } vs' n) := by rw [itR, if_neg hk.1, if_neg hk.2.1, if_neg hk.2.2.1, if_neg hk.2.2.2] <;> first | done | (rcases Ze7 vars x with _ | ⟨a, b⟩ <;> rfl)
 rcases hv : Ze7 vars x with _ | ⟨k0, vs0⟩
 ·have h3 := h2 hv
  by_cases hc : code = 0
  ·rw [if_pos hc] at h3;have h4 := h.1 hc;rw [e, hv] at h4;subst h3;exact ⟨fun h => absurd h (by decide), fun _ => h4.symm⟩
  ·rw [if_neg hc] at h3;subst h3;exact ⟨fun h => absurd h hc, fun _ => h.2 hc⟩
 ·obtain ⟨rfl, rfl, rfl⟩ := h1 _ _ hv;rw [e, hv] at h;exact h
/-- A tree is built: what both sides are to do at f levels. -/
def Zep (fid : FuncId) (TB : TypeId) (r : Zf) (cs : List Value) (I : World → Prop) (f : Nat) : Prop :=
 ∀ (B BB : Nat) (F G : Nat → Prop) (vars : List Zd) (n : Nat) (code : Int) (vv : Value) (w : World) (v : Zd), Hd (Bu B BB TB G w vars n code vv) → Hd (Z3 F w B r cs) → Hd (∀ b, F b → b ≠ BB ∧ ¬ G b ∧ b < w.heap.size) → Hd (B ≠ BB ∧ ¬ G B) → n ≤ 1000 → Hd (code = 0 → 301 ≤ n + f) → Hd (Zj r v = true) → Hd (vIn v) → Hd (∀ x, Tch (fun b => b = BB ∨ G b ∨ w.heap.size ≤ b) w x → I x) →
  Calls Tryz.prog fid #[.pointer (some ⟨BB, 0, none⟩), .agg (VC6 v).toArray] w (Zm3 f B BB TB G n code (if code = 0 then trR r f vars n v else .bad code) w)
end Go.Proofs.YtpmhelkiicigfaaGreatDoor
namespace Go.Proofs.YtpmhelkiicigfaaGreatDoor
open Go.RowKit
end Go.Proofs.YtpmhelkiicigfaaGreatDoor
namespace Go.Proofs.YtpmhelkiicigfaaGreatDoor
open Go.RowKit
theorem Zo5 (s : ByteArray) (w : World) : Calls Tryz.prog 113 #[.string s] w fun e w' => e = .returned (.agg #[.int .i64 2, .int .i64 0, .int .i64 0, .string s, .int .i64 0, .int .i64 0]) ∧ Za w w' := by
 have HL := zh ((Za.refl w).alloc (.cells #[.int .i64 0, .int .i64 0, .int .i64 0, .string ⟨#[]⟩, .int .i64 0, .int .i64 0] 34));go_enter Tryz.func113, Tryz.ntmps113;go_wp2_with fail;refine bodyPost_ret (v := .agg #[.int .i64 2, .int .i64 0, .int .i64 0, .string s, .int .i64 0, .int .i64 0]) (by simp [results, Tryz.results113, go_sem]) rfl ⟨rfl, ?_⟩
 first | exact (Za.refl _).alloc _ | exact ((Za.refl _).alloc _).alloc _ | exact Za.refl _
end Go.Proofs.YtpmhelkiicigfaaGreatDoor
namespace Go.Proofs.YtpmhelkiicigfaaGreatDoor
open Go.RowKit
end Go.Proofs.YtpmhelkiicigfaaGreatDoor
namespace Go.Proofs.YtpmhelkiicigfaaGreatDoor
open Go.RowKit
set_option maxRecDepth 100000
set_option maxHeartbeats 4000000
/-- A drawn value: its numbers fit, its text is short. -/
def vOk (v : Zd) : Prop := Zy v.kind ∧ Zy v.aH ∧ Zy v.index ∧ v.text.size ≤ 121 ∧ Zy v.set_.low ∧ Zy v.set_.high
theorem vOk.el {v : Zd} (h : vOk v) (F : Nat → Prop) (w : World) : Zg F w v [.int .i64 v.kind, .int .i64 v.aH, .int .i64 v.index, .string v.text, .int .i64 v.set_.low, .int .i64 v.set_.high] :=
 ⟨rfl, h.1, h.2.1, h.2.2.1, by have := h.2.2.2.1; unfold maxLen; omega, h.2.2.2.2.1, h.2.2.2.2.2⟩
set_option maxRecDepth 100000
set_option maxHeartbeats 8000000
theorem Z3.tch {F P : Nat → Prop} {w x : World} {B : Nat} {r : Zf} {cs : List Value} (h : Z3 F w B r cs) (ht : Tch P w x) (hF : ∀ b, F b → ¬ P b) (hB : ¬ P B) : Z3 F x B r cs :=
 ⟨ht.has h.blk hB, Zal.keep h.el (fun _ h => h) (ht.keeps hF)⟩
theorem Zix {r : Zf} : ∀ {ks : List Int} {l : List Zd}, Zh r ks l = true → l.length = ks.length ∧ ∀ x ∈ l, Zj r x = true
 | [], [], _ => ⟨rfl, by simp⟩
 | k :: ks, v :: l, h => by
  unfold Zh at h;rw [Bool.and_eq_true] at h;have h2 := Zix h.2;refine ⟨by simp [h2.1], fun x hx => ?_⟩
  rcases List.mem_cons.1 hx with rfl | hx
  ·have h3 := h.1;unfold Zx at h3;rw [Bool.and_eq_true] at h3;exact h3.2
  ·exact h2.2 x hx
 | [], _ :: _, h => by unfold Zh at h; cases h
 | _ :: _, [], h => by unfold Zh at h; cases h
theorem Zm4 (op : Int) : (Zar op).length ≤ 2 := by
 unfold Zar
 (repeat' split) <;> simp
theorem Zh5 {r : Zf} (h : Zap r = true) {j : Nat} (hj : j < r.aA.length) (hk : r.aA[j].kind = 7) : r.aA[j].aJ.length ≤ 2 ∧ ∀ x ∈ r.aA[j].aJ, Zj r x = true := by
 have h6 := Ziv h hj;unfold Zai at h6;simp only [Bool.and_eq_true] at h6;have h7 := h6.2.2.2;unfold Zag at h7;rw [if_neg (by omega), if_neg (by omega), if_neg (by omega), if_neg (by omega), if_neg (by omega), if_neg (by omega), if_pos hk] at h7;unfold Zab at h7;simp only [Bool.and_eq_true] at h7;have h8 := Zix h7.2.2;have := Zm4 r.aA[j].tag;exact ⟨by omega, h8.2⟩
/-- An object's cells, with the block's place. -/
theorem Z3.objF {F : Nat → Prop} {w : World} {r : Zf} {A : Option Addr} {c : Nat} (h : Zo Zbk 5 F w r.aA (.slice A r.aA.length c)) {i : Nat} (hi : i < r.aA.length) :
  ∃ b o Ai ci Ak ck, A = some ⟨b, o, none⟩ ∧ F b ∧ b < w.heap.size ∧ (w.cell? ⟨b, o + i * 5, none⟩ = some (.int .i64 r.aA[i].kind) ∧ w.cell? ⟨b, o + i * 5 + 1, none⟩ = some (.int .i64 r.aA[i].tag) ∧ w.cell? ⟨b, o + i * 5 + 2, none⟩ = some (.int .i64 r.aA[i].aI) ∧
   w.cell? ⟨b, o + i * 5 + 3, none⟩ = some (.slice Ai r.aA[i].aJ.length ci) ∧ w.cell? ⟨b, o + i * 5 + 4, none⟩ = some (.slice Ak r.aA[i].aK.length ck)) ∧
   Zo Zg 6 F w r.aA[i].aJ (.slice Ai r.aA[i].aJ.length ci) ∧ Zy r.aA[i].tag := by
 obtain ⟨A', c', e, _, _, hel⟩ := h;cases e;obtain ⟨b, o, cs, rfl, hF, hb, hE, hc⟩ := hel i hi;obtain ⟨vi, vk, rfl, h0, h1, h2, h3, h4⟩ := hE;obtain ⟨Ai, ci, rfl, _⟩ := id h3;obtain ⟨Ak, ck, rfl, _⟩ := id h4;exact ⟨b, o, Ai, ci, Ak, ck, rfl, hF, hb, ⟨hc 0 _ rfl, hc 1 _ rfl, hc 2 _ rfl, hc 3 _ rfl, hc 4 _ rfl⟩, h3, h1⟩
theorem Ziy {F : Nat → Prop} {w : World} {l : List Zd} {A : Option Addr} {c : Nat} (h : Zo Zg 6 F w l (.slice A l.length c)) : ∀ x ∈ l, vIn x := fun x hx => by
 obtain ⟨i, hi, rfl⟩ := List.getElem_of_mem hx;obtain ⟨_, _, _, _, _, hv⟩ := h.vat hi;exact hv.2
theorem Zk9 {r : Zf} {f n : Nat} {vars : List Zd} {v : Zd} (h : 300 < n + 1) : trR r f vars n v = .bad 302 := by
 cases f with
 | zero => rfl
 | succ f => exact if_pos h
theorem Zla {r : Zf} {f n : Nat} {vars : List Zd} {v : Zd} (h : ¬ 300 < n + 1) (hk : ¬ v.kind = 12) : trR r (f + 1) vars n v = (match Zc1 v with
   | none => .bad 127
   | some t => .good { Zdq 1 with text := t } vars (n + 1)) := by
 rw [trR, if_neg h, if_neg hk] <;> first | done | (cases Zc1 v <;> rfl)
theorem Zlb {r : Zf} {f n j : Nat} {vars : List Zd} {v : Zd} (h : ¬ 300 < n + 1) (hk : v.kind = 12) (hj : v.aH = j) (hjl : j < r.aA.length) : trR r (f + 1) vars n v = itR (trR r f) r.aA[j].aJ (Zdq r.aA[j].tag) vars (n + 1) := by
 rw [trR, if_neg h, if_pos hk, hj];unfold Zm2 Zvs;rw [Int.toNat_natCast, List.getElem?_eq_getElem hjl]
/-- The state in which the aJ are begun. -/
theorem TrS.start {L B BB RB PB n : Nat} {TB : TypeId} {G : Nat → Prop} {w y : World} {vars : List Zd} {code : Int} {vv : Value} {tag : Int} (hb : Bu B BB TB G y vars n code vv) (ht : Tch (fun b => b = BB ∨ G b) w y) (hG : ∀ b, G b → b < w.heap.size) (hBB : BB < w.heap.size) (hR : w.heap.size ≤ RB) (hRP : RB < PB) (bN : Zy tag)
  (hpb : y.heap[PB]? = some (.cells (PC (Zdq tag) (.slice none 0 0)).toArray Zbc (0, 0))) (hrb : y.heap[RB]? = some (.cells ZP6.toArray Zbc (0, 0))) : TrS L w B BB RB PB TB G y (Zdq tag) vars n code vv (.slice none 0 0) G (fun _ => False) :=
 ⟨hb, hpb, Zbe.nil _ _ _ _ _, PIn.zero tag bN, hrb, fun b hb => .inl hb, fun hg => by have := hG _ hg; omega, fun hg => by have := hG _ hg; omega, fun _ h => h.elim, ht, ⟨hR, by omega, by omega, hBB⟩, hG⟩
/-- The levels of a tree. -/
@[irreducible] def lv : Nat := 301
theorem Zma : lv ≤ 301 := by unfold lv; exact Nat.le_refl _
theorem Zmb : 301 ≤ lv := by unfold lv; exact Nat.le_refl _
/-- The value of a variable of kind 13 or 14. -/
def Zdr (r : Zf) (v : Zd) : Zd :=
 if v.kind = 13 then (match (Zm2 r v.aH)[v.index.toNat]? with | some x => x | none => vZ)
 else (match r.globals[v.index.toNat]? with | some x => x | none => vZ)
/-- A variable of a pattern. -/
def Zhl (r : Zf) (x : Zd) : Prop := (x.kind = 13 ∨ x.kind = 14) ∧ Zj r x = true
def Zdf (x : Zd) : Zd := if x.kind = 0 then ⟨2, 0, 0, ⟨#[]⟩, ⟨0, 0⟩⟩ else x
inductive Zf8 where
 | bad (c : Int)
 | good (p : Zaj) (defs : List Zaj) (vars : List Zd)
def Zgf (r : Zf) (p : Zaj) : Nat → Nat → List Zaj → List Zd → Zf8
 | 0, _, _, _ => .bad 302
 | g + 1, i, ds, vs => if h : i < vs.length then (match trR r lv vs 0 (Zdf (Zdr r vs[i])) with
   | .bad c => .bad c
   | .good q vs' _ => Zgf r p g (i + 1) (ds ++ [q]) vs') else .good p ds vs
/-- PatternOfValue behind its checks. -/
def Zgg (r : Zf) (v : Zd) : Zf8 := match trR r lv [] 0 v with
 | .bad c => .bad c
 | .good p vs _ => Zgf r p 25 0 [] vs
def Zm5 (code : Int) (res T : Zf8) : Prop := (code = 0 → res = T) ∧ (code ≠ 0 → T = .bad code)
theorem Zfd {r : Zf} {x : Zd} (h : Zj r x = true) (hk : x.kind = 13) : ∃ j i : Nat, x.aH = j ∧ x.index = i ∧ ∃ hj : j < r.aA.length, ∃ hi : i < r.aA[j].aJ.length, r.aA[j].kind = 1 ∧ Zdr r x = r.aA[j].aJ[i] := by
 obtain ⟨j, hj, hjl⟩ := Zfq h (by rw [hk]; decide);have h1 := Zd6 h (by rw [hk]; decide);rw [hj, Zdi hjl, hk] at h1;have hkd : r.aA[j].kind = 1 := by simpa [Zbf] using h1
 unfold Zj at h;rw [Bool.and_eq_true] at h;have h0 := Zf0 h.1;have h2 := h.2;unfold Zbi at h2;rw [if_pos (by rw [hk]; decide), Bool.and_eq_true, if_pos (.inl hk)] at h2;have h3 := of_decide_eq_true h2.2;rw [hj, Zfz hjl] at h3;refine ⟨j, x.index.toNat, hj, by omega, hjl, by omega, hkd, ?_⟩;unfold Zdr;rw [if_pos hk, hj];unfold Zm2;rw [Int.toNat_natCast, List.getElem?_eq_getElem hjl];simp only [];rw [List.getElem?_eq_getElem (by omega)]
theorem Zex {r : Zf} {x : Zd} (h : Zj r x = true) (hk : x.kind = 14) : ∃ i : Nat, x.index = i ∧ ∃ hi : i < r.globals.length, Zdr r x = r.globals[i] := by
 unfold Zj at h;rw [Bool.and_eq_true] at h;have h0 := Zf0 h.1;have h2 := h.2;unfold Zbi at h2;rw [if_neg (by rw [hk]; decide), if_neg (by omega), if_neg (by omega), if_neg (by omega), if_pos hk] at h2;have h3 := of_decide_eq_true h2;refine ⟨x.index.toNat, by omega, by omega, ?_⟩;unfold Zdr;rw [if_neg (by omega), List.getElem?_eq_getElem (by omega)]
theorem Zhu {r : Zf} {l : List Zd} (h : Zao r l = true) : ∀ x ∈ l, Zj r x = true := fun x hx => by
 unfold Zao at h;rw [List.all_eq_true] at h;have h1 := h x hx;unfold Zbn at h1;rw [Bool.and_eq_true] at h1;exact h1.2
theorem Zem {r : Zf} {x : Zd} (hok : Zap r = true) (h : Zhl r x) : Zj r (Zdr r x) = true := by
 rcases h.1 with hk | hk
 ·obtain ⟨j, i, -, -, hj, hi, hkd, e⟩ := Zfd h.2 hk;rw [e];have h6 := Ziv hok hj;unfold Zai at h6;simp only [Bool.and_eq_true] at h6;have h7 := h6.2.2.2;unfold Zag at h7;rw [if_pos hkd, Bool.and_eq_true] at h7;exact Zhu h7.2 _ (List.getElem_mem hi)
 ·obtain ⟨i, -, hi, e⟩ := Zex h.2 hk;rw [e];unfold Zap at hok;simp only [Bool.and_eq_true] at hok;exact Zhu hok.2.2.2.2.2.2.2.2.2.2.2.2.2.2.2.2.1 _ (List.getElem_mem hi)
theorem Zds {r : Zf} {x : Zd} (h : Zj r x = true) : Zj r (Zdf x) = true := by
 unfold Zdf
 by_cases hk : x.kind = 0
 ·rw [if_pos hk];unfold Zj;rw [Bool.and_eq_true];exact ⟨by decide, rfl⟩
 ·rw [if_neg hk]; exact h
theorem Ziz {F : Nat → Prop} {w : World} {B : Nat} {r : Zf} {cs : List Value} {x : Zd} (hst : Z3 F w B r cs) (h : Zhl r x) : vIn (Zdr r x) := by
 rcases h.1 with hk | hk
 ·obtain ⟨j, i, -, -, hj, hi, -, e⟩ := Zfd h.2 hk;rw [e];obtain ⟨A, c, -, -, -, hro⟩ := hst.aA;obtain ⟨ob, oo, Ai, ci, Ak, ck, -, -, -, -, bP, -⟩ := Z3.objF hro hj;exact Ziy bP _ (List.getElem_mem hi)
 ·obtain ⟨i, -, hi, e⟩ := Zex h.2 hk;rw [e];obtain ⟨A, c, -, -, -, hro⟩ := hst.globals;exact Ziy hro _ (List.getElem_mem hi)
theorem Zhe {x : Zd} (h : vIn x) : vIn (Zdf x) := by
 unfold Zdf
 by_cases hk : x.kind = 0
 ·rw [if_pos hk];exact ⟨Zde 2 (by omega) (by omega), Zde 0 (by omega) (by omega), Zde 0 (by omega) (by omega), by decide, Zde 0 (by omega) (by omega), Zde 0 (by omega) (by omega)⟩
 ·rw [if_neg hk]; exact h
/-! ### The variables -/
theorem Zr5 {r : Zf} {vars vars' : List Zd} {x : Zd} {k : Int} (hv : ∀ y ∈ vars, Zhl r y) (hx : Zhl r x) (h : Ze7 vars x = some (k, vars')) : ∀ y ∈ vars', Zhl r y := by
 unfold Ze7 at h
 split at h
 ·injection h with h; injection h with _ h; subst h; exact hv
 ·split at h
  ·cases h
  ·injection h with h; injection h with _ h; subst h
   intro y hy
   rcases List.mem_append.1 hy with hy | hy
   ·exact hv y hy
   ·rw [List.mem_singleton.1 hy]; exact hx
theorem Zfs {r : Zf} {rc : List Zd → Nat → Zd → Zbp} (hrc : ∀ vs n x q vs' n', (∀ y ∈ vs, Zhl r y) → Zj r x = true → rc vs n x = .good q vs' n' → ∀ y ∈ vs', Zhl r y) :
  ∀ (l : List Zd) (p : Zaj) (vs : List Zd) (n : Nat) (q : Zaj) (vs' : List Zd) (n' : Nat), (∀ x ∈ l, Zj r x = true ∧ (x.kind = 1 ∨ x.kind = 2 ∨ x.kind = 3 ∨ x.kind = 12 ∨ x.kind = 13 ∨ x.kind = 14)) → (∀ y ∈ vs, Zhl r y) → itR rc l p vs n = .good q vs' n' → ∀ y ∈ vs', Zhl r y
 | [], p, vs, n, q, vs', n', _, hv, h => by
  rw [itR] at h
  injection h with _ h2 _
  subst h2;exact hv
 | x :: l, p, vs, n, q, vs', n', hl, hv, h => by
  have hx := hl x (List.mem_cons_self ..);have hl2 := fun y hy => hl y (List.mem_cons_of_mem _ hy);rw [itR] at h
  by_cases h1 : x.kind = 1
  ·rw [if_pos h1] at h
   split at h
   ·exact Zfs hrc l _ _ _ _ _ _ hl2 hv h
   ·cases h
  rw [if_neg h1] at h
  by_cases h2 : x.kind = 2
  ·rw [if_pos h2] at h; exact Zfs hrc l _ _ _ _ _ _ hl2 hv h
  rw [if_neg h2] at h
  by_cases h3 : x.kind = 3
  ·rw [if_pos h3] at h; exact Zfs hrc l _ _ _ _ _ _ hl2 hv h
  rw [if_neg h3] at h
  by_cases h12 : x.kind = 12
  ·rw [if_pos h12] at h
   rcases hq : rc vs n x with c | ⟨q2, vs2, n2⟩
   ·rw [hq] at h; cases h
   ·rw [hq] at h;exact Zfs hrc l _ _ _ _ _ _ hl2 (hrc _ _ _ _ _ _ hv hx.1 hq) h
  ·rw [if_neg h12] at h
   rcases hq : Ze7 vs x with _ | ⟨k, vs2⟩
   ·rw [hq] at h; cases h
   ·rw [hq] at h;exact Zfs hrc l _ _ _ _ _ _ hl2 (Zr5 hv ⟨by omega, hx.1⟩ hq) h
theorem Zo6 (op : Int) : ∀ k ∈ Zar op, k = 1 ∨ k = 2 ∨ k = 3 ∨ k = 12 ∨ k = 13 := by
 unfold Zar;intro k hk
 (repeat' split at hk) <;> simp at hk <;> omega
theorem Zg2 {r : Zf} : ∀ {ks : List Int} {l : List Zd}, (∀ k ∈ ks, k = 1 ∨ k = 2 ∨ k = 3 ∨ k = 12 ∨ k = 13) → Zh r ks l = true → ∀ x ∈ l, x.kind = 1 ∨ x.kind = 2 ∨ x.kind = 3 ∨ x.kind = 12 ∨ x.kind = 13 ∨ x.kind = 14
 | [], [], _, _ => by simp
 | k :: ks, v :: l, hks, h => by
  unfold Zh at h;rw [Bool.and_eq_true] at h;intro x hx
  rcases List.mem_cons.1 hx with rfl | hx
  ·have h3 := h.1;unfold Zx at h3;rw [Bool.and_eq_true] at h3;have h4 := hks k (List.mem_cons_self ..);have h5 := h3.1
   split at h5
   ·rw [Bool.or_eq_true, beq_iff_eq, beq_iff_eq] at h5; omega
   ·rw [beq_iff_eq] at h5; omega
  ·exact Zg2 (fun k hk => hks k (List.mem_cons_of_mem _ hk)) h.2 x hx
 | [], _ :: _, _, h => by unfold Zh at h; cases h
 | _ :: _, [], _, h => by unfold Zh at h; cases h
theorem Zqg {r : Zf} (h : Zap r = true) {j : Nat} (hj : j < r.aA.length) (hk : r.aA[j].kind = 7) : ∀ x ∈ r.aA[j].aJ, x.kind = 1 ∨ x.kind = 2 ∨ x.kind = 3 ∨ x.kind = 12 ∨ x.kind = 13 ∨ x.kind = 14 := by
 have h6 := Ziv h hj;unfold Zai at h6;simp only [Bool.and_eq_true] at h6;have h7 := h6.2.2.2;unfold Zag at h7;rw [if_neg (by omega), if_neg (by omega), if_neg (by omega), if_neg (by omega), if_neg (by omega), if_neg (by omega), if_pos hk] at h7;unfold Zab at h7;simp only [Bool.and_eq_true] at h7;exact Zg2 (Zo6 _) h7.2.2
theorem Zlc {r : Zf} (hok : Zap r = true) : ∀ (f : Nat) (vs : List Zd) (n : Nat) (x : Zd) (q : Zaj) (vs' : List Zd) (n' : Nat), (∀ y ∈ vs, Zhl r y) → Zj r x = true → trR r f vs n x = .good q vs' n' → ∀ y ∈ vs', Zhl r y
 | 0, vs, n, x, q, vs', n', _, _, h => by rw [trR] at h; cases h
 | f + 1, vs, n, x, q, vs', n', hv, hx, h => by
  by_cases h3 : 300 < n + 1
  ·rw [Zk9 h3] at h; cases h
  ·by_cases hk : x.kind = 12
   ·obtain ⟨j, hj, hjl⟩ := Zfq hx (by rw [hk]; decide);have hkd := Zd6 hx (by rw [hk]; decide);rw [hj, Zdi hjl, hk] at hkd;have hkd7 : r.aA[j].kind = 7 := by simpa [Zbf] using hkd
    rw [Zlb h3 hk hj hjl] at h;exact Zfs (Zlc hok f) _ _ _ _ _ _ _ (fun y hy => ⟨(Zh5 hok hjl hkd7).2 y hy, Zqg hok hjl hkd7 y hy⟩) hv h
   ·rw [Zla h3 hk] at h
    rcases ht : Zc1 x with _ | t
    ·rw [ht] at h; cases h
    ·rw [ht] at h
     injection h with _ h2 _
     subst h2;exact hv
theorem Zm5.first {r : Zf} {v : Zd} {code : Int} {p : Zaj} {vs : List Zd} {n : Nat} (h : Now code (.good p vs n) (trR r lv [] 0 v)) : Zm5 code (Zgf r p 25 0 [] vs) (Zgg r v) := by
 unfold Zgg;refine ⟨fun hc => ?_, fun hc => ?_⟩
 ·rw [← h.1 hc]
 ·rw [h.2 hc]
theorem Zm5.next {r : Zf} {g i n : Nat} {code : Int} {p q : Zaj} {ds : List Zaj} {vs vs' : List Zd} {T : Zf8} (hi : i < vs.length) (h : Zm5 0 (Zgf r p (g + 1) i ds vs) T) (h2 : Now code (.good q vs' n) (trR r lv vs 0 (Zdf (Zdr r vs[i])))) : Zm5 code (Zgf r p g (i + 1) (ds ++ [q]) vs') T := by
 have h3 := h.1 rfl;rw [Zgf, dif_pos hi] at h3;refine ⟨fun hc => ?_, fun hc => ?_⟩
 ·rw [← h2.1 hc] at h3;exact h3
 ·rw [h2.2 hc] at h3;exact h3.symm
theorem Zm5.last {r : Zf} {g i : Nat} {p : Zaj} {ds : List Zaj} {vs : List Zd} {T : Zf8} (hi : ¬ i < vs.length) (h : Zm5 0 (Zgf r p (g + 1) i ds vs) T) : T = .good p ds vs := by
 have h3 := h.1 rfl;rw [Zgf, dif_neg hi] at h3;exact h3.symm
end Go.Proofs.YtpmhelkiicigfaaGreatDoor
namespace Go.Proofs.YtpmhelkiicigfaaGreatDoor
open Go.RowKit
/-- What is left of PatternOfValue. -/
def Zld (T : Zf8) (w : World) (e : Ending) (w' : World) : Prop :=
 Tch (fun _ => False) w w' ∧ match T with
 | .bad c => e = .returned (.tuple #[.agg ZP6.toArray, .slice none 0 0, .slice none 0 0, .int .i64 c])
 | .good p ds vs => ∃ (pcs : List Value) (vd vv : Value) (H Hv G : Nat → Prop), e = .returned (.tuple #[.agg pcs.toArray, vd, vv, .int .i64 0]) ∧ Zcm (lv + 1) H w' p pcs ∧ Zbe (Zcm (lv + 1)) 6 Zbc Hv w' ds vd ∧ Zbe Zg 6 34 G w' vs vv ∧
   (∀ b, H b → w.heap.size ≤ b ∧ b < w'.heap.size ∧ ¬ G b ∧ ¬ Hv b) ∧ (∀ b, Hv b → w.heap.size ≤ b ∧ b < w'.heap.size ∧ ¬ G b) ∧ (∀ b, G b → w.heap.size ≤ b ∧ b < w'.heap.size)
structure OfS (w0 : World) (B BB RB PB : Nat) (TB : TypeId) (r : Zf) (T : Zf8) (w : World) (p : Zaj) (i : Nat) (ds : List Zaj) (vars : List Zd) (n : Nat) (code : Int) (vv vd : Value) (pcs : List Value) (G H Hv : Nat → Prop) : Prop where
 bu : Bu B BB TB G w vars n code vv
 pb : w.heap[PB]? = some (.cells pcs.toArray Zbc (0, 0))
 pat : Zcm (lv + 1) H w p pcs
 rb : w.heap[RB]? = some (.cells ZP6.toArray Zbc (0, 0))
 defs : Zbe (Zcm (lv + 1)) 6 Zbc Hv w ds vd
 now : Zm5 code (Zgf r p (25 - i) i ds vars) T
 len : ds.length = i ∧ i ≤ 24
 vb : code = 0 → ∀ y ∈ vars, Zhl r y
 gG : ∀ b, G b → w0.heap.size ≤ b
 hH : ∀ b, H b → w0.heap.size ≤ b ∧ b < w.heap.size ∧ ¬ G b ∧ ¬ Hv b ∧ b ≠ BB ∧ b ≠ PB ∧ b ≠ RB
 hD : ∀ b, Hv b → w0.heap.size ≤ b ∧ b < w.heap.size ∧ ¬ G b ∧ b ≠ BB ∧ b ≠ PB ∧ b ≠ RB
 gN : ¬ G PB ∧ ¬ G RB
 pos : w0.heap.size ≤ BB ∧ w0.heap.size ≤ RB ∧ w0.heap.size ≤ PB ∧ PB ≠ RB ∧ BB ≠ RB ∧ BB ≠ PB
 tch : Tch (fun _ => False) w0 w
section
variable {w0 w x Y W2 : World} {B BB RB PB : Nat} {TB : TypeId} {r : Zf} {T : Zf8} {p q : Zaj} {i n n' : Nat} {ds : List Zaj} {vars vars' : List Zd} {code code' : Int} {vv vv' vd v2 : Value} {pcs : List Value} {G G' H Hv Hq : Nat → Prop}
theorem OfS.later (h : OfS w0 B BB RB PB TB r T w p i ds vars n code vv vd pcs G H Hv) (hl : Za w x) : OfS w0 B BB RB PB TB r T x p i ds vars n code vv vd pcs G H Hv :=
 ⟨h.bu.later hl, (hl.block _ (Zb h.pb)).trans h.pb, (Zv (lv + 1)).is.keep h.pat (fun _ h => h) (Ze.later hl), (hl.block _ (Zb h.rb)).trans h.rb, h.defs.keep (Zv (lv + 1)).is (fun _ h => h) (Ze.later hl), h.now, h.len, h.vb, h.gG,
  fun b hb => ⟨(h.hH b hb).1, Nat.lt_of_lt_of_le (h.hH b hb).2.1 hl.size, (h.hH b hb).2.2⟩, fun b hb => ⟨(h.hD b hb).1, Nat.lt_of_lt_of_le (h.hD b hb).2.1 hl.size, (h.hD b hb).2.2⟩, h.gN, h.pos, h.tch.la hl⟩
theorem OfS.tc (h : OfS w0 B BB RB PB TB r T w p i ds vars n code vv vd pcs G H Hv) (ht : Tch (fun _ => False) w x) : OfS w0 B BB RB PB TB r T x p i ds vars n code vv vd pcs G H Hv :=
 ⟨h.bu.keep (ht.keeps fun b _ e => e), ht.has h.pb (fun e => e), (Zv (lv + 1)).is.keep h.pat (fun _ h => h) (ht.keeps fun b _ e => e), ht.has h.rb (fun e => e), h.defs.keep (Zv (lv + 1)).is (fun _ h => h) (ht.keeps fun b _ e => e), h.now, h.len, h.vb, h.gG,
  fun b hb => ⟨(h.hH b hb).1, Nat.lt_of_lt_of_le (h.hH b hb).2.1 ht.size, (h.hH b hb).2.2⟩, fun b hb => ⟨(h.hD b hb).1, Nat.lt_of_lt_of_le (h.hD b hb).2.1 ht.size, (h.hD b hb).2.2⟩, h.gN, h.pos, h.tch.tr ht⟩
theorem OfS.other {XB : Nat} (h : OfS w0 B BB RB PB TB r T w p i ds vars n code vv vd pcs G H Hv) (ht : Tch (fun b => b = XB) w x) (hB : XB ≠ BB) (hN : ¬ (XB = PB ∨ XB = RB ∨ G XB ∨ H XB ∨ Hv XB)) (h0 : w0.heap.size ≤ XB) : OfS w0 B BB RB PB TB r T x p i ds vars n code vv vd pcs G H Hv :=
 ⟨h.bu.keep (ht.keeps fun b hb e => by
   subst e
   rcases hb with hb | hb
   ·exact hB hb
   ·exact hN (.inr (.inr (.inl hb)))), ht.has h.pb (fun e => hN (.inl e.symm)), (Zv (lv + 1)).is.keep h.pat (fun _ h => h) (ht.keeps fun b hb e => hN (.inr (.inr (.inr (.inl (e ▸ hb)))))), ht.has h.rb (fun e => hN (.inr (.inl e.symm))), h.defs.keep (Zv (lv + 1)).is (fun _ h => h) (ht.keeps fun b hb e => hN (.inr (.inr (.inr (.inr (e ▸ hb)))))), h.now, h.len, h.vb, h.gG,
  fun b hb => ⟨(h.hH b hb).1, Nat.lt_of_lt_of_le (h.hH b hb).2.1 ht.size, (h.hH b hb).2.2⟩, fun b hb => ⟨(h.hD b hb).1, Nat.lt_of_lt_of_le (h.hD b hb).2.1 ht.size, (h.hD b hb).2.2⟩, h.gN, h.pos, Tch.trans h.tch ht (fun _ h => h) (fun b hl e => by omega)⟩
theorem OfS.setN (h : OfS w0 B BB RB PB TB r T w p i ds vars n code vv vd pcs G H Hv) (m : Nat) : OfS w0 B BB RB PB TB r T (w.setCell ⟨BB, 2, none⟩ (.int .i64 m)) p i ds vars m code vv vd pcs G H Hv := by
 have hpos := h.pos;have hK : Ze (fun b => b ≠ BB) w (w.setCell ⟨BB, 2, none⟩ (.int .i64 m)) := (Ze.refl _ _).set (fun h => h rfl) _ _;have ht : Tch (fun b => b = BB) w (w.setCell ⟨BB, 2, none⟩ (.int .i64 m)) := Tch.set (P := fun b => b = BB) (Tch.refl _ _) rfl _ _;exact ⟨h.bu.setN m, ht.has h.pb (by omega), (Zv (lv + 1)).is.keep h.pat (fun _ h => h) (hK.mono fun b hb => (h.hH b hb).2.2.2.2.1), ht.has h.rb (by omega), h.defs.keep (Zv (lv + 1)).is (fun _ h => h) (hK.mono fun b hb => (h.hD b hb).2.2.2.1), h.now, h.len, h.vb, h.gG,
  fun b hb => ⟨(h.hH b hb).1, by simpa using (h.hH b hb).2.1, (h.hH b hb).2.2⟩, fun b hb => ⟨(h.hD b hb).1, by simpa using (h.hD b hb).2.1, (h.hD b hb).2.2⟩, h.gN, h.pos, Tch.trans h.tch ht (fun _ h => h) (fun b hl e => by omega)⟩
theorem OfS.next (hok : Zap r = true) (h : OfS w0 B BB RB PB TB r T w p i ds vars n 0 vv vd pcs G H Hv) (hi : i < vars.length) (hb : Bu B BB TB G' W2 vars' n' code' vv') (hG : ∀ b, G' b → G b ∨ w.heap.size ≤ b) (hHq : ∀ b, Hq b → w.heap.size ≤ b ∧ b < W2.heap.size ∧ ¬ G' b)
  (ht : Tch (fun b => b = BB ∨ G b) w W2) (hN : Now code' (.good q vars' n') (trR r lv vars 0 (Zdf (Zdr r vars[i])))) (hl : Za W2 x) (hrow : Zbe (Zcm (lv + 1)) 6 Zbc (fun y => Hv y ∨ Hq y ∨ y = x.heap.size) Y (ds ++ [q]) v2) (hk : Ze (fun y => ¬ Hv y) x Y) (hb0 : Below 0 x Y) :
  ∃ Hv', OfS w0 B BB RB PB TB r T Y p (i + 1) (ds ++ [q]) vars' n' code' vv' v2 pcs G' H Hv' := by
 have hpos := h.pos;have hs := ht.size;have hxs := hl.size;have hYs := hk.size;have hpl := Zb h.pb;have hrl := Zb h.rb;have hbl := Zb h.bu.blk;have h0s := h.tch.size;have hlen := h.len;have hl24 := h.bu.len;have hKx : Ze (fun y => ¬ Hv y) W2 Y := ⟨Nat.le_trans hxs hYs, fun b hb hlt => (hk.same b hb (by omega)).trans (hl.block b hlt)⟩;have hG2 : ∀ b, b < w.heap.size → ¬ G b → ¬ G' b := fun b hlt hn hg => by
  rcases hG b hg with e | e
  ·exact hn e
  ·omega
 have hvb := h.vb rfl;have hbl2 := hb.lt;refine ⟨fun y => (Hv y ∨ Hq y ∨ y = x.heap.size) ∧ y < Y.heap.size, hb.keep (hKx.mono fun b hb hd => ?_), (hKx.same PB (fun hd => (h.hD PB hd).2.2.2.2.1 rfl) (by omega)).trans (ht.has h.pb (fun e => e.elim (by omega) h.gN.1)), (Zv (lv + 1)).is.keep h.pat (fun _ h => h) ((ht.keeps fun b hb e => ?_).trans (hKx.mono fun b hb => (h.hH b hb).2.2.2.1)),
  (hKx.same RB (fun hd => (h.hD RB hd).2.2.2.2.2 rfl) (by omega)).trans (ht.has h.rb (fun e => e.elim (by omega) h.gN.2)), hrow.trim (Zv (lv + 1)), ?_, ⟨by simp; omega, by omega⟩, fun hc => ?_, fun b hb => ?_, fun b hb => ?_, fun b hb => ?_, ⟨hG2 _ hpl h.gN.1, hG2 _ hrl h.gN.2⟩, h.pos, ?_⟩
 ·have h1 := h.hD b hd
  rcases hb with hb | hb
  ·exact h1.2.2.2.1 hb
  ·exact hG2 b h1.2.1 h1.2.2.1 hb
 ·have h1 := h.hH b hb
  rcases e with e | e
  ·exact h1.2.2.2.2.1 e
  ·exact h1.2.2.1 e
 ·have e1 : 25 - i = (24 - i) + 1 := by omega
  have e2 : 25 - (i + 1) = 24 - i := by omega
  have h3 := h.now;rw [e1] at h3;rw [e2];exact h3.next hi hN
 ·exact Zlc hok lv vars 0 _ q vars' n' hvb (Zds (Zem hok (hvb _ (List.getElem_mem hi)))) (hN.1 hc).symm
 ·rcases hG b hb with e | e
  ·exact h.gG b e
  ·omega
 ·have h1 := h.hH b hb;refine ⟨h1.1, by omega, hG2 b h1.2.1 h1.2.2.1, fun hd => ?_, h1.2.2.2.2⟩
  rcases hd.1 with e | e | e
  ·exact h1.2.2.2.1 e
  ·have := (hHq b e).1; omega
  ·omega
 ·refine ⟨?_, hb.2, ?_⟩
  ·rcases hb.1 with e | e | e
   ·exact (h.hD b e).1
   ·have := (hHq b e).1; omega
   ·omega
  ·rcases hb.1 with e | e | e
   ·have h1 := h.hD b e;exact ⟨hG2 b h1.2.1 h1.2.2.1, h1.2.2.2⟩
   ·have h1 := hHq b e;exact ⟨h1.2.2, by omega, by omega, by omega⟩
   ·exact ⟨fun hg => (by have := hbl2 b hg; omega), by omega, by omega, by omega⟩
 ·refine Tch.trans (Tch.trans h.tch ht (R := fun _ => False) (fun _ h => h) (fun b hl e => ?_)) (⟨hKx, (Below.mono hl (Nat.zero_le _)).trans hb0⟩ : Tch Hv W2 Y) (fun _ h => h) (fun b hl e => ?_)
  ·rcases e with e | e
   ·omega
   ·have := h.gG b e; omega
  ·have := (h.hD b e).1; omega
theorem OfS.start {v : Zd} {A : Option Addr} (hok : Zap r = true) (hh : Zj r v = true) (hb : Bu B BB TB G x vars n code vv) (hpb : x.heap[PB]? = some (.cells pcs.toArray Zbc (0, 0))) (hp : Zcm (lv + 1) H x p pcs) (hrb : x.heap[RB]? = some (.cells ZP6.toArray Zbc (0, 0))) (hN : Now code (.good p vars n) (trR r lv [] 0 v))
  (hG : ∀ b, G b → w0.heap.size ≤ b) (hH : ∀ b, H b → w0.heap.size ≤ b ∧ b < x.heap.size ∧ ¬ G b ∧ b ≠ BB ∧ b ≠ PB ∧ b ≠ RB) (hg : ¬ G PB ∧ ¬ G RB) (hpos : w0.heap.size ≤ BB ∧ w0.heap.size ≤ RB ∧ w0.heap.size ≤ PB ∧ PB ≠ RB ∧ BB ≠ RB ∧ BB ≠ PB) (ht : Tch (fun _ => False) w0 x) :
  OfS w0 B BB RB PB TB r (Zgg r v) x p 0 [] vars n code vv (.slice A 0 0) pcs G H (fun _ => False) :=
 ⟨hb, hpb, hp, hrb, ⟨A, 0, rfl, Nat.le_refl _, Nat.zero_le _, fun h => absurd h (by omega)⟩, Zm5.first hN, ⟨rfl, Nat.zero_le _⟩, fun hc => Zlc hok lv [] 0 v p vars n (by simp) hh (hN.1 hc).symm, hG, fun b hb => ⟨(hH b hb).1, (hH b hb).2.1, (hH b hb).2.2.1, fun h => h, (hH b hb).2.2.2⟩, fun _ h => h.elim, hg, hpos, ht⟩
/-- A fault is returned. -/
theorem Zuh (h : OfS w0 B BB RB PB TB r T w p i ds vars n code vv vd pcs G H Hv) (hc : code ≠ 0) : Zld T w0 (.returned (.tuple #[.agg ZP6.toArray, .slice none 0 0, .slice none 0 0, .int .i64 code])) (Zz w RB 0 ZP6) := by
 have hpos := h.pos;have hK := Zaf (F := fun b => b ≠ RB) (B := RB) (w := w) (fun h => h rfl) ZP6 w 0 (Ze.refl _ _);have hB := Zae (Nat.zero_le RB) ZP6 w 0 (Below.refl _ _);rw [h.now.2 hc];exact ⟨Tch.trans h.tch (⟨hK, hB⟩ : Tch (fun b => b = RB) w _) (fun _ h => h) (fun b hl e => by omega), rfl⟩
/-- The patterns are returned. -/
theorem Zq4 (h : OfS w0 B BB RB PB TB r T w p i ds vars n 0 vv vd pcs G H Hv) (hi : ¬ i < vars.length) : Zld T w0 (.returned (.tuple #[.agg pcs.toArray, vd, vv, .int .i64 0])) (Zz w RB 0 pcs) := by
 have hpos := h.pos;have hlen := h.len;have hK := Zaf (F := fun b => b ≠ RB) (B := RB) (w := w) (fun h => h rfl) pcs w 0 (Ze.refl _ _);have hB := Zae (Nat.zero_le RB) pcs w 0 (Below.refl _ _);have h3 := h.now;rw [show 25 - i = (24 - i) + 1 by omega] at h3;rw [h3.last hi];have hs := hK.size;refine ⟨Tch.trans h.tch (⟨hK, hB⟩ : Tch (fun b => b = RB) w _) (fun _ h => h) (fun b hl e => by omega), pcs, vd, vv, H, Hv, G, rfl, (Zv (lv + 1)).is.keep h.pat (fun _ h => h) (hK.mono fun b hb => (h.hH b hb).2.2.2.2.2.2), h.defs.keep (Zv (lv + 1)).is (fun _ h => h) (hK.mono fun b hb => (h.hD b hb).2.2.2.2.2), h.bu.row.keep Zl.is (fun _ h => h) (hK.mono fun b hb e => h.gN.2 (e ▸ hb)),
  fun b hb => ⟨(h.hH b hb).1, Nat.lt_of_lt_of_le (h.hH b hb).2.1 hs, (h.hH b hb).2.2.1, (h.hH b hb).2.2.2.1⟩, fun b hb => ⟨(h.hD b hb).1, Nat.lt_of_lt_of_le (h.hD b hb).2.1 hs, (h.hD b hb).2.2.1⟩, fun b hb => ⟨h.gG b hb, Nat.lt_of_lt_of_le (h.bu.lt b hb) hs⟩⟩
end
end Go.Proofs.YtpmhelkiicigfaaGreatDoor
namespace Go.Proofs.YtpmhelkiicigfaaGreatDoor
open Go
/-- The end of a piece that may return. -/
def Zi0 (R Rr : Act → World → Prop) : Exit → Act → World → Prop
 | .normal, a, w => R a w
 | .ret, a, w => Rr a w
 | _, _, _ => False
variable {P : Program} {c : Code} {R Rr K : Act → World → Prop} {Q : Exit → Act → World → Prop} {a : Act} {w : World}
theorem Zui (h : c.wp P (Zi0 R Rr) a w) (k : ∀ a' w', R a' w' → K a' w') (k2 : ∀ a' w', Rr a' w' → Q .ret a' w') : c.wp P (Exit.then K Q) a w :=
 wp_mono h fun e a' w' hr => by cases e with | normal => exact k a' w' hr | ret => exact k2 a' w' hr | _ => exact hr.elim
theorem Zo7 {n : Nat} (h : c.wp P (Zi0 R Rr) a w) (k : ∀ a' w', R a' w' → K a' w') (k2 : ∀ a' w', Rr a' w' → Q .ret a' w') : c.wp P (Exit.inBlock n (Exit.then K Q)) a w :=
 wp_mono h fun e a' w' hr => by cases e with | normal => exact k a' w' hr | ret => exact k2 a' w' hr | _ => exact hr.elim
end Go.Proofs.YtpmhelkiicigfaaGreatDoor
namespace Go.Proofs.YtpmhelkiicigfaaGreatDoor
open Go.RowKit
set_option maxRecDepth 1000000
def FrI (BB RB PB : Nat) (v10 v60 v61 v62 v67 : Value) (a : Act) : Prop := Fr 114 [(0, .pointer (some ⟨BB, 0, none⟩)), (4, .pointer (some ⟨RB, 0, none⟩)), (8, .pointer (some ⟨PB, 0, none⟩)), (10, v10), (60, v60), (61, v61), (62, v62), (67, v67)] a
section
variable {BB RB PB : Nat} {v10 v60 v61 v62 v67 : Value} {a : Act}
theorem FrI.opn (h : FrI BB RB PB v10 v60 v61 v62 v67 a) : ∃ f : Nat → Value, a = ⟨#[.pointer (some ⟨BB, 0, none⟩), f 1, f 2, f 3, .pointer (some ⟨RB, 0, none⟩), f 5, f 6, f 7, .pointer (some ⟨PB, 0, none⟩), f 9, v10, f 11, f 12, f 13, f 14, f 15, f 16, f 17, f 18, f 19, f 20, f 21, f 22, f 23, f 24, f 25, f 26, f 27, f 28, f 29, f 30, f 31, f 32, f 33, f 34, f 35, f 36, f 37, f 38, f 39, f 40, f 41, f 42, f 43, f 44, f 45, f 46, f 47, f 48, f 49, f 50, f 51, f 52, f 53, f 54, f 55, f 56, f 57, f 58, f 59, v60, v61, v62, f 63, f 64, f 65, f 66, v67, f 68, f 69, f 70, f 71, f 72, f 73, f 74, f 75, f 76, f 77, f 78, f 79, f 80, f 81, f 82, f 83, f 84, f 85, f 86, f 87, f 88, f 89, f 90, f 91, f 92, f 93, f 94, f 95, f 96, f 97, f 98, f 99, f 100, f 101, f 102, f 103, f 104, f 105, f 106, f 107, f 108, f 109, f 110, f 111, f 112, f 113], []⟩ := by
 obtain ⟨f, e, hf⟩ := Fr.lit h;obtain ⟨h0, h4, h8, h10, h60, h61, h62, h67, -⟩ := h.has;refine ⟨f, e.trans ?_⟩;have k0 := Zb8 h0 (hf 0 (by omega));have k4 := Zb8 h4 (hf 4 (by omega));have k8 := Zb8 h8 (hf 8 (by omega));have k10 := Zb8 h10 (hf 10 (by omega));have k60 := Zb8 h60 (hf 60 (by omega));have k61 := Zb8 h61 (hf 61 (by omega));have k62 := Zb8 h62 (hf 62 (by omega));have k67 := Zb8 h67 (hf 67 (by omega));rw [← k0];rw [← k4];rw [← k8];rw [← k10];rw [← k60];rw [← k61];rw [← k62];rw [← k67]
 rfl
theorem FrI.mk' {A : Array Value} (hs : A.size = 114) (h0 : A[0]? = some (.pointer (some ⟨BB, 0, none⟩))) (h4 : A[4]? = some (.pointer (some ⟨RB, 0, none⟩))) (h8 : A[8]? = some (.pointer (some ⟨PB, 0, none⟩))) (h10 : A[10]? = some (v10)) (h60 : A[60]? = some (v60)) (h61 : A[61]? = some (v61)) (h62 : A[62]? = some (v62)) (h67 : A[67]? = some (v67)) : FrI BB RB PB v10 v60 v61 v62 v67 ⟨A, []⟩ := ⟨hs, rfl, h0, h4, h8, h10, h60, h61, h62, h67, trivial⟩
end
def FrV (BB RB OB PB : Nat) (v9 v10 v82 : Value) (a : Act) : Prop := Fr 127 [(0, .pointer (some ⟨BB, 0, none⟩)), (4, .pointer (some ⟨RB, 0, none⟩)), (7, .pointer (some ⟨OB, 0, none⟩)), (8, .pointer (some ⟨PB, 0, none⟩)), (9, v9), (10, v10), (82, v82)] a
section
variable {BB RB OB PB : Nat} {v9 v10 v82 : Value} {a : Act}
theorem FrV.opn (h : FrV BB RB OB PB v9 v10 v82 a) : ∃ f : Nat → Value, a = ⟨#[.pointer (some ⟨BB, 0, none⟩), f 1, f 2, f 3, .pointer (some ⟨RB, 0, none⟩), f 5, f 6, .pointer (some ⟨OB, 0, none⟩), .pointer (some ⟨PB, 0, none⟩), v9, v10, f 11, f 12, f 13, f 14, f 15, f 16, f 17, f 18, f 19, f 20, f 21, f 22, f 23, f 24, f 25, f 26, f 27, f 28, f 29, f 30, f 31, f 32, f 33, f 34, f 35, f 36, f 37, f 38, f 39, f 40, f 41, f 42, f 43, f 44, f 45, f 46, f 47, f 48, f 49, f 50, f 51, f 52, f 53, f 54, f 55, f 56, f 57, f 58, f 59, f 60, f 61, f 62, f 63, f 64, f 65, f 66, f 67, f 68, f 69, f 70, f 71, f 72, f 73, f 74, f 75, f 76, f 77, f 78, f 79, f 80, f 81, v82, f 83, f 84, f 85, f 86, f 87, f 88, f 89, f 90, f 91, f 92, f 93, f 94, f 95, f 96, f 97, f 98, f 99, f 100, f 101, f 102, f 103, f 104, f 105, f 106, f 107, f 108, f 109, f 110, f 111, f 112, f 113, f 114, f 115, f 116, f 117, f 118, f 119, f 120, f 121, f 122, f 123, f 124, f 125, f 126], []⟩ := by
 obtain ⟨f, e, hf⟩ := Fr.lit h;obtain ⟨h0, h4, h7, h8, h9, h10, h82, -⟩ := h.has;refine ⟨f, e.trans ?_⟩;have k0 := Zb8 h0 (hf 0 (by omega));have k4 := Zb8 h4 (hf 4 (by omega));have k7 := Zb8 h7 (hf 7 (by omega));have k8 := Zb8 h8 (hf 8 (by omega));have k9 := Zb8 h9 (hf 9 (by omega));have k10 := Zb8 h10 (hf 10 (by omega));have k82 := Zb8 h82 (hf 82 (by omega));rw [← k0];rw [← k4];rw [← k7];rw [← k8];rw [← k9];rw [← k10];rw [← k82]
 rfl
theorem FrV.mk' {A : Array Value} (hs : A.size = 127) (h0 : A[0]? = some (.pointer (some ⟨BB, 0, none⟩))) (h4 : A[4]? = some (.pointer (some ⟨RB, 0, none⟩))) (h7 : A[7]? = some (.pointer (some ⟨OB, 0, none⟩))) (h8 : A[8]? = some (.pointer (some ⟨PB, 0, none⟩))) (h9 : A[9]? = some (v9)) (h10 : A[10]? = some (v10)) (h82 : A[82]? = some (v82)) : FrV BB RB OB PB v9 v10 v82 ⟨A, []⟩ := ⟨hs, rfl, h0, h4, h7, h8, h9, h10, h82, trivial⟩
end
noncomputable def trSwI : Code := cR (cR (cB (cL (cR (cR (cB (cB (cR (cL (cR (cR (cR (cR (cR (cR (cR (Zfj Tryz.f117)))))))))))))))))
noncomputable def trSwS : Code := cR (cR (cB (cL (cR (cB (cB (cR (cL (cR (cR (cR (cR (cR (cR (cR (Zfj Tryz.f111))))))))))))))))
noncomputable def trLpI : Code := cR (cL (cR (cR (cR (cR (cR (cR (cR (Zfj Tryz.f117)))))))))
noncomputable def trLpS : Code := cR (cL (cR (cR (cR (cR (cR (cR (cR (Zfj Tryz.f111)))))))))
/-- The state ahead of the aJ l, with what is left to be done. -/
def TrW (L : Nat) (w0 : World) (B BB RB PB : Nat) (TB : TypeId) (G0 : Nat → Prop) (rc : List Zd → Nat → Zd → Zbp) (T : Zbp) (lo hi : Nat) (NB : Nat → Prop) (l : List Zd) (w : World) : Prop :=
 ∃ p vars n code vv vk G H, TrS L w0 B BB RB PB TB G0 w p vars n code vv vk G H ∧ Now code (itR rc l p vars n) T ∧ lo ≤ n ∧ n ≤ hi ∧ p.kids.length ≤ hi ∧ ∀ b, NB b → ¬ G b ∧ ¬ H b ∧ b < w.heap.size
def SwI (L : Nat) (w0 : World) (B BB RB PB : Nat) (G0 : Nat → Prop) (rc : List Zd → Nat → Zd → Zbp) (T : Zbp) (lo hi : Nat) (NB : Nat → Prop) (v60 v61 v62 : Value) (l : List Zd) (a : Act) (w : World) : Prop :=
 ∃ v10 v67, FrI BB RB PB v10 v60 v61 v62 v67 a ∧ TrW L w0 B BB RB PB 159 G0 rc T lo hi NB l w
/-- The program leaves with a fault. -/
def SwR (L : Nat) (w0 : World) (B BB RB PB : Nat) (G0 : Nat → Prop) (n0 : Nat) (c0 : Int) (T : Zbp) (a : Act) (w : World) : Prop :=
 ∃ v10 v60 v61 v62 v67, FrI BB RB PB v10 v60 v61 v62 v67 a ∧ w.heap[RB]? = some (.cells ZP6.toArray Zbc (0, 0)) ∧ Zm3 L B BB 159 G0 n0 c0 T w0 (.returned (.agg ZP6.toArray)) w
def SwS (L : Nat) (w0 : World) (B BB RB OB PB : Nat) (G0 : Nat → Prop) (rc : List Zd → Nat → Zd → Zbp) (T : Zbp) (lo hi : Nat) (NB : Nat → Prop) (OBJ : Obj) (v9 : Value) (l : List Zd) (a : Act) (w : World) : Prop :=
 ∃ v10 v82, FrV BB RB OB PB v9 v10 v82 a ∧ w.heap[OB]? = some OBJ ∧ TrW L w0 B BB RB PB 148 G0 rc T lo hi NB l w
end Go.Proofs.YtpmhelkiicigfaaGreatDoor
namespace Go.Proofs.YtpmhelkiicigfaaGreatDoor
open Go.RowKit
set_option maxRecDepth 1000000
set_option maxHeartbeats 4000000
/-- A fault: the code stays, or is the first. -/
def Zr6 (B BB : Nat) (G : Nat → Prop) (vars : List Zd) (n : Nat) (code c : Int) (vv : Value) (w : World) (e : Ending) (w' : World) : Prop :=
 e = .returned (.agg #[.int .i64 0, .string ⟨#[]⟩, .int .i64 0, .int .i64 0, .int .i64 0, .slice none 0 0]) ∧ Bu B BB 159 G w' vars n (if code = 0 then c else code) vv ∧ Tch (fun b => b = BB) w w'
theorem Zft (B BB : Nat) (G : Nat → Prop) (vars : List Zd) (n : Nat) (code c : Int) (vv : Value) (w : World) (h : Bu B BB 159 G w vars n code vv) (hc : 0 ≤ c ∧ c ≤ 1000) :
  Calls Tryz.prog 119 #[.pointer (some ⟨BB, 0, none⟩), .int .i64 c] w (Zr6 B BB G vars n code c vv w) := by
 obtain ⟨w1, hw1⟩ : ∃ z, z = w.alloc (.cells #[.int .i64 0, .string ⟨#[]⟩, .int .i64 0, .int .i64 0, .int .i64 0, .slice none 0 0] Zbc) := ⟨_, rfl⟩;have hl1 : Za w w1 := by rw [hw1]; exact (Za.refl w).alloc _
 have HR1 := zh (show w1.heap[w.heap.size]? = some (.cells #[.int .i64 0, .string ⟨#[]⟩, .int .i64 0, .int .i64 0, .int .i64 0, .slice none 0 0] Zbc (0, 0)) by rw [hw1]; exact heap_alloc_new _ _);have HB1 := zh (h.later hl1);have HT1 := zh (Tch.later (P := fun b => b = BB) hl1);have hBB := Zb h.blk;have HGL := zh h.lt;clear h hl1;go_enter Tryz.func119, Tryz.ntmps119;go_upto_region 1 with (fail);rw [← hw1];clear hw1
 by_cases h0 : code = 0
 ·subst h0;have b0 := cz4 HB1.o.blk;have fb0 := fz HB1.o.blk;have r0 := cz6 HR1.o;have fr0 := fz HR1.o;have HB2 := zh (HB1.o.setC c hc);have HT2 := zh (HT1.o.set (c := BB) rfl 3 (.int .i64 c));go_wp2_with fail;have hvs := Zaf (F := fun b => b ≠ w.heap.size) (B := w.heap.size) (w := w1.setCell ⟨BB, 3, none⟩ (.int .i64 c)) (fun h => h rfl) [.int .i64 0, .string ⟨#[]⟩, .int .i64 0, .int .i64 0, .int .i64 0, .slice none 0 0] (w1.setCell ⟨BB, 3, none⟩ (.int .i64 c)) 0 (Ze.refl _ _);have hk := HB2.o.keep (hvs.mono fun b hb e => by
   rcases hb with hb | hb
   ·omega
   ·have := HGL.o b hb; omega)
  have ht := HT2.o.trans (Q := fun b => b = w.heap.size) ⟨hvs, Zae (Nat.zero_le _) [.int .i64 0, .string ⟨#[]⟩, .int .i64 0, .int .i64 0, .int .i64 0, .slice none 0 0] _ 0 (Below.refl _ _)⟩ (fun _ h => h) (fun b hl e => by omega);simp only [Zz, Nat.zero_add, Nat.reduceAdd] at hk ht;exact bodyPost_ret (v := .agg #[.int .i64 0, .string ⟨#[]⟩, .int .i64 0, .int .i64 0, .int .i64 0, .slice none 0 0]) (by simp [results, Tryz.results119, go_sem, r0, fr0]) rfl ⟨rfl, by rw [if_pos rfl]; exact hk, ht⟩
 ·have t1 : (code == 0) = false := nH.2 h0;have b0 := cz4 HB1.o.blk;have fb0 := fz HB1.o.blk;have r0 := cz6 HR1.o;have fr0 := fz HR1.o;go_wp2_with fail;have hvs := Zaf (F := fun b => b ≠ w.heap.size) (B := w.heap.size) (w := w1) (fun h => h rfl) [.int .i64 0, .string ⟨#[]⟩, .int .i64 0, .int .i64 0, .int .i64 0, .slice none 0 0] (w1) 0 (Ze.refl _ _);have hk := HB1.o.keep (hvs.mono fun b hb e => by
   rcases hb with hb | hb
   ·omega
   ·have := HGL.o b hb; omega)
  have ht := HT1.o.trans (Q := fun b => b = w.heap.size) ⟨hvs, Zae (Nat.zero_le _) [.int .i64 0, .string ⟨#[]⟩, .int .i64 0, .int .i64 0, .int .i64 0, .slice none 0 0] _ 0 (Below.refl _ _)⟩ (fun _ h => h) (fun b hl e => by omega);simp only [Zz, Nat.zero_add, Nat.reduceAdd] at hk ht;exact bodyPost_ret (v := .agg #[.int .i64 0, .string ⟨#[]⟩, .int .i64 0, .int .i64 0, .int .i64 0, .slice none 0 0]) (by simp [results, Tryz.results119, go_sem, r0, fr0]) rfl ⟨rfl, by rw [if_neg h0]; exact hk, ht⟩
/-- A variable's aH: what is left. -/
def Zq5 (B BB : Nat) (TB : TypeId) (G : Nat → Prop) (vars : List Zd) (n : Nat) (code : Int) (x : Zd) (w : World) (e : Ending) (w' : World) : Prop :=
 ∃ (k : Int) (vars' : List Zd) (code' : Int) (vv' : Value) (G' : Nat → Prop), e = .returned (.int .i64 k) ∧ Bu B BB TB G' w' vars' n code' vv' ∧ (∀ b, G' b → G b ∨ w.heap.size ≤ b) ∧ Tch (fun b => b = BB ∨ G b) w w' ∧ Zy k ∧
  (∀ k0 vs0, Ze7 vars x = some (k0, vs0) → k = k0 ∧ vars' = vs0 ∧ code' = code) ∧ (Ze7 vars x = none → code' = if code = 0 then 302 else code)
theorem Zjo (B BB : Nat) (G : Nat → Prop) (vars : List Zd) (n : Nat) (code : Int) (vv : Value) (x : Zd) (w : World) (h : Bu B BB 159 G w vars n code vv) (hi : vIn x) :
  Calls Tryz.prog 157 #[.pointer (some ⟨BB, 0, none⟩), .agg #[.int .i64 x.kind, .int .i64 x.aH, .int .i64 x.index, .string x.text, .int .i64 x.set_.low, .int .i64 x.set_.high]] w (Zq5 B BB 159 G vars n code x w) := by
 obtain ⟨Av, cv, rfl, hcv, hcm, -⟩ := id h.row;unfold maxLen at hcm;have hlen := h.len;have hc64 := h.c64;obtain ⟨iV, hiV, hzV0, hzV1, hzV2⟩ := info_parts Zh2;obtain ⟨w1, hw1⟩ : ∃ z, z = w.alloc (.cells #[.int .i64 x.kind, .int .i64 x.aH, .int .i64 x.index, .string x.text, .int .i64 x.set_.low, .int .i64 x.set_.high] 34) := ⟨_, rfl⟩;have hl1 : Za w w1 := by rw [hw1]; exact (Za.refl w).alloc _
 have HX1 := zh (show w1.heap[w.heap.size]? = some (.cells #[.int .i64 x.kind, .int .i64 x.aH, .int .i64 x.index, .string x.text, .int .i64 x.set_.low, .int .i64 x.set_.high] 34 (0, 0)) by rw [hw1]; exact heap_alloc_new _ _);have HB1 := zh (h.later hl1);have HL1 := zh hl1;have HIN := zh hi;have HGL := zh h.lt;have hBB := Zb h.blk;clear h hl1 hi;go_enter Tryz.func157, Tryz.ntmps157;go_upto_region 1 with (fail);rw [← hw1];clear hw1;refine Zax [5, 6] [] (by kernel_rfl) (fun W hW => ?_);have hlW : Za w1 W := by rw [hW]; exact (Za.refl _).drew
 clear hW;have HBW := zh (HB1.o.later hlW);have HXW := zC hlW HX1;have HLW := zh (HL1.o.trans hlW);clear hlW HB1 HX1 HL1;refine tU 0 6 (v := ?_) rfl rfl (fun x hx => ?_) ?_;rotate_left
 ·go_simp;first|done|with_reducible rfl
 simp only [Act.put, nA, nB, nC];refine tU 1 7 (v := ?_) rfl rfl (fun x hx => ?_) ?_;rotate_left
 ·go_simp;first|done|with_reducible rfl
 simp only [Act.put, nA, nB, nC];refine tU 2 8 (v := ?_) rfl rfl (fun x hx => ?_) ?_;rotate_left
 ·go_simp;first|done|with_reducible rfl
 simp only [Act.put, nA, nB, nC];refine tU 3 9 (v := ?_) rfl rfl (fun x hx => ?_) ?_;rotate_left
 ·have hxb := (hx.block _ (Zb HBW.o.blk)).trans HBW.o.blk; have hxx := (hx.block _ (Zb HXW.o)).trans HXW.o; have b0 := cell_of_row _ BB 0 _ _ _ hxb; have b1 := cell_of_row _ BB 1 _ _ _ hxb; have b2 := cell_of_row _ BB 2 _ _ _ hxb; have b3 := cell_of_row _ BB 3 _ _ _ hxb; have x0 := cell_of_row _ w.heap.size 0 _ _ _ hxx; have x1 := cell_of_row _ w.heap.size 1 _ _ _ hxx; have x2 := cell_of_row _ w.heap.size 2 _ _ _ hxx; have x3 := cell_of_row _ w.heap.size 3 _ _ _ hxx; have x4 := cell_of_row _ w.heap.size 4 _ _ _ hxx; have x5 := cell_of_row _ w.heap.size 5 _ _ _ hxx; simp only [nD, nE, nF] at b0 b1 b2 b3 x0 x1 x2 x3 x4 x5; go_simp;first|done|with_reducible rfl
 simp only [Act.put, nA, nB, nC];refine tU 4 10 (v := ?_) rfl rfl (fun x hx => ?_) ?_;rotate_left
 ·have hxb := (hx.block _ (Zb HBW.o.blk)).trans HBW.o.blk; have hxx := (hx.block _ (Zb HXW.o)).trans HXW.o; have b0 := cell_of_row _ BB 0 _ _ _ hxb; have b1 := cell_of_row _ BB 1 _ _ _ hxb; have b2 := cell_of_row _ BB 2 _ _ _ hxb; have b3 := cell_of_row _ BB 3 _ _ _ hxb; have x0 := cell_of_row _ w.heap.size 0 _ _ _ hxx; have x1 := cell_of_row _ w.heap.size 1 _ _ _ hxx; have x2 := cell_of_row _ w.heap.size 2 _ _ _ hxx; have x3 := cell_of_row _ w.heap.size 3 _ _ _ hxx; have x4 := cell_of_row _ w.heap.size 4 _ _ _ hxx; have x5 := cell_of_row _ w.heap.size 5 _ _ _ hxx; simp only [nD, nE, nF] at b0 b1 b2 b3 x0 x1 x2 x3 x4 x5; go_simp;first|done|with_reducible rfl
 simp only [Act.put, nA, nB, nC];refine Za7 [_, _] (by kernel_rfl) rfl rfl ?_;simp only [List.getElem_toArray, List.getElem_cons_succ, List.getElem_cons_zero];obtain ⟨ff, hff⟩ : ∃ q, Zei vars x = q := ⟨_, rfl⟩;go_wp2_with fail;refine (Zk3 vars _ x G W (HBW.o.row.el Zl)).mono ?_;rw [hff];rintro e w2 ⟨rfl, hl2⟩;have HB2 := zh (HBW.o.later hl2);have HX2 := zC hl2 HXW;have HL2 := zh (HLW.o.trans hl2);clear hl2;have HF := zh hff;have hf64 : ff ≤ 100 ∧ -1 ≤ ff := by
  rw [← hff];unfold Zei
  split
  ·have := Zml vars x; omega
  ·omega
 clear hff
 by_cases h0 : 0 ≤ ff
 ·have t1 : decide (0 ≤ ff) = true := decide_eq_true h0;have HV := zh (show Ze7 vars x = some (ff, vars) by unfold Ze7; rw [HF.o, if_pos h0]);go_wp2_with fail;go_ret;exact ⟨ff, vars, code, _, G, rfl, HB2.o, fun b hb => .inl hb, Tch.later HL2.o, Zde ff (by omega) (by omega), fun k0 vs0 e => by (rw [HV.o] at e; cases e; exact ⟨rfl, rfl, rfl⟩), fun e => by (rw [HV.o] at e; cases e)⟩
 have t1 : decide (0 ≤ ff) = false := decide_eq_false h0
 by_cases h24 : vars.length = 24
 ·have t2 : ((vars.length : Int) == 24) = true := by simpa using (show (vars.length : Int) = 24 by omega)
  have HV := zh (show Ze7 vars x = none by unfold Ze7; rw [HF.o, if_neg h0, if_pos (by omega)]);obtain ⟨b0, b1, b2, b3⟩ := cz4 HB2.o.blk;have fb0 := fz HB2.o.blk;go_wp2_with fail;refine (Zft B BB G vars n code 302 _ w2 HB2.o (by omega)).mono ?_;rintro e w3 ⟨rfl, hb3, ht3⟩;have HB3 := zh hb3;have HT3 := zh ht3;clear hb3 ht3;clear b0 b1 b2 b3 fb0;go_wp2_with fail;go_ret;exact ⟨0, vars, _, _, G, rfl, HB3.o, fun b hb => .inl hb, Tch.fl HL2.o (HT3.o.mono fun b _ h => .inl h), Zde 0 (by omega) (by omega), fun k0 vs0 e => by (rw [HV.o] at e; cases e), fun _ => rfl⟩
 have t2 : ((vars.length : Int) == 24) = false := by simpa using (show ¬ (vars.length : Int) = 24 by omega)
 have HV := zh (show Ze7 vars x = some ((vars.length : Int), vars ++ [x]) by unfold Ze7; rw [HF.o, if_neg h0, if_neg (by omega)]);obtain ⟨b0, b1, b2, b3⟩ := cz4 HB2.o.blk;have fb0 := fz HB2.o.blk;go_upto_region 7 with (fail);clear b0 b1 b2 b3 fb0;refine Zax [7, 8, 9, 10] [0] (by kernel_rfl) (fun V hV => ?_);have hlW : Za w2 V := by rw [hV]; exact (Za.refl _).drew
 clear hV;have HBV := zh (HB2.o.later hlW);have HXV := zC hlW HX2;have HLV := zh (HL2.o.trans hlW);clear hlW HB2 HX2 HL2;refine Znq 0 (some 23) (v := ?_) rfl rfl (by kernel_rfl) (fun _ _ _ h => h) rfl (fun x => ?_) ?_;rotate_left
 ·go_simp;first|done|with_reducible rfl
 simp only [Act.put, nA, nB, nC];refine tU 1 24 (v := ?_) rfl rfl (fun x hx => ?_) ?_;rotate_left
 ·go_simp;first|done|with_reducible rfl
 simp only [Act.put, nA, nB, nC];refine tU 2 25 (v := ?_) rfl rfl (fun x hx => ?_) ?_;rotate_left
 ·go_simp;first|done|with_reducible rfl
 simp only [Act.put, nA, nB, nC];refine tU 3 26 (v := ?_) rfl rfl (fun x hx => ?_) ?_;rotate_left
 ·go_simp;first|done|with_reducible rfl
 simp only [Act.put, nA, nB, nC];refine tU 4 27 (v := ?_) rfl rfl (fun x hx => ?_) ?_;rotate_left
 ·have hxb := (hx.block _ (Zb HBV.o.blk)).trans HBV.o.blk; have hxx := (hx.block _ (Zb HXV.o)).trans HXV.o; have b0 := cell_of_row _ BB 0 _ _ _ hxb; have b1 := cell_of_row _ BB 1 _ _ _ hxb; have b2 := cell_of_row _ BB 2 _ _ _ hxb; have b3 := cell_of_row _ BB 3 _ _ _ hxb; have x0 := cell_of_row _ w.heap.size 0 _ _ _ hxx; have x1 := cell_of_row _ w.heap.size 1 _ _ _ hxx; have x2 := cell_of_row _ w.heap.size 2 _ _ _ hxx; have x3 := cell_of_row _ w.heap.size 3 _ _ _ hxx; have x4 := cell_of_row _ w.heap.size 4 _ _ _ hxx; have x5 := cell_of_row _ w.heap.size 5 _ _ _ hxx; simp only [nD, nE, nF] at b0 b1 b2 b3 x0 x1 x2 x3 x4 x5; go_simp;first|done|with_reducible rfl
 simp only [Act.put, nA, nB, nC];refine tU 5 28 (v := ?_) rfl rfl (fun x hx => ?_) ?_;rotate_left
 ·have hxb := (hx.block _ (Zb HBV.o.blk)).trans HBV.o.blk; have hxx := (hx.block _ (Zb HXV.o)).trans HXV.o; have b0 := cell_of_row _ BB 0 _ _ _ hxb; have b1 := cell_of_row _ BB 1 _ _ _ hxb; have b2 := cell_of_row _ BB 2 _ _ _ hxb; have b3 := cell_of_row _ BB 3 _ _ _ hxb; have x0 := cell_of_row _ w.heap.size 0 _ _ _ hxx; have x1 := cell_of_row _ w.heap.size 1 _ _ _ hxx; have x2 := cell_of_row _ w.heap.size 2 _ _ _ hxx; have x3 := cell_of_row _ w.heap.size 3 _ _ _ hxx; have x4 := cell_of_row _ w.heap.size 4 _ _ _ hxx; have x5 := cell_of_row _ w.heap.size 5 _ _ _ hxx; simp only [nD, nE, nF] at b0 b1 b2 b3 x0 x1 x2 x3 x4 x5; go_simp;first|done|with_reducible rfl
 simp only [Act.put, nA, nB, nC];refine Ze3 6 (by kernel_rfl) rfl rfl ?_;have hlx : Za V (V.alloc (.cells [.int .i64 x.kind, .int .i64 x.aH, .int .i64 x.index, .string x.text, .int .i64 x.set_.low, .int .i64 x.set_.high].toArray 34)) := (Za.refl _).alloc _;have HXR := zh (HBV.o.row.keep Zl.is (fun _ h => h) (Ze.later hlx));have HVA := zh (HBV.o.later hlx);have HLA := zh (HLV.o.trans hlx);go_wp2_with fail;refine ⟨hlx, ?_⟩;clear hlx;refine Za7 [_, _, _, _] (by kernel_rfl) rfl rfl ?_;simp only [List.getElem_toArray, List.getElem_cons_succ, List.getElem_cons_zero]
 go_wp2_with (at_builtin; refine Zbo Zl rfl _ _ 27 rfl 34 iV (.agg #[.int .i64 0, .int .i64 0, .int .i64 0, .string ⟨#[]⟩, .int .i64 0, .int .i64 0]) 56 Tryz.underlying27 hiV hzV0 hzV1 hzV2 rfl rfl HXR.o ⟨V.heap.size, 0, none⟩ 1 rfl x [.int .i64 x.kind, .int .i64 x.aH, .int .i64 x.index, .string x.text, .int .i64 x.set_.low, .int .i64 x.set_.high] (Zfc V [.int .i64 x.kind, .int .i64 x.aH, .int .i64 x.index, .string x.text, .int .i64 x.set_.low, .int .i64 x.set_.high] 34) (by intro u hu; simp at hu; rcases hu with rfl | rfl | rfl | rfl | rfl | rfl <;> rfl) (HIN.o.el (fun _ => False) _) (fun y hg hf => hg.elim) (by omega) (by decide) ?_; intro v2 Y hrow hkp hb0; have hYB := (hkp.same BB HVA.o.nG (Zb HVA.o.blk)).trans HVA.o.blk; have y1 := cell_of_row _ BB 1 _ _ _ hYB; simp only [nD, nE, nF] at y1; have yf := frozen_of_row _ BB 1 _ _ hYB; obtain ⟨A2, c2, rfl, -, -, -⟩ := id hrow)
 have HB3 := zh (HVA.o.setV hkp hrow (fun b hb => by
  rcases hb with hb | hb | hb
  ·exact .inl hb
  ·exact hb.elim
  ·right; rw [hb]; simp) (by simp; omega))
 have hls := Below.size HLA.o;have hVs : (V.alloc (.cells #[.int .i64 x.kind, .int .i64 x.aH, .int .i64 x.index, .string x.text, .int .i64 x.set_.low, .int .i64 x.set_.high] 34)).heap.size = V.heap.size + 1 := by simp
 have HT3 := zh (show Tch (fun b => b = BB ∨ G b) w Y from ⟨⟨Nat.le_trans HLA.o.size hkp.size, fun b hb hl => (hkp.same b (fun hg => hb (.inr hg)) (Nat.lt_of_lt_of_le hl HLA.o.size)).trans (HLA.o.block b hl)⟩, (Below.mono HLA.o (Nat.zero_le _)).trans hb0⟩);have HG3 := zh (show ∀ b, ((G b ∨ False ∨ b = (V.alloc (.cells #[.int .i64 x.kind, .int .i64 x.aH, .int .i64 x.index, .string x.text, .int .i64 x.set_.low, .int .i64 x.set_.high] 34)).heap.size) ∧ b < Y.heap.size) → G b ∨ w.heap.size ≤ b from fun b hb => by
  rcases hb.1 with q | q | q
  ·exact .inl q
  ·exact q.elim
  ·right; rw [q]; exact HLA.o.size)
 clear hrow hkp hb0 hYB hls hVs;go_upto_region 8 with (fail);clear y1 yf;have HTF := zh (HT3.o.set (c := BB) (.inl rfl) 1 (.slice A2 (vars ++ [x]).length c2));simp only [List.length_append, List.length_cons, List.length_nil, Nat.zero_add] at HB3 HTF;obtain ⟨b0, b1, b2, b3⟩ := cz4 HB3.o.blk;have fb0 := fz HB3.o.blk;have t5 : wrap64 (((vars.length + 1 : Nat) : Int) - 1) = (vars.length : Int) := by unfold wrap64; omega
 go_wp2_with fail;go_ret;refine ⟨(vars.length : Int), vars ++ [x], code, _, _, ?_, HB3.o, HG3.o, HTF.o, Zde _ (by omega) (by omega), fun k0 vs0 e => ?_, fun e => ?_⟩
 ·first | rfl | (congr 2; omega)
 ·rw [HV.o] at e;cases e;exact ⟨rfl, rfl, rfl⟩
 ·rw [HV.o] at e;cases e
set_option maxRecDepth 1000000
set_option maxHeartbeats 4000000
theorem Zwv {a : Act} {w : World} (f : Nat) (w0 : World) (B BB RB PB IB : Nat) (G0 : Nat → Prop) (r : Zf) (n0 : Nat) (T : Zbp) (lo hi : Nat) (hlo : n0 ≤ lo) (hhi : hi ≤ 303 + 2 * (f + 1)) (hf : f ≤ 301) (NB : Nat → Prop) (hNI : NB IB) (v60 v61 v62 : Value) (x : Zd) (l : List Zd) (hk : x.kind = 1) (HF : Hd (FrI BB RB PB (.pointer (some ⟨IB, 0, none⟩)) v60 v61 v62 (.int .i64 x.kind) a)) (HW : Hd (TrW (f + 1) w0 B BB RB PB 159 G0 (trR r f) T lo hi NB (x :: l) w)) (HX : Hd (w.heap[IB]? = some (.cells (VC6 x).toArray 34 (0, 0)))) (HIP : Hd (IB ≠ PB)) (HH : Hd (Zj r x = true)) (HI : Hd (vIn x)) :
  trSwI.wp Tryz.prog (Zi0 (SwI (f + 1) w0 B BB RB PB G0 (trR r f) T lo (hi + 1) NB v60 v61 v62 l) (SwR (f + 1) w0 B BB RB PB G0 n0 0 T)) a w := by
 obtain ⟨p, vars, n, code, vv, vk, G, H, hs, hN, hn1, hn2, hkl, hGI⟩ := HW.o;have HS := zh hs;have HN := zh hN;have HGI := zh hGI;have hx1 := Zb4 HH.o;have hpi := HS.o.pin;have HPI := zh hpi;have hIP : ¬ IB = PB := HIP.o;have hPI : ¬ PB = IB := fun e => HIP.o e.symm;clear hs hN hGI hpi HW;obtain ⟨fr, rfl⟩ := HF.o.opn;clear HF
 conv => arg 2; whnf
 have q0 := cz6 HS.o.pb;have fq0 := fz HS.o.pb;have x0 := cz6 HX.o
 by_cases hr : 0 ≤ x.aH ∧ x.aH ≤ 120
 ·have t1 : decide (x.aH < 0) = false := decide_eq_false (by omega);have t2 : decide (120 < x.aH) = false := decide_eq_false (by omega);have HS2 := zh (HS.o.setP 2 (.int .i64 x.aH) { p with aH := x.aH } rfl rfl ⟨HPI.o.op, HPI.o.text, HI.o.2.1, HPI.o.low, HPI.o.high⟩);have HN2 := zh (HN.o.eq (res' := itR (trR r f) l { p with aH := x.aH } vars n) (by rw [itR, if_pos hk, if_pos hr]));go_wp2_with fail;exact ⟨_, _, FrI.mk' rfl rfl rfl rfl rfl rfl rfl rfl rfl, _, _, _, _, _, _, _, _, HS2.o, HN2.o, by omega, by omega, by show p.kids.length ≤ hi + 1; omega, fun b hb => ⟨(HGI.o b hb).1, (HGI.o b hb).2.1, by simpa using (HGI.o b hb).2.2⟩⟩
 ·have HTB : Hd (∀ code, Now code (itR (trR r f) (x :: l) p vars n) T → T = .bad (if code = 0 then 205 else code)) := zh fun code hN => by
   by_cases hc : code = 0
   ·rw [if_pos hc, ← hN.1 hc, itR, if_pos hk, if_neg hr]
   ·rw [if_neg hc]; exact hN.2 hc
  by_cases h0 : x.aH < 0
  ·have t1 : decide (x.aH < 0) = true := decide_eq_true h0;go_wp2_with fail;refine (Zft B BB G vars n code 205 vv w HS.o.bu (by omega)).mono ?_;rintro e w3 ⟨rfl, hb3, ht3⟩;have hpos := HS.o.pos;have hRB : w3.heap[RB]? = some (.cells ZP6.toArray Zbc (0, 0)) := ht3.has HS.o.rb (by omega);have HR3 := zh hRB;have HRB := zh (Zaa (o := 5) (Zaa (o := 4) (Zaa (o := 3) (Zaa (o := 2) (Zaa (o := 1) (Zaa (o := 0) hRB (.int .i64 0)) (.string ⟨#[]⟩)) (.int .i64 0)) (.int .i64 0)) (.int .i64 0)) (.slice none 0 0));have HTP := zh (Zeg (f := f + 1) (n0 := n0) (c0 := 0) (T := T) (RB := RB) hb3 (Tch.trans HS.o.tch ht3 (fun _ h => h) (fun b hl e => .inl e)) HS.o.gG HS.o.gR hpos.1 hpos.2.2.2 (Zdq 0) (PIn.zero 0 (Zde 0 (by omega) (by omega))) rfl (Now.stop (HTB.o code HN.o) (by have := HS.o.bu.c64; split <;> omega)) ⟨by omega, fun _ => .inl (by omega), fun h => absurd rfl h⟩);clear hpos hRB hb3 ht3 q0 fq0 x0;have r0 := cz6 HR3.o;have fr0 := fz HR3.o;go_wp2_with fail;refine ⟨_, _, _, _, _, FrI.mk' rfl rfl rfl rfl rfl rfl rfl rfl rfl, by simpa using HRB.o, ?_⟩;have hd := HTP.o;simp only [PC, Zz, Nat.zero_add, Nat.reduceAdd] at hd;exact hd
  ·have t1 : decide (x.aH < 0) = false := decide_eq_false h0;have t2 : decide (120 < x.aH) = true := decide_eq_true (by omega);go_wp2_with fail;refine (Zft B BB G vars n code 205 vv w HS.o.bu (by omega)).mono ?_;rintro e w3 ⟨rfl, hb3, ht3⟩;have hpos := HS.o.pos;have hRB : w3.heap[RB]? = some (.cells ZP6.toArray Zbc (0, 0)) := ht3.has HS.o.rb (by omega);have HR3 := zh hRB;have HRB := zh (Zaa (o := 5) (Zaa (o := 4) (Zaa (o := 3) (Zaa (o := 2) (Zaa (o := 1) (Zaa (o := 0) hRB (.int .i64 0)) (.string ⟨#[]⟩)) (.int .i64 0)) (.int .i64 0)) (.int .i64 0)) (.slice none 0 0));have HTP := zh (Zeg (f := f + 1) (n0 := n0) (c0 := 0) (T := T) (RB := RB) hb3 (Tch.trans HS.o.tch ht3 (fun _ h => h) (fun b hl e => .inl e)) HS.o.gG HS.o.gR hpos.1 hpos.2.2.2 (Zdq 0) (PIn.zero 0 (Zde 0 (by omega) (by omega))) rfl (Now.stop (HTB.o code HN.o) (by have := HS.o.bu.c64; split <;> omega)) ⟨by omega, fun _ => .inl (by omega), fun h => absurd rfl h⟩);clear hpos hRB hb3 ht3 q0 fq0 x0;have r0 := cz6 HR3.o;have fr0 := fz HR3.o;go_wp2_with fail;refine ⟨_, _, _, _, _, FrI.mk' rfl rfl rfl rfl rfl rfl rfl rfl rfl, by simpa using HRB.o, ?_⟩;have hd := HTP.o;simp only [PC, Zz, Nat.zero_add, Nat.reduceAdd] at hd;exact hd
theorem Zww {a : Act} {w : World} (f : Nat) (w0 : World) (B BB RB PB IB : Nat) (G0 : Nat → Prop) (r : Zf) (n0 : Nat) (T : Zbp) (lo hi : Nat) (hlo : n0 ≤ lo) (hhi : hi ≤ 303 + 2 * (f + 1)) (hf : f ≤ 301) (NB : Nat → Prop) (hNI : NB IB) (v60 v61 v62 : Value) (x : Zd) (l : List Zd) (hk : x.kind = 2) (HF : Hd (FrI BB RB PB (.pointer (some ⟨IB, 0, none⟩)) v60 v61 v62 (.int .i64 x.kind) a)) (HW : Hd (TrW (f + 1) w0 B BB RB PB 159 G0 (trR r f) T lo hi NB (x :: l) w)) (HX : Hd (w.heap[IB]? = some (.cells (VC6 x).toArray 34 (0, 0)))) (HIP : Hd (IB ≠ PB)) (HH : Hd (Zj r x = true)) (HI : Hd (vIn x)) :
  trSwI.wp Tryz.prog (Zi0 (SwI (f + 1) w0 B BB RB PB G0 (trR r f) T lo (hi + 1) NB v60 v61 v62 l) (SwR (f + 1) w0 B BB RB PB G0 n0 0 T)) a w := by
 obtain ⟨p, vars, n, code, vv, vk, G, H, hs, hN, hn1, hn2, hkl, hGI⟩ := HW.o;have HS := zh hs;have HN := zh hN;have HGI := zh hGI;have hx1 := Zb4 HH.o;have hpi := HS.o.pin;have HPI := zh hpi;have hIP : ¬ IB = PB := HIP.o;have hPI : ¬ PB = IB := fun e => HIP.o e.symm;clear hs hN hGI hpi HW;obtain ⟨fr, rfl⟩ := HF.o.opn;clear HF
 conv => arg 2; whnf
 have q0 := cz6 HS.o.pb;have fq0 := fz HS.o.pb;obtain ⟨x0, x1, x2, x3, x4, x5⟩ := cz6 HX.o;rw [hk] at x0;have HS2 := zh (HS.o.setP 1 (.string x.text) { p with text := x.text } rfl rfl ⟨HPI.o.op, by show x.text.size ≤ 1000; omega, HPI.o.aH, HPI.o.low, HPI.o.high⟩);have HN2 := zh (HN.o.eq (res' := itR (trR r f) l { p with text := x.text } vars n) (by rw [itR, if_neg (by omega), if_pos hk]));go_wp2_with fail;exact ⟨_, _, FrI.mk' rfl rfl rfl rfl rfl rfl rfl rfl rfl, _, _, _, _, _, _, _, _, HS2.o, HN2.o, by omega, by omega, by show p.kids.length ≤ hi + 1; omega, fun b hb => ⟨(HGI.o b hb).1, (HGI.o b hb).2.1, by simpa using (HGI.o b hb).2.2⟩⟩
theorem Zwx {a : Act} {w : World} (f : Nat) (w0 : World) (B BB RB PB IB : Nat) (G0 : Nat → Prop) (r : Zf) (n0 : Nat) (T : Zbp) (lo hi : Nat) (hlo : n0 ≤ lo) (hhi : hi ≤ 303 + 2 * (f + 1)) (hf : f ≤ 301) (NB : Nat → Prop) (hNI : NB IB) (v60 v61 v62 : Value) (x : Zd) (l : List Zd) (hk : x.kind = 3) (HF : Hd (FrI BB RB PB (.pointer (some ⟨IB, 0, none⟩)) v60 v61 v62 (.int .i64 x.kind) a)) (HW : Hd (TrW (f + 1) w0 B BB RB PB 159 G0 (trR r f) T lo hi NB (x :: l) w)) (HX : Hd (w.heap[IB]? = some (.cells (VC6 x).toArray 34 (0, 0)))) (HIP : Hd (IB ≠ PB)) (HH : Hd (Zj r x = true)) (HI : Hd (vIn x)) :
  trSwI.wp Tryz.prog (Zi0 (SwI (f + 1) w0 B BB RB PB G0 (trR r f) T lo (hi + 1) NB v60 v61 v62 l) (SwR (f + 1) w0 B BB RB PB G0 n0 0 T)) a w := by
 obtain ⟨p, vars, n, code, vv, vk, G, H, hs, hN, hn1, hn2, hkl, hGI⟩ := HW.o;have HS := zh hs;have HN := zh hN;have HGI := zh hGI;have hx1 := Zb4 HH.o;have hpi := HS.o.pin;have HPI := zh hpi;have hIP : ¬ IB = PB := HIP.o;have hPI : ¬ PB = IB := fun e => HIP.o e.symm;clear hs hN hGI hpi HW;obtain ⟨fr, rfl⟩ := HF.o.opn;clear HF
 conv => arg 2; whnf
 have q0 := cz6 HS.o.pb;have fq0 := fz HS.o.pb;have x0 := cz6 HX.o;have HS2 := zh ((HS.o.setP 3 (.int .i64 x.set_.low) { p with set_ := ⟨x.set_.low, p.set_.high⟩ } rfl rfl ⟨HPI.o.op, HPI.o.text, HPI.o.aH, HI.o.2.2.2.2.1, HPI.o.high⟩).setP 4 (.int .i64 x.set_.high) { p with set_ := x.set_ } rfl rfl ⟨HPI.o.op, HPI.o.text, HPI.o.aH, HI.o.2.2.2.2.1, HI.o.2.2.2.2.2⟩);have HN2 := zh (HN.o.eq (res' := itR (trR r f) l { p with set_ := x.set_ } vars n) (by rw [itR, if_neg (by omega), if_neg (by omega), if_pos hk]));go_wp2_with fail;exact ⟨_, _, FrI.mk' rfl rfl rfl rfl rfl rfl rfl rfl rfl, _, _, _, _, _, _, _, _, HS2.o, HN2.o, by omega, by omega, by show p.kids.length ≤ hi + 1; omega, fun b hb => ⟨(HGI.o b hb).1, (HGI.o b hb).2.1, by simpa using (HGI.o b hb).2.2⟩⟩
theorem Zwy {a : Act} {w : World} (f : Nat) (w0 : World) (B BB RB PB IB : Nat) (G0 : Nat → Prop) (r : Zf) (n0 : Nat) (T : Zbp) (lo hi : Nat) (hlo : n0 ≤ lo) (hhi : hi ≤ 303 + 2 * (f + 1)) (hf : f ≤ 301) (NB : Nat → Prop) (hNI : NB IB) (v60 v61 v62 : Value) (x : Zd) (l : List Zd) (hk : ¬ x.kind = 1 ∧ ¬ x.kind = 2 ∧ ¬ x.kind = 3 ∧ ¬ x.kind = 12) (HF : Hd (FrI BB RB PB (.pointer (some ⟨IB, 0, none⟩)) v60 v61 v62 (.int .i64 x.kind) a)) (HW : Hd (TrW (f + 1) w0 B BB RB PB 159 G0 (trR r f) T lo hi NB (x :: l) w)) (HX : Hd (w.heap[IB]? = some (.cells (VC6 x).toArray 34 (0, 0)))) (HIP : Hd (IB ≠ PB)) (HH : Hd (Zj r x = true)) (HI : Hd (vIn x)) :
  trSwI.wp Tryz.prog (Zi0 (SwI (f + 1) w0 B BB RB PB G0 (trR r f) T lo (hi + 1) NB v60 v61 v62 l) (SwR (f + 1) w0 B BB RB PB G0 n0 0 T)) a w := by
 obtain ⟨p, vars, n, code, vv, vk, G, H, hs, hN, hn1, hn2, hkl, hGI⟩ := HW.o;have HS := zh hs;have HN := zh hN;have HGI := zh hGI;have hx1 := Zb4 HH.o;have hpi := HS.o.pin;have HPI := zh hpi;have hIP : ¬ IB = PB := HIP.o;have hPI : ¬ PB = IB := fun e => HIP.o e.symm;clear hs hN hGI hpi HW;obtain ⟨fr, rfl⟩ := HF.o.opn;clear HF
 conv => arg 2; whnf
 have q0 := cz6 HS.o.pb;have fq0 := fz HS.o.pb;have x0 := cz6 HX.o;have b0 := cz4 HS.o.bu.blk;have e1 : (x.kind == 1) = false := nH.2 hk.1;have e2 : (x.kind == 2) = false := nH.2 hk.2.1;have e3 : (x.kind == 3) = false := nH.2 hk.2.2.1;have e12 : (x.kind == 12) = false := nH.2 hk.2.2.2
 by_cases hc : code = 0
 ·have t1 : (code == 0) = true := beq_iff_eq.2 hc;go_wp2_with fail;refine (Zjo B BB G vars n code vv x w HS.o.bu HI.o).mono ?_;rintro e w3 ⟨k, vars', code', vv', G', rfl, hb3, hG3, ht3, hk64, hv1, hv2⟩;have HS3 := zh (HS.o.var hb3 hG3 ht3);have HN3 := zh (HN.o.var hk hv1 hv2);have HGI3 : Hd (∀ b, NB b → ¬ G' b ∧ ¬ H b ∧ b < w3.heap.size) := zh fun b hb => ⟨fun hg => by
   have h1 := HGI.o b hb
   rcases hG3 b hg with q | q
   ·exact h1.1 q
   ·omega, (HGI.o b hb).2.1, by have := (HGI.o b hb).2.2; have := ht3.size; omega⟩
  have HK64 := zh hk64;clear hb3 hG3 ht3 hk64 hv1 hv2 q0 fq0 x0 b0;have q0 := cz6 HS3.o.pb;have fq0 := fz HS3.o.pb;have HS4 := zh (HS3.o.setP 2 (.int .i64 k) { p with aH := k } rfl rfl ⟨HPI.o.op, HPI.o.text, HK64.o, HPI.o.low, HPI.o.high⟩);go_wp2_with fail;exact ⟨_, _, FrI.mk' rfl rfl rfl rfl rfl rfl rfl rfl rfl, _, _, _, _, _, _, _, _, HS4.o, HN3.o, by omega, by omega, by show p.kids.length ≤ hi + 1; omega, fun b hb => ⟨(HGI3.o b hb).1, (HGI3.o b hb).2.1, by simpa using (HGI3.o b hb).2.2⟩⟩
 ·have t1 : (code == 0) = false := nH.2 hc;have HN2 := zh (HN.o.same (res' := itR (trR r f) l p vars n) hc);go_wp2_with fail;exact ⟨_, _, FrI.mk' rfl rfl rfl rfl rfl rfl rfl rfl rfl, _, _, _, _, _, _, _, _, HS.o, HN2.o, by omega, by omega, by show p.kids.length ≤ hi + 1; omega, fun b hb => ⟨(HGI.o b hb).1, (HGI.o b hb).2.1, by simpa using (HGI.o b hb).2.2⟩⟩
set_option maxRecDepth 1000000
set_option maxHeartbeats 4000000
theorem Zvc : (Tryz.prog.info? Zbc).map (fun i => (i.zero, i.size, i.bytes)) = some (some (.agg #[.int .i64 0, .string ⟨#[]⟩, .int .i64 0, .int .i64 0, .int .i64 0, .slice none 0 0]), 6, 72) := by kernel_rfl
theorem Zwe {a : Act} {w : World} (f : Nat) (w0 : World) (B BB RB PB IB : Nat) (G0 : Nat → Prop) (r : Zf) (n0 : Nat) (T : Zbp) (lo hi : Nat) (hlo : n0 ≤ lo) (hhi : hi ≤ 303 + 2 * (f + 1)) (hf : f ≤ 301) (NB : Nat → Prop) (hNI : NB IB) (v60 v61 v62 : Value) (x : Zd) (l : List Zd) (hk : x.kind = 12) (cs : List Value) (F : Nat → Prop) (I : World → Prop) (IH : Zep 117 159 r cs I f) (HST : Hd (Z3 F w0 B r cs)) (HFA : Hd (∀ b, F b → b ≠ BB ∧ ¬ G0 b ∧ b < w0.heap.size)) (HBA : Hd (B ≠ BB ∧ ¬ G0 B)) (hfl : 301 ≤ lo + f) (hhl : 303 + 2 * f ≤ hi) (HIW : Hd (w0.heap.size ≤ IB ∧ IB ≠ RB)) (HII : Hd (∀ x, Tch (fun b => b = BB ∨ G0 b ∨ w0.heap.size ≤ b) w0 x → I x)) (HF : Hd (FrI BB RB PB (.pointer (some ⟨IB, 0, none⟩)) v60 v61 v62 (.int .i64 x.kind) a)) (HW : Hd (TrW (f + 1) w0 B BB RB PB 159 G0 (trR r f) T lo hi NB (x :: l) w)) (HX : Hd (w.heap[IB]? = some (.cells (VC6 x).toArray 34 (0, 0)))) (HIP : Hd (IB ≠ PB)) (HH : Hd (Zj r x = true)) (HI : Hd (vIn x)) :
  trSwI.wp Tryz.prog (Zi0 (SwI (f + 1) w0 B BB RB PB G0 (trR r f) T lo (hi + 1) NB v60 v61 v62 l) (SwR (f + 1) w0 B BB RB PB G0 n0 0 T)) a w := by
 obtain ⟨p, vars, n, code, vv, vk, G, H, hs, hN, hn1, hn2, hkl, hGI⟩ := HW.o;have HS := zh hs;have HN := zh hN;have HGI := zh hGI;have hx1 := Zb4 HH.o;have hpi := HS.o.pin;have HPI := zh hpi;have hIP : ¬ IB = PB := HIP.o;have hPI : ¬ PB = IB := fun e => HIP.o e.symm;clear hs hN hGI hpi HW;obtain ⟨fr, rfl⟩ := HF.o.opn;clear HF
 conv => arg 2; whnf
 obtain ⟨Ak, ck, rfl, -⟩ := id HS.o.kids;obtain ⟨iP, hiP, hzP0, hzP1, hzP2⟩ := info_parts Zvc;obtain ⟨q0, q1, q2, q3, q4, q5⟩ := cz6 HS.o.pb;have fq0 := fz HS.o.pb;obtain ⟨x0, x1, x2, x3, x4, x5⟩ := cz6 HX.o;rw [hk] at x0;go_upto_region 28 with (fail);have HK12 := zh hk;clear hk;refine Zey [6, 7, 8] [] (fun z => z.heap[PB]? = some (.cells (PC p (.slice Ak p.kids.length ck)).toArray Zbc (0, 0)) ∧ z.heap[IB]? = some (.cells (VC6 x).toArray 34 (0, 0))) (by kernel_rfl) (fun W hW => ?_);have hlW : Za w W := by rw [hW]; exact (Za.refl _).drew
 clear hW;have HSW := zh (HS.o.later hlW);have HXW := zC hlW HX;have HSS := zh (And.intro HSW.o.pb HXW.o);have HLW := zh hlW;clear hlW q0 q1 q2 q3 q4 q5 fq0 x0 x1 x2 x3 x4 x5 HS HX;refine tV 0 104 (v := ?_) rfl rfl HSS.o (fun x hx => ?_) ?_;rotate_left
 ·go_simp;first|done|with_reducible rfl
 simp only [Act.put, nA, nB, nC];refine tV 1 105 (v := ?_) rfl rfl HSS.o (fun x hx => ?_) ?_;rotate_left
 ·have q0 := cell_of_row _ PB 0 _ _ _ hx.1; have q1 := cell_of_row _ PB 1 _ _ _ hx.1; have q2 := cell_of_row _ PB 2 _ _ _ hx.1; have q3 := cell_of_row _ PB 3 _ _ _ hx.1; have q4 := cell_of_row _ PB 4 _ _ _ hx.1; have q5 := cell_of_row _ PB 5 _ _ _ hx.1; have x0 := cell_of_row _ IB 0 _ _ _ hx.2; have x1 := cell_of_row _ IB 1 _ _ _ hx.2; have x2 := cell_of_row _ IB 2 _ _ _ hx.2; have x3 := cell_of_row _ IB 3 _ _ _ hx.2; have x4 := cell_of_row _ IB 4 _ _ _ hx.2; have x5 := cell_of_row _ IB 5 _ _ _ hx.2; simp only [nD, nE, nF] at q0 q1 q2 q3 q4 q5 x0 x1 x2 x3 x4 x5; go_simp;first|done|with_reducible rfl
 simp only [Act.put, nA, nB, nC];refine tV 2 106 (v := ?_) rfl rfl HSS.o (fun x hx => ?_) ?_;rotate_left
 ·go_simp;first|done|with_reducible rfl
 simp only [Act.put, nA, nB, nC];refine tV 3 107 (v := ?_) rfl rfl HSS.o (fun x hx => ?_) ?_;rotate_left
 ·have q0 := cell_of_row _ PB 0 _ _ _ hx.1; have q1 := cell_of_row _ PB 1 _ _ _ hx.1; have q2 := cell_of_row _ PB 2 _ _ _ hx.1; have q3 := cell_of_row _ PB 3 _ _ _ hx.1; have q4 := cell_of_row _ PB 4 _ _ _ hx.1; have q5 := cell_of_row _ PB 5 _ _ _ hx.1; have x0 := cell_of_row _ IB 0 _ _ _ hx.2; have x1 := cell_of_row _ IB 1 _ _ _ hx.2; have x2 := cell_of_row _ IB 2 _ _ _ hx.2; have x3 := cell_of_row _ IB 3 _ _ _ hx.2; have x4 := cell_of_row _ IB 4 _ _ _ hx.2; have x5 := cell_of_row _ IB 5 _ _ _ hx.2; simp only [nD, nE, nF] at q0 q1 q2 q3 q4 q5 x0 x1 x2 x3 x4 x5; go_simp;first|done|with_reducible rfl
 simp only [Act.put, nA, nB, nC];refine Zej 4 (by kernel_rfl) rfl rfl ?_;go_wp2_with fail;have hbB := HST.o.lt;have hFW : ∀ b, F b → b ≠ BB ∧ ¬ G b ∧ b < W.heap.size := fun b hb => by
  have h1 := HFA.o b hb;refine ⟨h1.1, fun hg => ?_, by have := HSW.o.tch.size; omega⟩
  rcases HSW.o.gG b hg with q | q
  ·exact h1.2.1 q
  ·omega
 have hBW : B ≠ BB ∧ ¬ G B := ⟨HBA.o.1, fun hg => by
  rcases HSW.o.gG B hg with q | q
  ·exact HBA.o.2 q
  ·omega⟩
 have hSt : Z3 F W B r cs := HST.o.tch HSW.o.tch (fun b hb e => by
  have h1 := HFA.o b hb
  rcases e with e | e
  ·exact h1.1 e
  ·exact h1.2.1 e) (fun e => by
  rcases e with e | e
  ·exact HBA.o.1 e
  ·exact HBA.o.2 e)
 refine (IH B BB F G vars n code vv W x (zh HSW.o.bu) (zh hSt) (zh hFW) (zh hBW) (by omega) (zh fun _ => by omega) HH HI (zh fun z hz => HII.o z (Tch.trans HSW.o.tch hz (fun b hb => hb.elim .inl fun h => .inr (.inl h)) (fun b hl hb => by
  rcases hb with hb | hb | hb
  ·exact .inl hb
  ·rcases HSW.o.gG b hb with q | q
   ·exact .inr (.inl q)
   ·exact .inr (.inr q)
  ·have := HSW.o.tch.size; exact .inr (.inr (by omega)))))).mono ?_
 rintro e W2 ⟨q, qcs, vars2, n2, code2, vv2, G2, Hq, rfl, hq, hb2, hN2, hnn, hG2, hHq, ht2⟩;have hq0 := hq;obtain ⟨tg, kq, rfl, z1, z2, z3, z4, z5, hkq⟩ := hq;obtain ⟨Aq, cq, rfl, -⟩ := hkq;have HQ := zh hq0;have HS2 := zh (HSW.o.child hb2 hG2 ht2);have HN2 := zh (HN.o.child HK12.o hN2);have hxl := Zb HXW.o;have hpl := Zb HSW.o.pb;have hrl := Zb HSW.o.rb;have hws := HSW.o.tch.size;have HG2I : Hd (∀ b, NB b → ¬ G2 b ∧ ¬ H b ∧ ¬ Hq b ∧ b < W2.heap.size) := zh fun b hb => by
  have h1 := HGI.o b hb;have h2 := HLW.o.size;have h3 := ht2.size;refine ⟨fun hg => ?_, h1.2.1, fun hq => by have := (hHq b hq).1; omega, by omega⟩
  rcases hG2 b hg with q | q
  ·exact h1.1 q
  ·omega
 have HX2 := zh (ht2.has HXW.o (by
  have := HSW.o.pos.2.2.2;rintro (e | e)
  ·have := HIW.o.1; omega
  ·exact (HGI.o IB hNI).1 e))
 have HHQ := zh (show ∀ b, Hq b → w0.heap.size ≤ b ∧ b < W2.heap.size ∧ ¬ G2 b ∧ b ≠ PB ∧ b ≠ RB from fun b hb => by
  have h1 := hHq b hb;exact ⟨by omega, h1.2.1, h1.2.2, by omega, by omega⟩)
 have HHN := zh (show ∀ y, Hq y → ¬ H y from fun y hy hh => by
  have h1 := hHq y hy;have h2 := (HSW.o.hH y hh).2.1
  omega)
 have hnb : n ≤ n2 ∧ n2 ≤ hi + 1 := ⟨hnn.1, by
  by_cases hc : code = 0
  ·have := hnn.2.1 hc; omega
  ·have := hnn.2.2 hc; omega⟩
 replace HSS := zh (And.intro HS2.o.pb HX2.o);clear hbB hFW hBW hSt hq0 z1 z2 z3 z4 z5 hb2 hN2 hnn hG2 hHq ht2 hxl hpl hrl hws HSW HXW HN;go_wp2_with fail;refine ⟨HSS.o, ?_⟩;refine Zej 5 (by kernel_rfl) rfl rfl ?_;have hlx : Za W2 (W2.alloc (.cells (PC q (.slice Aq q.kids.length cq)).toArray Zbc)) := (Za.refl _).alloc _;have HKR := zh (HS2.o.kids.keep (Zv (f + 1)).is (fun _ h => h) (Ze.later hlx));have HQR := zh ((Zv (f + 1)).is.keep HQ.o (fun _ h => h) (Ze.later hlx));have HLX := zh hlx;replace HSS := zh (And.intro ((hlx.block _ (Zb HS2.o.pb)).trans HS2.o.pb) ((hlx.block _ (Zb HX2.o)).trans HX2.o));clear hlx;go_wp2_with fail;refine ⟨HSS.o, ?_⟩;refine Zfo [_, _, _] (by kernel_rfl) rfl rfl ?_;simp only [List.getElem_toArray, List.getElem_cons_succ, List.getElem_cons_zero]
 go_wp2_with (at_builtin; refine Zbo (Zv (f + 1)) rfl _ _ 53 rfl Zbc iP (.agg #[.int .i64 0, .string ⟨#[]⟩, .int .i64 0, .int .i64 0, .int .i64 0, .slice none 0 0]) 72 Tryz.underlying53 hiP hzP0 hzP1 hzP2 rfl rfl HKR.o ⟨W2.heap.size, 0, none⟩ 1 rfl q (PC q (.slice Aq q.kids.length cq)) (Zfc W2 (PC q (.slice Aq q.kids.length cq)) Zbc) (by intro u hu; simp at hu; rcases hu with rfl | rfl | rfl | rfl | rfl | rfl <;> rfl) HQR.o HHN.o (by omega) (by decide) ?_; intro v2 Y hrow hkp hb0; have hYB := (hkp.same PB (fun h => (HS2.o.hH PB h).2.2.2.1 rfl) (Zb HSS.o.1)).trans HSS.o.1; have y5 := cell_of_row _ PB 5 _ _ _ hYB; simp only [nD, nE, nF] at y5; have yf := frozen_of_row _ PB 5 _ _ hYB; obtain ⟨A2, c2, rfl, -, -, -⟩ := id hrow)
 obtain ⟨H', hfin, hH'⟩ := HS2.o.push HLX.o HHQ.o hrow hkp hb0;simp only [List.length_append, List.length_cons, List.length_nil, Nat.zero_add] at hfin;have HFIN := zh hfin;have HG3I := zh (show ∀ b, NB b → ¬ G2 b ∧ ¬ H' b ∧ b < Y.heap.size from fun b hb => by
  have h1 := HG2I.o b hb;have h2 := HLX.o.size;have h3 := hkp.size;have h4 := h1.2.2.2;refine ⟨h1.1, fun hh => ?_, Nat.lt_of_lt_of_le h4 (Nat.le_trans h2 h3)⟩
  rcases hH' b hh with q | q | q
  ·exact h1.2.1 q
  ·exact h1.2.2.1 q
  ·rw [q] at h4; exact absurd h4 (Nat.not_lt.2 h2))
 clear hH' hfin hrow hkp hb0 hYB;go_wp2_with fail;exact ⟨_, _, FrI.mk' rfl rfl rfl rfl rfl rfl rfl rfl rfl, _, _, _, _, _, _, _, _, HFIN.o, HN2.o, by omega, by omega, by simp; omega, fun b hb => ⟨(HG3I.o b hb).1, (HG3I.o b hb).2.1, by simpa using (HG3I.o b hb).2.2⟩⟩
set_option maxRecDepth 1000000
set_option maxHeartbeats 4000000
theorem Zvd {a : Act} {w : World} (f : Nat) (w0 : World) (B BB RB PB IB : Nat) (G0 : Nat → Prop) (r : Zf) (n0 : Nat) (T : Zbp) (lo hi : Nat) (hlo : n0 ≤ lo) (hhi : hi ≤ 303 + 2 * (f + 1)) (hf : f ≤ 301) (NB : Nat → Prop) (hNI : NB IB) (v60 v61 v62 : Value) (x : Zd) (l : List Zd) (cs : List Value) (F : Nat → Prop) (I : World → Prop) (IH : Zep 117 159 r cs I f) (HST : Hd (Z3 F w0 B r cs)) (HFA : Hd (∀ b, F b → b ≠ BB ∧ ¬ G0 b ∧ b < w0.heap.size)) (HBA : Hd (B ≠ BB ∧ ¬ G0 B)) (hfl : 301 ≤ lo + f) (hhl : 303 + 2 * f ≤ hi) (HIW : Hd (w0.heap.size ≤ IB ∧ IB ≠ RB)) (HII : Hd (∀ x, Tch (fun b => b = BB ∨ G0 b ∨ w0.heap.size ≤ b) w0 x → I x)) (HF : Hd (FrI BB RB PB (.pointer (some ⟨IB, 0, none⟩)) v60 v61 v62 (.int .i64 x.kind) a)) (HW : Hd (TrW (f + 1) w0 B BB RB PB 159 G0 (trR r f) T lo hi NB (x :: l) w)) (HX : Hd (w.heap[IB]? = some (.cells (VC6 x).toArray 34 (0, 0)))) (HIP : Hd (IB ≠ PB)) (HH : Hd (Zj r x = true)) (HI : Hd (vIn x)) :
  trSwI.wp Tryz.prog (Zi0 (SwI (f + 1) w0 B BB RB PB G0 (trR r f) T lo (hi + 1) NB v60 v61 v62 l) (SwR (f + 1) w0 B BB RB PB G0 n0 0 T)) a w := by
 by_cases k1 : x.kind = 1
 ·exact Zwv f w0 B BB RB PB IB G0 r n0 T lo hi hlo hhi (by omega) NB hNI v60 v61 v62 x l k1 HF HW HX HIP HH HI
 by_cases k2 : x.kind = 2
 ·exact Zww f w0 B BB RB PB IB G0 r n0 T lo hi hlo hhi (by omega) NB hNI v60 v61 v62 x l k2 HF HW HX HIP HH HI
 by_cases k3 : x.kind = 3
 ·exact Zwx f w0 B BB RB PB IB G0 r n0 T lo hi hlo hhi (by omega) NB hNI v60 v61 v62 x l k3 HF HW HX HIP HH HI
 by_cases k12 : x.kind = 12
 ·exact Zwe f w0 B BB RB PB IB G0 r n0 T lo hi hlo hhi (by omega) NB hNI v60 v61 v62 x l k12 cs F I IH HST HFA HBA hfl hhl HIW HII HF HW HX HIP HH HI
 exact Zwy f w0 B BB RB PB IB G0 r n0 T lo hi hlo hhi (by omega) NB hNI v60 v61 v62 x l ⟨k1, k2, k3, k12⟩ HF HW HX HIP HH HI
theorem Zr7 {a : Act} {w : World} (f : Nat) (w0 : World) (B BB RB PB : Nat) (G0 : Nat → Prop) (r : Zf) (n0 : Nat) (T : Zbp) (lo : Nat) (hlo : n0 ≤ lo) (hf : f ≤ 300) (aJ : List Zd) (Ai : Option Addr) (ci : Nat) (cs : List Value) (F : Nat → Prop) (v10 v67 : Value) (I : World → Prop) (IH : Zep 117 159 r cs I f)
  (HST : Hd (Z3 F w0 B r cs)) (HFA : Hd (∀ b, F b → b ≠ BB ∧ ¬ G0 b ∧ b < w0.heap.size)) (HBA : Hd (B ≠ BB ∧ ¬ G0 B)) (hfl : 301 ≤ lo + f) (HII : Hd (∀ x, Tch (fun b => b = BB ∨ G0 b ∨ w0.heap.size ≤ b) w0 x → I x)) (HROW : Hd (Zo Zg 6 F w0 aJ (.slice Ai aJ.length ci))) (HAL : Hd (∀ x ∈ aJ, Zj r x = true ∧ vIn x)) (hil : aJ.length ≤ 2)
  (HF : Hd (FrI BB RB PB v10 (.slice Ai aJ.length ci) (.int .i64 aJ.length) (.int .i64 0) v67 a)) (HW : Hd (TrW (f + 1) w0 B BB RB PB 159 G0 (trR r f) T lo (303 + 2 * f) (fun _ => False) aJ w)) :
  trLpI.wp Tryz.prog (Zi0 (SwI (f + 1) w0 B BB RB PB G0 (trR r f) T lo (303 + 2 * f + aJ.length) (fun _ => False) (.slice Ai aJ.length ci) (.int .i64 aJ.length) (.int .i64 aJ.length) []) (SwR (f + 1) w0 B BB RB PB G0 n0 0 T)) a w := by
 obtain ⟨fr, rfl⟩ := HF.o.opn;clear HF
 conv => arg 2; whnf
 go_wp2_with fail;refine wp_loop_ghost_k (fun g a u => ∃ j : Nat, g + j = aJ.length ∧ ∃ v10 v67, FrI BB RB PB v10 (.slice Ai aJ.length ci) (.int .i64 aJ.length) (.int .i64 j) v67 a ∧ TrW (f + 1) w0 B BB RB PB 159 G0 (trR r f) T lo (303 + 2 * f + j) (fun _ => False) (aJ.drop j) u) aJ.length ⟨0, by omega, _, _, FrI.mk' rfl rfl rfl rfl rfl rfl rfl rfl rfl, by simpa using HW.o⟩ ?_;clear HW fr;rintro gk a u ⟨j, hg, v10, v67, hfr, hw⟩ J K hJ hK;obtain ⟨fr, rfl⟩ := hfr.opn;have HW := zh hw;clear hfr hw
 by_cases hj : j < aJ.length
 ·have t1 : decide ((j : Int) < (aJ.length : Int)) = true := decide_eq_true (by omega);have t2 : (0 : Int) ≤ (j : Int) := by omega
  have t3 : (j : Int) < (aJ.length : Int) := by omega
  obtain ⟨x, hx⟩ : ∃ x, x = aJ[j] := ⟨_, rfl⟩;have hdr : aJ.drop j = x :: aJ.drop (j + 1) := by rw [hx]; exact List.drop_eq_getElem_cons hj
  have hxm : x ∈ aJ := by rw [hx]; exact List.getElem_mem hj
  rw [hdr] at HW;obtain ⟨hxh, hxi⟩ := HAL.o x hxm;have HH := zh hxh;have HI := zh hxi;obtain ⟨p, vars, n, code, vv, vk, G, H, hs, hN, hn1, hn2, hkl, hgi⟩ := HW.o;have hrow := HROW.o.keep Zc (fun _ h => h) (hs.tch.keeps fun b hb e => by
   have h1 := HFA.o b hb
   rcases e with e | e
   ·exact h1.1 e
   ·exact h1.2.1 e)
  obtain ⟨ib, io, eA, hib, ⟨c0, c1, c2, c3, c4, c5⟩, -⟩ := hrow.vat hj;rw [← hx] at c0 c1 c2 c3 c4 c5;have hsl := hs.tch.size;obtain ⟨IB, hIB⟩ : ∃ b, b = u.heap.size := ⟨_, rfl⟩;obtain ⟨u2, hu2⟩ : ∃ z, z = u.alloc (.cells (VC6 x).toArray 34) := ⟨_, rfl⟩;have hlu : Za u u2 := by rw [hu2]; exact (Za.refl _).alloc _
  have HX := zh (show u2.heap[IB]? = some (.cells (VC6 x).toArray 34 (0, 0)) by rw [hu2, hIB]; exact heap_alloc_new _ _);have HW2 := zh (show TrW (f + 1) w0 B BB RB PB 159 G0 (trR r f) T lo (303 + 2 * f + j) (fun b => b = IB) (x :: aJ.drop (j + 1)) u2 from ⟨p, vars, n, code, vv, vk, G, H, hs.later hlu, hN, hn1, hn2, hkl, fun b hb => ⟨fun hg => by have := hs.bu.lt b hg; omega, fun hh => by have := (hs.hH b hh).2.1; omega, by have := Zb HX.o; omega⟩⟩);have HIP : Hd (IB ≠ PB) := zh (by have := Zb hs.pb; omega);have HIW : Hd (w0.heap.size ≤ IB ∧ IB ≠ RB) := zh ⟨by omega, by have := Zb hs.rb; omega⟩;have HXE := zh hx;have HDR := zh hdr;clear hs hN hgi hrow hxh hxi hlu hxm hx hdr HW;subst eA;go_upto_region 16 with (fail);rw [← hu2, ← hIB];clear hu2 hIB hib c0 c1 c2 c3 c4 c5;have x0 := cq HX.o 0;simp only [List.getElem?_toArray, List.getElem?_cons_zero] at x0
  go_upto_block 2 with (fail)
  refine Zo7 (Zvd f w0 B BB RB PB IB G0 r n0 T lo (303 + 2 * f + j) hlo (by omega) (by omega) (fun b => b = IB) rfl _ _ _ x (aJ.drop (j + 1)) cs F I IH HST HFA HBA hfl (by omega) HIW HII (zh (FrI.mk' rfl rfl rfl rfl rfl rfl rfl rfl rfl)) HW2 HX HIP HH HI) ?_ (fun a' w' h => h);clear HW2 HX HIP HIW x0;rintro a' w' ⟨v10, v67, hf, p, vars, n, code, vv, vk, G, H, hs, hN, hn1, hn2, hkl, hgi⟩;obtain ⟨fr, rfl⟩ := hf.opn;have HW3 := zh (show TrW (f + 1) w0 B BB RB PB 159 G0 (trR r f) T lo (303 + 2 * f + (j + 1)) (fun _ => False) (aJ.drop (j + 1)) w' from ⟨p, vars, n, code, vv, vk, G, H, hs, hN, hn1, by omega, by omega, fun b hb => hb.elim⟩);clear hf hs hN hgi;go_wp2_with fail;refine Handed.intro (gk - 1) (by omega) (hJ _ _ _ ⟨j + 1, by omega, _, _, FrI.mk' rfl rfl rfl rfl rfl rfl rfl rfl rfl, HW3.o⟩)
 ·have t1 : decide ((j : Int) < (aJ.length : Int)) = false := decide_eq_false (by omega);obtain rfl : j = aJ.length := by omega
  rw [List.drop_length] at HW;go_wp2_with fail;exact ⟨_, _, FrI.mk' rfl rfl rfl rfl rfl rfl rfl rfl rfl, HW.o⟩
set_option maxRecDepth 1000000
set_option maxHeartbeats 4000000
theorem Zle (r : Zf) (cs : List Value) (hok : Zap r = true) (hol : r.aA.length ≤ 1048576) (f : Nat) (hf : f ≤ 301) (IH : ∀ f', f = f' + 1 → Zep 117 159 r cs Pw f') : Zep 117 159 r cs Pw f := by
 intro B BB F G vars n code vv w v HB0 HST HFA HBA hn HFU HH HI HII;obtain ⟨T, hT⟩ : ∃ T, (if code = 0 then trR r f vars n v else .bad code) = T := ⟨_, rfl⟩;rw [hT];have HT0 := zh hT;clear hT;have HOK := zh hok;obtain ⟨Av, cv, rfl, hcv, hcm, -⟩ := id HB0.o.row;obtain ⟨w2, hw2⟩ : ∃ z, z = ((w.alloc (.cells (VC6 v).toArray 34)).alloc (.cells ZP6.toArray Zbc)) := ⟨_, rfl⟩;have hl2 : Za w w2 := by rw [hw2]; exact ((Za.refl w).alloc _).alloc _
 have HV2 := zh (show w2.heap[w.heap.size]? = some (.cells (VC6 v).toArray 34 (0, 0)) by rw [hw2]; exact ((Za.refl _).alloc _).block w.heap.size (by simp) |>.trans (heap_alloc_new w _));have HR2 := zh (show w2.heap[w.heap.size + 1]? = some (.cells ZP6.toArray Zbc (0, 0)) by rw [hw2]; exact Za8 (by simp));have HB2 := zh (HB0.o.later hl2);have HT2 := zh (Tch.later (P := fun b => b = BB ∨ G b) hl2);have HGL := zh HB0.o.lt;have hBB := Zb HB0.o.blk;have hc64 := HB0.o.c64;clear hl2 hok;go_enter Tryz.func117, Tryz.ntmps117;go_upto_region 1 with (fail);rw [← hw2];clear hw2;obtain ⟨b0, b1, b2, b3⟩ := cz4 HB2.o.blk;have fb0 := fz HB2.o.blk
 by_cases hc : code = 0
 ·subst hc;have HTT := zh (show T = trR r f vars n v from HT0.o.symm.trans (if_pos rfl));have HB3 := zh (show Bu B BB 159 G (w2.setCell ⟨BB, 2, none⟩ (.int .i64 ((n : Int) + 1))) vars (n + 1) 0 (.slice Av vars.length cv) from HB2.o.setN (n + 1));have HT3 := zh (HT2.o.set (c := BB) (.inl rfl) 2 (.int .i64 ((n : Int) + 1)));have HV3 := zh (show (w2.setCell ⟨BB, 2, none⟩ (.int .i64 ((n : Int) + 1))).heap[w.heap.size]? = some (.cells (VC6 v).toArray 34 (0, 0)) from (Below.heap_setCell _ _ _ _ (show w.heap.size ≠ BB by omega)).trans HV2.o);have HR3 := zh (show (w2.setCell ⟨BB, 2, none⟩ (.int .i64 ((n : Int) + 1))).heap[w.heap.size + 1]? = some (.cells ZP6.toArray Zbc (0, 0)) from (Below.heap_setCell _ _ _ _ (show w.heap.size + 1 ≠ BB by omega)).trans HR2.o);obtain ⟨w3, hw3⟩ : ∃ z, z = w2.setCell ⟨BB, 2, none⟩ (.int .i64 ((n : Int) + 1)) := ⟨_, rfl⟩;rw [← hw3] at HB3 HT3 HV3 HR3;go_upto_region 4 with (fail);rw [← hw3];clear hw3 HB2 HT2 HV2 HR2 b0 b1 b2 b3 fb0;obtain ⟨b0, b1, b2, b3⟩ := cz4 HB3.o.blk;have fb0 := fz HB3.o.blk;have r0 := cz6 HR3.o;have fr0 := fz HR3.o;obtain ⟨v0, v1, v2, v3, v4, v5⟩ := cz6 HV3.o;have hb2' : w3.cell? ⟨BB, 2, none⟩ = some (.int .i64 ((n : Int) + 1)) := b2;clear b2
  by_cases h300 : 300 < n + 1
  ·have t3 : decide ((300 : Int) < (n : Int) + 1) = true := decide_eq_true (by omega);have HTQ := zh (HTT.o.trans (Zk9 (r := r) (f := f) (vars := vars) (v := v) h300));go_wp2_with fail;refine (Zft B BB G vars (n + 1) 0 302 _ w3 HB3.o (by omega)).mono ?_;rintro e w9 ⟨rfl, hb9, ht9⟩;have HB9 := zh (show Bu B BB 159 G w9 vars (n + 1) 302 _ from hb9);have HT9 := zh (Tch.trans HT3.o ht9 (fun _ h => h) (fun b _ e => .inl e));have HR9 := zh (ht9.has HR3.o (by omega));clear hb9 ht9 b0 b1 hb2' b3 fb0 r0 fr0 v0 v1 v2 v3 v4 v5;have r0 := cz6 HR9.o;have fr0 := fz HR9.o;have HTL := zh (Zeg (f := f) (T := T) (n0 := n) (RB := w.heap.size + 1) HB9.o HT9.o (fun b hb => .inl hb) (fun hg => by have := HGL.o _ hg; omega) (by omega) hBB (Zdq 0) (PIn.zero 0 (Zde 0 (by omega) (by omega))) rfl (by rw [HTQ.o]; exact Now.stop rfl (by decide)) ⟨Nat.le_succ _, fun _ => .inr (Nat.le_refl _), fun h => absurd rfl h⟩);go_wp2_with fail;have hd := HTL.o;simp only [PC, Zdq, Zz, Nat.zero_add, Nat.reduceAdd] at hd;exact bodyPost_ret (v := .agg #[.int .i64 0, .string ⟨#[]⟩, .int .i64 0, .int .i64 0, .int .i64 0, .slice none 0 0]) (by simp [results, Tryz.results117, go_sem, r0, fr0]) rfl hd
  have t3 : decide ((300 : Int) < (n : Int) + 1) = false := decide_eq_false (by omega);obtain ⟨f', hf'⟩ : ∃ f', f = f' + 1 := ⟨f - 1, by have := HFU.o (by first | rfl | trivial); omega⟩;have IH2 := IH f' hf';subst hf';clear IH
  by_cases hk : v.kind = 12
  ·have t4 : (v.kind != 12) = false := by simpa using hk
   obtain ⟨j, hj, hjl⟩ := Zfq HH.o (by rw [hk]; decide);have hkd := Zd6 HH.o (by rw [hk]; decide);rw [hj, Zdi hjl, hk] at hkd;have hkd7 : r.aA[j].kind = 7 := by simpa [Zbf] using hkd
   obtain ⟨hil, hia⟩ := Zh5 HOK.o hjl hkd7;have HTQ := zh (HTT.o.trans (Zlb (r := r) (f := f') (vars := vars) (v := v) h300 hk hj hjl));have HJ := zh hj;have HK := zh hk;obtain ⟨AO, cO, hO, hcO, hcmO, hro⟩ := HST.o.aA;obtain ⟨ob, oo, Ai, ci, Ak, ck, rfl, hFo, hobw, hcs, bP, bN⟩ := Z3.objF hro hjl;have hFA1 := HFA.o ob hFo;have hBw := HST.o.lt;have HST3 := zh (HST.o.tch HT3.o (fun b hb e => by
    have h1 := HFA.o b hb
    rcases e with e | e
    ·exact h1.1 e
    ·exact h1.2.1 e) (fun e => by
    rcases e with e | e
    ·exact HBA.o.1 e
    ·exact HBA.o.2 e))
   have hO2 : w3.cell? ⟨B, 2, none⟩ = some (.slice (some ⟨ob, oo, none⟩) r.aA.length cO) := (HT3.o.cell 2 hBw (by rintro (e | e); exact HBA.o.1 e; exact HBA.o.2 e)).trans hO;have hnp : ¬ (ob = BB ∨ G ob) := by rintro (e | e); exact hFA1.1 e; exact hFA1.2.1 e
   have HC3 := zh (show _ ∧ _ ∧ _ ∧ _ ∧ _ from ⟨(HT3.o.cell (oo + j * 5) hobw hnp).trans hcs.1, (HT3.o.cell (oo + j * 5 + 1) hobw hnp).trans hcs.2.1, (HT3.o.cell (oo + j * 5 + 2) hobw hnp).trans hcs.2.2.1, (HT3.o.cell (oo + j * 5 + 3) hobw hnp).trans hcs.2.2.2.1, (HT3.o.cell (oo + j * 5 + 4) hobw hnp).trans hcs.2.2.2.2⟩);have hob3 : ob < w3.heap.size := Nat.lt_of_lt_of_le hobw HT3.o.size;have HROW := zh bP;have HAL := zh (show ∀ x ∈ r.aA[j].aJ, Zj r x = true ∧ vIn x from fun x hx => ⟨hia x hx, Ziy bP x hx⟩);have HTAG := zh bN;have HN2 := zh hkd7;have hjl2 : (j : Int) < (r.aA.length : Int) := by omega
   unfold maxLen at hcmO;obtain ⟨Ai2, ci2, ei, hci, hcmi, -⟩ := id bP;cases ei;unfold maxLen at hcmi;clear hkd hkd7 hia hcs bP bN hro hO hFo hFA1 hnp hk hj hobw hBw;go_upto_region 11 with (fail);refine Zax [12] [] (by kernel_rfl) (fun W hW => ?_);have hlW : Za w3 W := by rw [hW]; exact (Za.refl _).drew
   clear hW;have HB4 := zh (HB3.o.later hlW);have HT4 := zh (HT3.o.la hlW);have HV4 := zC hlW HV3;have HR4 := zC hlW HR3;have HST4 := zh (HST3.o.later hlW);obtain ⟨Ao, co, e2, hco, hcmo, -⟩ := HST4.o.aA;have HE2 := zh (show W.cell? ⟨B, 2, none⟩ = some (.slice (some ⟨ob, oo, none⟩) r.aA.length cO) from (hlW.cell _ HST3.o.lt).trans hO2);have HCS := zh (show _ ∧ _ ∧ _ ∧ _ ∧ _ from ⟨(hlW.cell ⟨ob, oo + j * 5, none⟩ hob3).trans HC3.o.1, (hlW.cell ⟨ob, oo + j * 5 + 1, none⟩ hob3).trans HC3.o.2.1, (hlW.cell ⟨ob, oo + j * 5 + 2, none⟩ hob3).trans HC3.o.2.2.1, (hlW.cell ⟨ob, oo + j * 5 + 3, none⟩ hob3).trans HC3.o.2.2.2.1, (hlW.cell ⟨ob, oo + j * 5 + 4, none⟩ hob3).trans HC3.o.2.2.2.2⟩);have hobW : ob < W.heap.size := Nat.lt_of_lt_of_le hob3 hlW.size;clear hlW e2 hco hcmo Ao co hO2 b0 b1 hb2' b3 fb0 r0 fr0 v0 v1 v2 v3 v4 v5 HB3 HT3 HV3 HR3;refine tU 0 45 (v := ?_) rfl rfl (fun x hx => ?_) ?_;rotate_left
   ·go_simp;first|done|with_reducible rfl
   simp only [Act.put, nA, nB, nC];refine tU 1 46 (v := ?_) rfl rfl (fun x hx => ?_) ?_;rotate_left
   ·go_simp;first|done|with_reducible rfl
   simp only [Act.put, nA, nB, nC];refine tU 2 47 (v := ?_) rfl rfl (fun x hx => ?_) ?_;rotate_left
   ·go_simp;first|done|with_reducible rfl
   simp only [Act.put, nA, nB, nC];refine tU 3 48 (v := ?_) rfl rfl (fun x hx => ?_) ?_;rotate_left
   ·have hxb := (hx.block _ (Zb HB4.o.blk)).trans HB4.o.blk; have hxv := (hx.block _ (Zb HV4.o)).trans HV4.o; have b0 := cell_of_row _ BB 0 _ _ _ hxb; have b1 := cell_of_row _ BB 1 _ _ _ hxb; have b2 := cell_of_row _ BB 2 _ _ _ hxb; have b3 := cell_of_row _ BB 3 _ _ _ hxb; have v0 := cell_of_row _ w.heap.size 0 _ _ _ hxv; have v1 := cell_of_row _ w.heap.size 1 _ _ _ hxv; have v2 := cell_of_row _ w.heap.size 2 _ _ _ hxv; have v3 := cell_of_row _ w.heap.size 3 _ _ _ hxv; have v4 := cell_of_row _ w.heap.size 4 _ _ _ hxv; have v5 := cell_of_row _ w.heap.size 5 _ _ _ hxv; simp only [nD, nE, nF] at b0 b1 b2 b3 v0 v1 v2 v3 v4 v5; rw [HJ.o] at v1; have x2 := (hx.cell ⟨B, 2, none⟩ HST4.o.lt).trans HE2.o; have c0 := (hx.cell ⟨ob, oo + j * 5, none⟩ hobW).trans HCS.o.1; have c1 := (hx.cell ⟨ob, oo + j * 5 + 1, none⟩ hobW).trans HCS.o.2.1; have c2 := (hx.cell ⟨ob, oo + j * 5 + 2, none⟩ hobW).trans HCS.o.2.2.1; have c3 := (hx.cell ⟨ob, oo + j * 5 + 3, none⟩ hobW).trans HCS.o.2.2.2.1; have c4 := (hx.cell ⟨ob, oo + j * 5 + 4, none⟩ hobW).trans HCS.o.2.2.2.2; go_simp;first|done|with_reducible rfl
   simp only [Act.put, nA, nB, nC];refine tU 4 49 (v := ?_) rfl rfl (fun x hx => ?_) ?_;rotate_left
   ·go_simp;first|done|with_reducible rfl
   simp only [Act.put, nA, nB, nC];refine tU 5 50 (v := ?_) rfl rfl (fun x hx => ?_) ?_;rotate_left
   ·go_simp;first|done|with_reducible rfl
   simp only [Act.put, nA, nB, nC];refine tU 6 51 (v := ?_) rfl rfl (fun x hx => ?_) ?_;rotate_left
   ·have hxb := (hx.block _ (Zb HB4.o.blk)).trans HB4.o.blk; have hxv := (hx.block _ (Zb HV4.o)).trans HV4.o; have b0 := cell_of_row _ BB 0 _ _ _ hxb; have b1 := cell_of_row _ BB 1 _ _ _ hxb; have b2 := cell_of_row _ BB 2 _ _ _ hxb; have b3 := cell_of_row _ BB 3 _ _ _ hxb; have v0 := cell_of_row _ w.heap.size 0 _ _ _ hxv; have v1 := cell_of_row _ w.heap.size 1 _ _ _ hxv; have v2 := cell_of_row _ w.heap.size 2 _ _ _ hxv; have v3 := cell_of_row _ w.heap.size 3 _ _ _ hxv; have v4 := cell_of_row _ w.heap.size 4 _ _ _ hxv; have v5 := cell_of_row _ w.heap.size 5 _ _ _ hxv; simp only [nD, nE, nF] at b0 b1 b2 b3 v0 v1 v2 v3 v4 v5; rw [HJ.o] at v1; have x2 := (hx.cell ⟨B, 2, none⟩ HST4.o.lt).trans HE2.o; have c0 := (hx.cell ⟨ob, oo + j * 5, none⟩ hobW).trans HCS.o.1; have c1 := (hx.cell ⟨ob, oo + j * 5 + 1, none⟩ hobW).trans HCS.o.2.1; have c2 := (hx.cell ⟨ob, oo + j * 5 + 2, none⟩ hobW).trans HCS.o.2.2.1; have c3 := (hx.cell ⟨ob, oo + j * 5 + 3, none⟩ hobW).trans HCS.o.2.2.2.1; have c4 := (hx.cell ⟨ob, oo + j * 5 + 4, none⟩ hobW).trans HCS.o.2.2.2.2; go_simp;first|done|with_reducible rfl
   simp only [Act.put, nA, nB, nC];refine tU 7 52 (v := ?_) rfl rfl (fun x hx => ?_) ?_;rotate_left
   ·go_simp;first|done|with_reducible rfl
   simp only [Act.put, nA, nB, nC];refine tU 8 53 (v := ?_) rfl rfl (fun x hx => ?_) ?_;rotate_left
   ·have hxb := (hx.block _ (Zb HB4.o.blk)).trans HB4.o.blk; have hxv := (hx.block _ (Zb HV4.o)).trans HV4.o; have b0 := cell_of_row _ BB 0 _ _ _ hxb; have b1 := cell_of_row _ BB 1 _ _ _ hxb; have b2 := cell_of_row _ BB 2 _ _ _ hxb; have b3 := cell_of_row _ BB 3 _ _ _ hxb; have v0 := cell_of_row _ w.heap.size 0 _ _ _ hxv; have v1 := cell_of_row _ w.heap.size 1 _ _ _ hxv; have v2 := cell_of_row _ w.heap.size 2 _ _ _ hxv; have v3 := cell_of_row _ w.heap.size 3 _ _ _ hxv; have v4 := cell_of_row _ w.heap.size 4 _ _ _ hxv; have v5 := cell_of_row _ w.heap.size 5 _ _ _ hxv; simp only [nD, nE, nF] at b0 b1 b2 b3 v0 v1 v2 v3 v4 v5; rw [HJ.o] at v1; have x2 := (hx.cell ⟨B, 2, none⟩ HST4.o.lt).trans HE2.o; have c0 := (hx.cell ⟨ob, oo + j * 5, none⟩ hobW).trans HCS.o.1; have c1 := (hx.cell ⟨ob, oo + j * 5 + 1, none⟩ hobW).trans HCS.o.2.1; have c2 := (hx.cell ⟨ob, oo + j * 5 + 2, none⟩ hobW).trans HCS.o.2.2.1; have c3 := (hx.cell ⟨ob, oo + j * 5 + 3, none⟩ hobW).trans HCS.o.2.2.2.1; have c4 := (hx.cell ⟨ob, oo + j * 5 + 4, none⟩ hobW).trans HCS.o.2.2.2.2; go_simp;first|done|with_reducible rfl
   simp only [Act.put, nA, nB, nC];refine tU 9 54 (v := ?_) rfl rfl (fun x hx => ?_) ?_;rotate_left
   ·go_simp;first|done|with_reducible rfl|rw[if_neg (by omega)]|rw[if_pos (by omega)]
   simp only [Act.put, nA, nB, nC];refine tU 10 55 (v := ?_) rfl rfl (fun x hx => ?_) ?_;rotate_left
   ·have hxb := (hx.block _ (Zb HB4.o.blk)).trans HB4.o.blk; have hxv := (hx.block _ (Zb HV4.o)).trans HV4.o; have b0 := cell_of_row _ BB 0 _ _ _ hxb; have b1 := cell_of_row _ BB 1 _ _ _ hxb; have b2 := cell_of_row _ BB 2 _ _ _ hxb; have b3 := cell_of_row _ BB 3 _ _ _ hxb; have v0 := cell_of_row _ w.heap.size 0 _ _ _ hxv; have v1 := cell_of_row _ w.heap.size 1 _ _ _ hxv; have v2 := cell_of_row _ w.heap.size 2 _ _ _ hxv; have v3 := cell_of_row _ w.heap.size 3 _ _ _ hxv; have v4 := cell_of_row _ w.heap.size 4 _ _ _ hxv; have v5 := cell_of_row _ w.heap.size 5 _ _ _ hxv; simp only [nD, nE, nF] at b0 b1 b2 b3 v0 v1 v2 v3 v4 v5; rw [HJ.o] at v1; have x2 := (hx.cell ⟨B, 2, none⟩ HST4.o.lt).trans HE2.o; have c0 := (hx.cell ⟨ob, oo + j * 5, none⟩ hobW).trans HCS.o.1; have c1 := (hx.cell ⟨ob, oo + j * 5 + 1, none⟩ hobW).trans HCS.o.2.1; have c2 := (hx.cell ⟨ob, oo + j * 5 + 2, none⟩ hobW).trans HCS.o.2.2.1; have c3 := (hx.cell ⟨ob, oo + j * 5 + 3, none⟩ hobW).trans HCS.o.2.2.2.1; have c4 := (hx.cell ⟨ob, oo + j * 5 + 4, none⟩ hobW).trans HCS.o.2.2.2.2; go_simp;first|done|with_reducible rfl
   simp only [Act.put, nA, nB, nC];refine Ze3 11 (by kernel_rfl) rfl rfl ?_;go_wp2_with fail;refine ⟨(Za.refl _).alloc _, ?_⟩;refine Za7 [_] (by kernel_rfl) rfl rfl ?_;simp only [List.getElem_toArray, List.getElem_cons_succ, List.getElem_cons_zero];obtain ⟨w5, hw5⟩ : ∃ z, z = W.alloc (.cells #[.int .i64 r.aA[j].kind, .int .i64 r.aA[j].tag, .int .i64 r.aA[j].aI, .slice Ai r.aA[j].aJ.length ci, .slice Ak r.aA[j].aK.length ck] 94) := ⟨_, rfl⟩;have hl5 : Za W w5 := by rw [hw5]; exact (Za.refl _).alloc _
   obtain ⟨OB, hOB⟩ : ∃ b, b = W.heap.size := ⟨_, rfl⟩;have HO5 := zh (show w5.heap[OB]? = some (.cells #[.int .i64 r.aA[j].kind, .int .i64 r.aA[j].tag, .int .i64 r.aA[j].aI, .slice Ai r.aA[j].aJ.length ci, .slice Ak r.aA[j].aK.length ck] 94 (0, 0)) by rw [hw5, hOB]; exact heap_alloc_new _ _);have hb5 := HB4.o.later hl5;have ht5 := HT4.o.la hl5;have hr5 := (hl5.block _ (Zb HR4.o)).trans HR4.o;have hrO := Zb HR4.o;have HOR : Hd (w.heap.size + 1 < OB) := zh (by omega);go_upto_region 12 with (fail);rw [← hw5, ← hOB];clear hw5 hOB hrO;obtain ⟨o0, o1, o2, o3, o4⟩ := cz5 HO5.o;obtain ⟨w6, hw6⟩ : ∃ z, z = w5.alloc (.cells #[.int .i64 r.aA[j].tag, .string ⟨#[]⟩, .int .i64 0, .int .i64 0, .int .i64 0, .slice none 0 0] Zbc) := ⟨_, rfl⟩;have hl6 : Za w5 w6 := by rw [hw6]; exact (Za.refl _).alloc _
   obtain ⟨PB, hPB⟩ : ∃ b, b = w5.heap.size := ⟨_, rfl⟩;have HP6 := zh (show w6.heap[PB]? = some (.cells (PC (Zdq r.aA[j].tag) (.slice none 0 0)).toArray Zbc (0, 0)) by rw [hw6, hPB]; exact heap_alloc_new _ _);have HO6 := zC hl6 HO5;have hpO := Zb HO5.o;have HPO : Hd (OB ≠ PB ∧ OB ≠ BB) := zh ⟨by omega, by have := HOR.o; omega⟩;have HS6 := zh (TrS.start (L := f' + 1) (RB := w.heap.size + 1) (PB := PB) (hb5.later hl6) (ht5.la hl6) HGL.o hBB (by omega) (by have := HOR.o; omega) HTAG.o HP6.o ((hl6.block _ (Zb hr5)).trans hr5));go_upto_region 13 with (fail);rw [← hw6, ← hPB];clear hw6 hPB hb5 ht5 hr5 hl5 hl6 o0 o1 o2 o3 o4 hpO;have o3 := cq HO6.o 3;simp only [nD, nE, nF] at o3
   go_upto_block 0 with (fail)
   have HTW := zh (show TrW (f' + 1) w B BB (w.heap.size + 1) PB 159 G (trR r f') T (n + 1) (303 + 2 * f') (fun _ => False) r.aA[j].aJ w6 from ⟨_, _, _, _, _, _, _, _, HS6.o, Now.of HTQ.o.symm, Nat.le_refl _, by omega, by show (0 : Nat) ≤ _; omega, fun b hb => hb.elim⟩);refine Zui (Zr7 f' w B BB (w.heap.size + 1) PB G r n _ (n + 1) (Nat.le_succ _) (by omega) r.aA[j].aJ Ai ci cs F _ _ Pw IH2 HST HFA HBA (by have := HFU.o (by first | rfl | trivial); omega) HII HROW HAL hil (zh (FrI.mk' rfl rfl rfl rfl rfl rfl rfl rfl rfl)) HTW) ?_ ?_
   ·clear HTW HS6 o3;rintro a' y ⟨v10, v67, hf, p, vars', n', code', vv', vk, G', H, hs, hN, hn1, hn2, hkl, -⟩;obtain ⟨fr, rfl⟩ := hf.opn;obtain ⟨Akk, ckk, rfl, -⟩ := id hs.kids;have HS := zh hs;have HNN := zh hN;clear hf hs hN;have q0 := cz6 HS.o.pb;have r0 := cz6 HS.o.rb;have fr0 := fz HS.o.rb;have HTL := zh (Zq3 HS.o (n0 := n) (T := T) HNN.o ⟨by omega, by omega⟩);go_wp2_with fail;have hd := HTL.o;simp only [PC, Zz, Nat.zero_add, Nat.reduceAdd] at hd;exact bodyPost_ret (v := .agg #[.int .i64 p.op, .string p.text, .int .i64 p.aH, .int .i64 p.set_.low, .int .i64 p.set_.high, .slice Akk p.kids.length ckk]) (by simp [results, Tryz.results117, go_sem, r0, fr0]) rfl hd
   ·rintro a' y ⟨v10, v60, v61, v62, v67, hf, hrb, htp⟩;obtain ⟨fr, rfl⟩ := hf.opn;have HRB := zh hrb;have r0 := cz6 HRB.o;have fr0 := fz HRB.o;exact bodyPost_ret (v := .agg #[.int .i64 0, .string ⟨#[]⟩, .int .i64 0, .int .i64 0, .int .i64 0, .slice none 0 0]) (by simp [results, Tryz.results117, go_sem, r0, fr0]) rfl htp
  have t4 : (v.kind != 12) = true := by simpa using hk
  have HPW := zh (HII.o w3 (HT3.o.mono fun b _ h => h.elim .inl fun h => .inr (.inl h)));have hin : Zy v.aH := HI.o.2.1;have HIN := zh hin;have HTQ0 := zh (HTT.o.trans (Zla (r := r) (f := f') (vars := vars) (v := v) h300 hk));clear hin
  rcases htx : Zc1 v with _ | t
  ·have HTQ := HTQ0.o;rw [htx] at HTQ;replace HTQ := zh HTQ;have HTX := zh htx;clear htx;go_wp2_with fail;refine (Zgx v _ F w3 (HI.o.el F w3) HPW.o).mono ?_;rw [HTX.o];rintro e w4 ⟨rfl, hl4⟩;simp only [Zjl];have HB4 := zh (HB3.o.later hl4);have HT4 := zh (HT3.o.la hl4);have HR4 := zC hl4 HR3;clear hl4 b0 b1 hb2' b3 fb0 r0 fr0 v0 v1 v2 v3 v4 v5;go_wp2_with fail;refine (Zft B BB G vars (n + 1) 0 127 _ w4 HB4.o (by omega)).mono ?_;rintro e w9 ⟨rfl, hb9, ht9⟩;have HB9 := zh (show Bu B BB 159 G w9 vars (n + 1) 127 _ from hb9);have HT9 := zh (Tch.trans HT4.o ht9 (fun _ h => h) (fun b _ e => .inl e));have HR9 := zh (ht9.has HR4.o (by omega));clear hb9 ht9;have r0 := cz6 HR9.o;have fr0 := fz HR9.o;have HTL := zh (Zeg (f := f' + 1) (T := T) (n0 := n) (RB := w.heap.size + 1) HB9.o HT9.o (fun b hb => .inl hb) (fun hg => by have := HGL.o _ hg; omega) (by omega) hBB (Zdq 0) (PIn.zero 0 (Zde 0 (by omega) (by omega))) rfl (by rw [HTQ.o]; exact Now.stop rfl (by decide)) ⟨Nat.le_succ _, fun _ => .inr (Nat.le_refl _), fun h => absurd rfl h⟩);go_wp2_with fail;have hd := HTL.o;simp only [PC, Zdq, Zz, Nat.zero_add, Nat.reduceAdd] at hd;exact bodyPost_ret (v := .agg #[.int .i64 0, .string ⟨#[]⟩, .int .i64 0, .int .i64 0, .int .i64 0, .slice none 0 0]) (by simp [results, Tryz.results117, go_sem, r0, fr0]) rfl hd
  ·have hts := Zgz HH.o HIN.o htx;have HTQ := HTQ0.o;rw [htx] at HTQ;replace HTQ := zh HTQ;have HTX := zh htx;clear htx;go_wp2_with fail;refine (Zgx v _ F w3 (HI.o.el F w3) HPW.o).mono ?_;rw [HTX.o];rintro e w4 ⟨rfl, hl4⟩;simp only [Zjl];have HB4 := zh (HB3.o.later hl4);have HT4 := zh (HT3.o.la hl4);have HR4 := zC hl4 HR3;clear hl4 b0 b1 hb2' b3 fb0 r0 fr0 v0 v1 v2 v3 v4 v5;have r0 := cz6 HR4.o;have fr0 := fz HR4.o;have HTL := zh (Zeg (f := f' + 1) (T := T) (n0 := n) (RB := w.heap.size + 1) HB4.o HT4.o (fun b hb => .inl hb) (fun hg => by have := HGL.o _ hg; omega) (by omega) hBB { Zdq 1 with text := t } ⟨Zde 1 (by omega) (by omega), by show t.size ≤ 1000; omega, Zde 0 (by omega) (by omega), Zde 0 (by omega) (by omega), Zde 0 (by omega) (by omega)⟩ rfl (by rw [HTQ.o]; exact Now.of rfl) ⟨Nat.le_succ _, fun _ => .inr (Nat.le_refl _), fun h => absurd rfl h⟩);go_wp2_with fail;have hd := HTL.o;simp only [PC, Zdq, Zz, Nat.zero_add, Nat.reduceAdd] at hd;exact bodyPost_ret (v := .agg #[.int .i64 1, .string t, .int .i64 0, .int .i64 0, .int .i64 0, .slice none 0 0]) (by simp [results, Tryz.results117, go_sem, r0, fr0]) rfl hd
 have t1 : (code != 0) = true := by simpa using hc
 have HTQ := zh (show T = Zbp.bad code from HT0.o.symm.trans (if_neg hc));have r0 := cz6 HR2.o;have fr0 := fz HR2.o;have HTL := zh (Zeg (f := f) (T := T) (n0 := n) (RB := w.heap.size + 1) HB2.o HT2.o (fun b hb => .inl hb) (fun hg => by have := HGL.o _ hg; omega) (by omega) hBB (Zdq 0) (PIn.zero 0 (Zde 0 (by omega) (by omega))) rfl (by rw [HTQ.o]; exact Now.stop rfl hc) ⟨Nat.le_refl _, fun h => absurd h hc, fun _ => Nat.le_succ _⟩);go_wp2_with fail;have hd := HTL.o;simp only [PC, Zdq, Zz, Nat.zero_add, Nat.reduceAdd] at hd;exact bodyPost_ret (v := .agg #[.int .i64 0, .string ⟨#[]⟩, .int .i64 0, .int .i64 0, .int .i64 0, .slice none 0 0]) (by simp [results, Tryz.results117, go_sem, r0, fr0]) rfl hd
theorem Zhf (r : Zf) (cs : List Value) (hok : Zap r = true) (hol : r.aA.length ≤ 1048576) : ∀ f, f ≤ 301 → Zep 117 159 r cs Pw f
 | 0, h => Zle r cs hok hol 0 h fun f' e => by omega
 | f + 1, h => Zle r cs hok hol (f + 1) h fun f' e => by
  obtain rfl : f = f' := by omega
  exact Zhf r cs hok hol f (by omega)
set_option maxRecDepth 1000000
set_option maxHeartbeats 4000000
theorem Zjp (B BB : Nat) (G : Nat → Prop) (vars : List Zd) (n : Nat) (code : Int) (vv : Value) (x : Zd) (w : World) (h : Bu B BB 148 G w vars n code vv) (hi : vIn x) :
  Calls Tryz.prog 156 #[.pointer (some ⟨BB, 0, none⟩), .agg #[.int .i64 x.kind, .int .i64 x.aH, .int .i64 x.index, .string x.text, .int .i64 x.set_.low, .int .i64 x.set_.high]] w (Zq5 B BB 148 G vars n code x w) := by
 obtain ⟨Av, cv, rfl, hcv, hcm, -⟩ := id h.row;unfold maxLen at hcm;have hlen := h.len;have hc64 := h.c64;obtain ⟨iV, hiV, hzV0, hzV1, hzV2⟩ := info_parts Zh2;obtain ⟨w1, hw1⟩ : ∃ z, z = w.alloc (.cells #[.int .i64 x.kind, .int .i64 x.aH, .int .i64 x.index, .string x.text, .int .i64 x.set_.low, .int .i64 x.set_.high] 34) := ⟨_, rfl⟩;have hl1 : Za w w1 := by rw [hw1]; exact (Za.refl w).alloc _
 have HX1 := zh (show w1.heap[w.heap.size]? = some (.cells #[.int .i64 x.kind, .int .i64 x.aH, .int .i64 x.index, .string x.text, .int .i64 x.set_.low, .int .i64 x.set_.high] 34 (0, 0)) by rw [hw1]; exact heap_alloc_new _ _);have HB1 := zh (h.later hl1);have HL1 := zh hl1;have HIN := zh hi;have HGL := zh h.lt;have hBB := Zb h.blk;clear h hl1 hi;go_enter Tryz.func156, Tryz.ntmps156;go_upto_region 1 with (fail);rw [← hw1];clear hw1;refine Zax [6, 7] [] (by kernel_rfl) (fun W hW => ?_);have hlW : Za w1 W := by rw [hW]; exact (Za.refl _).drew
 clear hW;have HBW := zh (HB1.o.later hlW);have HXW := zC hlW HX1;have HLW := zh (HL1.o.trans hlW);clear hlW HB1 HX1 HL1;refine tU 0 6 (v := ?_) rfl rfl (fun x hx => ?_) ?_;rotate_left
 ·go_simp;first|done|with_reducible rfl
 simp only [Act.put, nA, nB, nC];refine tU 1 7 (v := ?_) rfl rfl (fun x hx => ?_) ?_;rotate_left
 ·go_simp;first|done|with_reducible rfl
 simp only [Act.put, nA, nB, nC];refine tU 2 8 (v := ?_) rfl rfl (fun x hx => ?_) ?_;rotate_left
 ·go_simp;first|done|with_reducible rfl
 simp only [Act.put, nA, nB, nC];refine tU 3 9 (v := ?_) rfl rfl (fun x hx => ?_) ?_;rotate_left
 ·have hxb := (hx.block _ (Zb HBW.o.blk)).trans HBW.o.blk; have hxx := (hx.block _ (Zb HXW.o)).trans HXW.o; have b0 := cell_of_row _ BB 0 _ _ _ hxb; have b1 := cell_of_row _ BB 1 _ _ _ hxb; have b2 := cell_of_row _ BB 2 _ _ _ hxb; have b3 := cell_of_row _ BB 3 _ _ _ hxb; have x0 := cell_of_row _ w.heap.size 0 _ _ _ hxx; have x1 := cell_of_row _ w.heap.size 1 _ _ _ hxx; have x2 := cell_of_row _ w.heap.size 2 _ _ _ hxx; have x3 := cell_of_row _ w.heap.size 3 _ _ _ hxx; have x4 := cell_of_row _ w.heap.size 4 _ _ _ hxx; have x5 := cell_of_row _ w.heap.size 5 _ _ _ hxx; simp only [nD, nE, nF] at b0 b1 b2 b3 x0 x1 x2 x3 x4 x5; go_simp;first|done|with_reducible rfl
 simp only [Act.put, nA, nB, nC];refine tU 4 10 (v := ?_) rfl rfl (fun x hx => ?_) ?_;rotate_left
 ·go_simp;first|done|with_reducible rfl|rw[if_neg (by omega)]|rw[if_pos (by omega)]
 simp only [Act.put, nA, nB, nC];refine tU 5 11 (v := ?_) rfl rfl (fun x hx => ?_) ?_;rotate_left
 ·have hxb := (hx.block _ (Zb HBW.o.blk)).trans HBW.o.blk; have hxx := (hx.block _ (Zb HXW.o)).trans HXW.o; have b0 := cell_of_row _ BB 0 _ _ _ hxb; have b1 := cell_of_row _ BB 1 _ _ _ hxb; have b2 := cell_of_row _ BB 2 _ _ _ hxb; have b3 := cell_of_row _ BB 3 _ _ _ hxb; have x0 := cell_of_row _ w.heap.size 0 _ _ _ hxx; have x1 := cell_of_row _ w.heap.size 1 _ _ _ hxx; have x2 := cell_of_row _ w.heap.size 2 _ _ _ hxx; have x3 := cell_of_row _ w.heap.size 3 _ _ _ hxx; have x4 := cell_of_row _ w.heap.size 4 _ _ _ hxx; have x5 := cell_of_row _ w.heap.size 5 _ _ _ hxx; simp only [nD, nE, nF] at b0 b1 b2 b3 x0 x1 x2 x3 x4 x5; go_simp;first|done|with_reducible rfl
 simp only [Act.put, nA, nB, nC];refine Za7 [_, _] (by kernel_rfl) rfl rfl ?_;simp only [List.getElem_toArray, List.getElem_cons_succ, List.getElem_cons_zero];obtain ⟨ff, hff⟩ : ∃ q, Zei vars x = q := ⟨_, rfl⟩;go_wp2_with fail;refine (Zpq vars 0 0 0 (.slice none 0 0) _ x G W (HBW.o.row.el Zl)).mono ?_;rw [hff];rintro e w2 ⟨rfl, hl2⟩;have HB2 := zh (HBW.o.later hl2);have HX2 := zC hl2 HXW;have HL2 := zh (HLW.o.trans hl2);clear hl2;have HF := zh hff;have hf64 : ff ≤ 100 ∧ -1 ≤ ff := by
  rw [← hff];unfold Zei
  split
  ·have := Zml vars x; omega
  ·omega
 clear hff
 by_cases h0 : 0 ≤ ff
 ·have t1 : decide (0 ≤ ff) = true := decide_eq_true h0;have HV := zh (show Ze7 vars x = some (ff, vars) by unfold Ze7; rw [HF.o, if_pos h0]);go_wp2_with fail;go_ret;exact ⟨ff, vars, code, _, G, rfl, HB2.o, fun b hb => .inl hb, Tch.later HL2.o, Zde ff (by omega) (by omega), fun k0 vs0 e => by (rw [HV.o] at e; cases e; exact ⟨rfl, rfl, rfl⟩), fun e => by (rw [HV.o] at e; cases e)⟩
 have t1 : decide (0 ≤ ff) = false := decide_eq_false h0
 by_cases h24 : vars.length = 24
 ·have t2 : decide ((24 : Int) ≤ (vars.length : Int)) = true := decide_eq_true (by omega);have HV := zh (show Ze7 vars x = none by unfold Ze7; rw [HF.o, if_neg h0, if_pos (by omega)]);obtain ⟨b0, b1, b2, b3⟩ := cz4 HB2.o.blk;have fb0 := fz HB2.o.blk
  by_cases hc0 : code = 0
  ·subst hc0;have HB3 := zh (HB2.o.setC 302 (by omega));go_wp2_with fail;go_ret;exact ⟨0, vars, _, _, G, rfl, HB3.o, fun b hb => .inl hb, Tch.fl HL2.o ((Tch.refl (fun b => b = BB ∨ G b) w2).set (c := BB) (.inl rfl) 3 _), Zde 0 (by omega) (by omega), fun k0 vs0 e => by (rw [HV.o] at e; cases e), fun _ => rfl⟩
  ·have t3 : (code == 0) = false := nH.2 hc0;go_wp2_with fail;go_ret;exact ⟨0, vars, _, _, G, rfl, HB2.o, fun b hb => .inl hb, Tch.later HL2.o, Zde 0 (by omega) (by omega), fun k0 vs0 e => by (rw [HV.o] at e; cases e), fun _ => by rw [if_neg hc0]⟩
 have t2 : decide ((24 : Int) ≤ (vars.length : Int)) = false := decide_eq_false (by omega);have HV := zh (show Ze7 vars x = some ((vars.length : Int), vars ++ [x]) by unfold Ze7; rw [HF.o, if_neg h0, if_neg (by omega)]);obtain ⟨b0, b1, b2, b3⟩ := cz4 HB2.o.blk;have fb0 := fz HB2.o.blk;go_upto_region 8 with (fail);clear b0 b1 b2 b3 fb0;refine Zax [7, 8, 9, 10] [0] (by kernel_rfl) (fun V hV => ?_);have hlW : Za w2 V := by rw [hV]; exact (Za.refl _).drew
 clear hV;have HBV := zh (HB2.o.later hlW);have HXV := zC hlW HX2;have HLV := zh (HL2.o.trans hlW);clear hlW HB2 HX2 HL2;refine Znq 0 (some 30) (v := ?_) rfl rfl (by kernel_rfl) (fun _ _ _ h => h) rfl (fun x => ?_) ?_;rotate_left
 ·go_simp;first|done|with_reducible rfl
 simp only [Act.put, nA, nB, nC];refine tU 1 31 (v := ?_) rfl rfl (fun x hx => ?_) ?_;rotate_left
 ·go_simp;first|done|with_reducible rfl
 simp only [Act.put, nA, nB, nC];refine tU 2 32 (v := ?_) rfl rfl (fun x hx => ?_) ?_;rotate_left
 ·go_simp;first|done|with_reducible rfl
 simp only [Act.put, nA, nB, nC];refine tU 3 33 (v := ?_) rfl rfl (fun x hx => ?_) ?_;rotate_left
 ·go_simp;first|done|with_reducible rfl
 simp only [Act.put, nA, nB, nC];refine tU 4 34 (v := ?_) rfl rfl (fun x hx => ?_) ?_;rotate_left
 ·have hxb := (hx.block _ (Zb HBV.o.blk)).trans HBV.o.blk; have hxx := (hx.block _ (Zb HXV.o)).trans HXV.o; have b0 := cell_of_row _ BB 0 _ _ _ hxb; have b1 := cell_of_row _ BB 1 _ _ _ hxb; have b2 := cell_of_row _ BB 2 _ _ _ hxb; have b3 := cell_of_row _ BB 3 _ _ _ hxb; have x0 := cell_of_row _ w.heap.size 0 _ _ _ hxx; have x1 := cell_of_row _ w.heap.size 1 _ _ _ hxx; have x2 := cell_of_row _ w.heap.size 2 _ _ _ hxx; have x3 := cell_of_row _ w.heap.size 3 _ _ _ hxx; have x4 := cell_of_row _ w.heap.size 4 _ _ _ hxx; have x5 := cell_of_row _ w.heap.size 5 _ _ _ hxx; simp only [nD, nE, nF] at b0 b1 b2 b3 x0 x1 x2 x3 x4 x5; go_simp;first|done|with_reducible rfl
 simp only [Act.put, nA, nB, nC];refine tU 5 35 (v := ?_) rfl rfl (fun x hx => ?_) ?_;rotate_left
 ·have hxb := (hx.block _ (Zb HBV.o.blk)).trans HBV.o.blk; have hxx := (hx.block _ (Zb HXV.o)).trans HXV.o; have b0 := cell_of_row _ BB 0 _ _ _ hxb; have b1 := cell_of_row _ BB 1 _ _ _ hxb; have b2 := cell_of_row _ BB 2 _ _ _ hxb; have b3 := cell_of_row _ BB 3 _ _ _ hxb; have x0 := cell_of_row _ w.heap.size 0 _ _ _ hxx; have x1 := cell_of_row _ w.heap.size 1 _ _ _ hxx; have x2 := cell_of_row _ w.heap.size 2 _ _ _ hxx; have x3 := cell_of_row _ w.heap.size 3 _ _ _ hxx; have x4 := cell_of_row _ w.heap.size 4 _ _ _ hxx; have x5 := cell_of_row _ w.heap.size 5 _ _ _ hxx; simp only [nD, nE, nF] at b0 b1 b2 b3 x0 x1 x2 x3 x4 x5; go_simp;first|done|with_reducible rfl
 simp only [Act.put, nA, nB, nC];refine Ze3 6 (by kernel_rfl) rfl rfl ?_;have hlx : Za V (V.alloc (.cells [.int .i64 x.kind, .int .i64 x.aH, .int .i64 x.index, .string x.text, .int .i64 x.set_.low, .int .i64 x.set_.high].toArray 34)) := (Za.refl _).alloc _;have HXR := zh (HBV.o.row.keep Zl.is (fun _ h => h) (Ze.later hlx));have HVA := zh (HBV.o.later hlx);have HLA := zh (HLV.o.trans hlx);go_wp2_with fail;refine ⟨hlx, ?_⟩;clear hlx;refine Za7 [_, _, _, _] (by kernel_rfl) rfl rfl ?_;simp only [List.getElem_toArray, List.getElem_cons_succ, List.getElem_cons_zero]
 go_wp2_with (at_builtin; refine Zbo Zl rfl _ _ 27 rfl 34 iV (.agg #[.int .i64 0, .int .i64 0, .int .i64 0, .string ⟨#[]⟩, .int .i64 0, .int .i64 0]) 56 Tryz.underlying27 hiV hzV0 hzV1 hzV2 rfl rfl HXR.o ⟨V.heap.size, 0, none⟩ 1 rfl x [.int .i64 x.kind, .int .i64 x.aH, .int .i64 x.index, .string x.text, .int .i64 x.set_.low, .int .i64 x.set_.high] (Zfc V [.int .i64 x.kind, .int .i64 x.aH, .int .i64 x.index, .string x.text, .int .i64 x.set_.low, .int .i64 x.set_.high] 34) (by intro u hu; simp at hu; rcases hu with rfl | rfl | rfl | rfl | rfl | rfl <;> rfl) (HIN.o.el (fun _ => False) _) (fun y hg hf => hg.elim) (by omega) (by decide) ?_; intro v2 Y hrow hkp hb0; have hYB := (hkp.same BB HVA.o.nG (Zb HVA.o.blk)).trans HVA.o.blk; have y1 := cell_of_row _ BB 1 _ _ _ hYB; simp only [nD, nE, nF] at y1; have yf := frozen_of_row _ BB 1 _ _ hYB; obtain ⟨A2, c2, rfl, -, -, -⟩ := id hrow)
 have HB3 := zh (HVA.o.setV hkp hrow (fun b hb => by
  rcases hb with hb | hb | hb
  ·exact .inl hb
  ·exact hb.elim
  ·right; rw [hb]; simp) (by simp; omega))
 have hls := Below.size HLA.o;have hVs : (V.alloc (.cells #[.int .i64 x.kind, .int .i64 x.aH, .int .i64 x.index, .string x.text, .int .i64 x.set_.low, .int .i64 x.set_.high] 34)).heap.size = V.heap.size + 1 := by simp
 have HT3 := zh (show Tch (fun b => b = BB ∨ G b) w Y from ⟨⟨Nat.le_trans HLA.o.size hkp.size, fun b hb hl => (hkp.same b (fun hg => hb (.inr hg)) (Nat.lt_of_lt_of_le hl HLA.o.size)).trans (HLA.o.block b hl)⟩, (Below.mono HLA.o (Nat.zero_le _)).trans hb0⟩);have HG3 := zh (show ∀ b, ((G b ∨ False ∨ b = (V.alloc (.cells #[.int .i64 x.kind, .int .i64 x.aH, .int .i64 x.index, .string x.text, .int .i64 x.set_.low, .int .i64 x.set_.high] 34)).heap.size) ∧ b < Y.heap.size) → G b ∨ w.heap.size ≤ b from fun b hb => by
  rcases hb.1 with q | q | q
  ·exact .inl q
  ·exact q.elim
  ·right; rw [q]; exact HLA.o.size)
 clear hrow hkp hb0 hYB hls hVs;go_upto_region 9 with (fail);clear y1 yf;have HTF := zh (HT3.o.set (c := BB) (.inl rfl) 1 (.slice A2 (vars ++ [x]).length c2));simp only [List.length_append, List.length_cons, List.length_nil, Nat.zero_add] at HB3 HTF;obtain ⟨b0, b1, b2, b3⟩ := cz4 HB3.o.blk;have fb0 := fz HB3.o.blk;have t5 : wrap64 (((vars.length + 1 : Nat) : Int) - 1) = (vars.length : Int) := by unfold wrap64; omega
 go_wp2_with fail;go_ret;refine ⟨(vars.length : Int), vars ++ [x], code, _, _, ?_, HB3.o, HG3.o, HTF.o, Zde _ (by omega) (by omega), fun k0 vs0 e => ?_, fun e => ?_⟩
 ·first | rfl | (congr 2; omega)
 ·rw [HV.o] at e;cases e;exact ⟨rfl, rfl, rfl⟩
 ·rw [HV.o] at e;cases e
set_option maxRecDepth 1000000
set_option maxHeartbeats 4000000
theorem Zwz {a : Act} {w : World} (f : Nat) (w0 : World) (B BB RB PB IB : Nat) (G0 : Nat → Prop) (r : Zf) (n0 : Nat) (T : Zbp) (lo hi : Nat) (hlo : n0 ≤ lo) (hhi : hi ≤ 303 + 2 * (f + 1)) (hf : f ≤ 301) (NB : Nat → Prop) (hNI : NB IB) (OB : Nat) (hNO : NB OB) (OBJ : Obj) (HOB : Hd (w.heap[OB]? = some OBJ)) (HOP : Hd (OB ≠ PB ∧ OB ≠ BB)) (v9 : Value) (x : Zd) (l : List Zd) (hk : x.kind = 1) (HF : Hd (FrV BB RB OB PB v9 (.pointer (some ⟨IB, 0, none⟩)) (.int .i64 x.kind) a)) (HW : Hd (TrW (f + 1) w0 B BB RB PB 148 G0 (trR r f) T lo hi NB (x :: l) w)) (HX : Hd (w.heap[IB]? = some (.cells (VC6 x).toArray 34 (0, 0)))) (HIP : Hd (IB ≠ PB)) (HH : Hd (Zj r x = true)) (HI : Hd (vIn x)) :
  trSwS.wp Tryz.prog (Zjm (SwS (f + 1) w0 B BB RB OB PB G0 (trR r f) T lo (hi + 1) NB OBJ v9 l)) a w := by
 obtain ⟨p, vars, n, code, vv, vk, G, H, hs, hN, hn1, hn2, hkl, hGI⟩ := HW.o;have HS := zh hs;have HN := zh hN;have HGI := zh hGI;have hx1 := Zb4 HH.o;have hpi := HS.o.pin;have HPI := zh hpi;have hIP : ¬ IB = PB := HIP.o;have hPI : ¬ PB = IB := fun e => HIP.o e.symm;clear hs hN hGI hpi HW;obtain ⟨fr, rfl⟩ := HF.o.opn;clear HF
 conv => arg 2; whnf
 have q0 := cz6 HS.o.pb;have fq0 := fz HS.o.pb;obtain ⟨x0, x1, x2, x3, x4, x5⟩ := cz6 HX.o;rw [hk] at x0;have HS2 := zh (HS.o.setP 2 (.int .i64 x.aH) { p with aH := x.aH } rfl rfl ⟨HPI.o.op, HPI.o.text, HI.o.2.1, HPI.o.low, HPI.o.high⟩);have HX2 := zh (show (w.setCell ⟨PB, 2, none⟩ (.int .i64 x.aH)).heap[IB]? = some (.cells (VC6 x).toArray 34 (0, 0)) from (Below.heap_setCell _ _ _ _ hIP).trans HX.o);have HOB2 := zh (show (w.setCell ⟨PB, 2, none⟩ (.int .i64 x.aH)).heap[OB]? = some OBJ from (Below.heap_setCell _ _ _ _ HOP.o.1).trans HOB.o);have HGI2 := zh (show ∀ b, NB b → ¬ G b ∧ ¬ H b ∧ b < (w.setCell ⟨PB, 2, none⟩ (.int .i64 x.aH)).heap.size from fun b hb => ⟨(HGI.o b hb).1, (HGI.o b hb).2.1, by simpa using (HGI.o b hb).2.2⟩);obtain ⟨w2, hw2⟩ : ∃ z, z = w.setCell ⟨PB, 2, none⟩ (.int .i64 x.aH) := ⟨_, rfl⟩;rw [← hw2] at HS2 HX2 HOB2 HGI2;go_upto_region 22 with (fail);rw [← hw2];clear hw2 q0 fq0 x0 x1 x2 x3 x4 x5 HX;obtain ⟨x0, x1, x2, x3, x4, x5⟩ := cz6 HX2.o;have b0 := cz4 HS2.o.bu.blk;have fb0 := fz HS2.o.bu.blk
 by_cases hc : code = 0
 ·by_cases hr : 0 ≤ x.aH ∧ x.aH ≤ 120
  ·have hd : (decide ((0 : Int) ≤ x.aH) && decide (x.aH ≤ 120)) = true := by simp; omega
   have HD := zh hd;clear hd;have HN2 := zh (HN.o.eq (res' := itR (trR r f) l { p with aH := x.aH } vars n) (by rw [itR, if_pos hk, if_pos hr]));have t1 : (code == 0) = true := beq_iff_eq.2 hc;go_wp2_with fail;refine (Zcs x.aH 0 120 w2).mono ?_;rw [HD.o];rintro e w3 ⟨rfl, hw3⟩;obtain rfl : w2 = w3 := hw3.symm;go_wp2_with fail;exact ⟨_, _, FrV.mk' rfl rfl rfl rfl rfl rfl rfl rfl, HOB2.o, _, _, _, _, _, _, _, _, HS2.o, HN2.o, by omega, by omega, by show p.kids.length ≤ hi + 1; omega, fun b hb => ⟨(HGI2.o b hb).1, (HGI2.o b hb).2.1, by simpa using (HGI2.o b hb).2.2⟩⟩
  ·have hd : (decide ((0 : Int) ≤ x.aH) && decide (x.aH ≤ 120)) = false := by
    rw [Bool.eq_false_iff];intro h;rw [Bool.and_eq_true] at h;exact hr ⟨of_decide_eq_true h.1, of_decide_eq_true h.2⟩
   have HD := zh hd;clear hd;have HN2 := zh (Now.stop (c := 205) (res := itR (trR r f) l { p with aH := x.aH } vars n) (T := T) (by rw [← HN.o.1 hc, itR, if_pos hk, if_neg hr]) (by decide));have HS3 := zh (HS2.o.setCode 205 (by omega));have t1 : (code == 0) = true := beq_iff_eq.2 hc;go_wp2_with fail;refine (Zcs x.aH 0 120 w2).mono ?_;rw [HD.o];rintro e w3 ⟨rfl, hw3⟩;obtain rfl : w2 = w3 := hw3.symm;go_wp2_with fail;exact ⟨_, _, FrV.mk' rfl rfl rfl rfl rfl rfl rfl rfl, ((Below.heap_setCell _ _ _ _ HOP.o.2).trans HOB2.o), _, _, _, _, _, _, _, _, HS3.o, HN2.o, by omega, by omega, by show p.kids.length ≤ hi + 1; omega, fun b hb => ⟨(HGI2.o b hb).1, (HGI2.o b hb).2.1, by simpa using (HGI2.o b hb).2.2⟩⟩
 ·have t1 : (code == 0) = false := nH.2 hc;have HN2 := zh (HN.o.same (res' := itR (trR r f) l { p with aH := x.aH } vars n) hc);go_wp2_with fail;exact ⟨_, _, FrV.mk' rfl rfl rfl rfl rfl rfl rfl rfl, HOB2.o, _, _, _, _, _, _, _, _, HS2.o, HN2.o, by omega, by omega, by show p.kids.length ≤ hi + 1; omega, fun b hb => ⟨(HGI2.o b hb).1, (HGI2.o b hb).2.1, by simpa using (HGI2.o b hb).2.2⟩⟩
theorem Zw0 {a : Act} {w : World} (f : Nat) (w0 : World) (B BB RB PB IB : Nat) (G0 : Nat → Prop) (r : Zf) (n0 : Nat) (T : Zbp) (lo hi : Nat) (hlo : n0 ≤ lo) (hhi : hi ≤ 303 + 2 * (f + 1)) (hf : f ≤ 301) (NB : Nat → Prop) (hNI : NB IB) (OB : Nat) (hNO : NB OB) (OBJ : Obj) (HOB : Hd (w.heap[OB]? = some OBJ)) (HOP : Hd (OB ≠ PB ∧ OB ≠ BB)) (v9 : Value) (x : Zd) (l : List Zd) (hk : x.kind = 2) (HF : Hd (FrV BB RB OB PB v9 (.pointer (some ⟨IB, 0, none⟩)) (.int .i64 x.kind) a)) (HW : Hd (TrW (f + 1) w0 B BB RB PB 148 G0 (trR r f) T lo hi NB (x :: l) w)) (HX : Hd (w.heap[IB]? = some (.cells (VC6 x).toArray 34 (0, 0)))) (HIP : Hd (IB ≠ PB)) (HH : Hd (Zj r x = true)) (HI : Hd (vIn x)) :
  trSwS.wp Tryz.prog (Zjm (SwS (f + 1) w0 B BB RB OB PB G0 (trR r f) T lo (hi + 1) NB OBJ v9 l)) a w := by
 obtain ⟨p, vars, n, code, vv, vk, G, H, hs, hN, hn1, hn2, hkl, hGI⟩ := HW.o;have HS := zh hs;have HN := zh hN;have HGI := zh hGI;have hx1 := Zb4 HH.o;have hpi := HS.o.pin;have HPI := zh hpi;have hIP : ¬ IB = PB := HIP.o;have hPI : ¬ PB = IB := fun e => HIP.o e.symm;clear hs hN hGI hpi HW;obtain ⟨fr, rfl⟩ := HF.o.opn;clear HF
 conv => arg 2; whnf
 have q0 := cz6 HS.o.pb;have fq0 := fz HS.o.pb;obtain ⟨x0, x1, x2, x3, x4, x5⟩ := cz6 HX.o;rw [hk] at x0;have HS2 := zh (HS.o.setP 1 (.string x.text) { p with text := x.text } rfl rfl ⟨HPI.o.op, by show x.text.size ≤ 1000; omega, HPI.o.aH, HPI.o.low, HPI.o.high⟩);have HN2 := zh (HN.o.eq (res' := itR (trR r f) l { p with text := x.text } vars n) (by rw [itR, if_neg (by omega), if_pos hk]));go_wp2_with fail;exact ⟨_, _, FrV.mk' rfl rfl rfl rfl rfl rfl rfl rfl, (by first | exact HOB.o | exact (Below.heap_setCell _ _ _ _ HOP.o.1).trans HOB.o | exact (Below.heap_setCell _ _ _ _ HOP.o.1).trans ((Below.heap_setCell _ _ _ _ HOP.o.1).trans HOB.o)), _, _, _, _, _, _, _, _, HS2.o, HN2.o, by omega, by omega, by show p.kids.length ≤ hi + 1; omega, fun b hb => ⟨(HGI.o b hb).1, (HGI.o b hb).2.1, by simpa using (HGI.o b hb).2.2⟩⟩
theorem Zw1 {a : Act} {w : World} (f : Nat) (w0 : World) (B BB RB PB IB : Nat) (G0 : Nat → Prop) (r : Zf) (n0 : Nat) (T : Zbp) (lo hi : Nat) (hlo : n0 ≤ lo) (hhi : hi ≤ 303 + 2 * (f + 1)) (hf : f ≤ 301) (NB : Nat → Prop) (hNI : NB IB) (OB : Nat) (hNO : NB OB) (OBJ : Obj) (HOB : Hd (w.heap[OB]? = some OBJ)) (HOP : Hd (OB ≠ PB ∧ OB ≠ BB)) (v9 : Value) (x : Zd) (l : List Zd) (hk : x.kind = 3) (HF : Hd (FrV BB RB OB PB v9 (.pointer (some ⟨IB, 0, none⟩)) (.int .i64 x.kind) a)) (HW : Hd (TrW (f + 1) w0 B BB RB PB 148 G0 (trR r f) T lo hi NB (x :: l) w)) (HX : Hd (w.heap[IB]? = some (.cells (VC6 x).toArray 34 (0, 0)))) (HIP : Hd (IB ≠ PB)) (HH : Hd (Zj r x = true)) (HI : Hd (vIn x)) :
  trSwS.wp Tryz.prog (Zjm (SwS (f + 1) w0 B BB RB OB PB G0 (trR r f) T lo (hi + 1) NB OBJ v9 l)) a w := by
 obtain ⟨p, vars, n, code, vv, vk, G, H, hs, hN, hn1, hn2, hkl, hGI⟩ := HW.o;have HS := zh hs;have HN := zh hN;have HGI := zh hGI;have hx1 := Zb4 HH.o;have hpi := HS.o.pin;have HPI := zh hpi;have hIP : ¬ IB = PB := HIP.o;have hPI : ¬ PB = IB := fun e => HIP.o e.symm;clear hs hN hGI hpi HW;obtain ⟨fr, rfl⟩ := HF.o.opn;clear HF
 conv => arg 2; whnf
 have q0 := cz6 HS.o.pb;have fq0 := fz HS.o.pb;have x0 := cz6 HX.o;have HS2 := zh ((HS.o.setP 3 (.int .i64 x.set_.low) { p with set_ := ⟨x.set_.low, p.set_.high⟩ } rfl rfl ⟨HPI.o.op, HPI.o.text, HPI.o.aH, HI.o.2.2.2.2.1, HPI.o.high⟩).setP 4 (.int .i64 x.set_.high) { p with set_ := x.set_ } rfl rfl ⟨HPI.o.op, HPI.o.text, HPI.o.aH, HI.o.2.2.2.2.1, HI.o.2.2.2.2.2⟩);have HN2 := zh (HN.o.eq (res' := itR (trR r f) l { p with set_ := x.set_ } vars n) (by rw [itR, if_neg (by omega), if_neg (by omega), if_pos hk]));go_wp2_with fail;exact ⟨_, _, FrV.mk' rfl rfl rfl rfl rfl rfl rfl rfl, (by first | exact HOB.o | exact (Below.heap_setCell _ _ _ _ HOP.o.1).trans HOB.o | exact (Below.heap_setCell _ _ _ _ HOP.o.1).trans ((Below.heap_setCell _ _ _ _ HOP.o.1).trans HOB.o)), _, _, _, _, _, _, _, _, HS2.o, HN2.o, by omega, by omega, by show p.kids.length ≤ hi + 1; omega, fun b hb => ⟨(HGI.o b hb).1, (HGI.o b hb).2.1, by simpa using (HGI.o b hb).2.2⟩⟩
theorem Zw2 {a : Act} {w : World} (f : Nat) (w0 : World) (B BB RB PB IB : Nat) (G0 : Nat → Prop) (r : Zf) (n0 : Nat) (T : Zbp) (lo hi : Nat) (hlo : n0 ≤ lo) (hhi : hi ≤ 303 + 2 * (f + 1)) (hf : f ≤ 301) (NB : Nat → Prop) (hNI : NB IB) (OB : Nat) (hNO : NB OB) (OBJ : Obj) (HOB : Hd (w.heap[OB]? = some OBJ)) (HOP : Hd (OB ≠ PB ∧ OB ≠ BB)) (v9 : Value) (x : Zd) (l : List Zd) (hk : ¬ x.kind = 1 ∧ ¬ x.kind = 2 ∧ ¬ x.kind = 3 ∧ ¬ x.kind = 12) (HF : Hd (FrV BB RB OB PB v9 (.pointer (some ⟨IB, 0, none⟩)) (.int .i64 x.kind) a)) (HW : Hd (TrW (f + 1) w0 B BB RB PB 148 G0 (trR r f) T lo hi NB (x :: l) w)) (HX : Hd (w.heap[IB]? = some (.cells (VC6 x).toArray 34 (0, 0)))) (HIP : Hd (IB ≠ PB)) (HH : Hd (Zj r x = true)) (HI : Hd (vIn x)) :
  trSwS.wp Tryz.prog (Zjm (SwS (f + 1) w0 B BB RB OB PB G0 (trR r f) T lo (hi + 1) NB OBJ v9 l)) a w := by
 obtain ⟨p, vars, n, code, vv, vk, G, H, hs, hN, hn1, hn2, hkl, hGI⟩ := HW.o;have HS := zh hs;have HN := zh hN;have HGI := zh hGI;have hx1 := Zb4 HH.o;have hpi := HS.o.pin;have HPI := zh hpi;have hIP : ¬ IB = PB := HIP.o;have hPI : ¬ PB = IB := fun e => HIP.o e.symm;clear hs hN hGI hpi HW;obtain ⟨fr, rfl⟩ := HF.o.opn;clear HF
 conv => arg 2; whnf
 have q0 := cz6 HS.o.pb;have fq0 := fz HS.o.pb;have x0 := cz6 HX.o;have e1 : (x.kind == 1) = false := nH.2 hk.1;have e2 : (x.kind == 2) = false := nH.2 hk.2.1;have e3 : (x.kind == 3) = false := nH.2 hk.2.2.1;have e12 : (x.kind == 12) = false := nH.2 hk.2.2.2;go_wp2_with fail;refine (Zjp B BB G vars n code vv x w HS.o.bu HI.o).mono ?_;rintro e w3 ⟨k, vars', code', vv', G', rfl, hb3, hG3, ht3, hk64, hv1, hv2⟩;have HS3 := zh (HS.o.var hb3 hG3 ht3);have HN3 := zh (HN.o.var hk hv1 hv2);have HGI3 : Hd (∀ b, NB b → ¬ G' b ∧ ¬ H b ∧ b < w3.heap.size) := zh fun b hb => ⟨fun hg => by
  have h1 := HGI.o b hb
  rcases hG3 b hg with q | q
  ·exact h1.1 q
  ·omega, (HGI.o b hb).2.1, by have := (HGI.o b hb).2.2; have := ht3.size; omega⟩
 have HOB3 := zh (ht3.has HOB.o (by rintro (e | e); exact HOP.o.2 e; exact (HGI.o OB hNO).1 e));have HK64 := zh hk64;clear hb3 hG3 ht3 hk64 hv1 hv2 q0 fq0 x0;have q0 := cz6 HS3.o.pb;have fq0 := fz HS3.o.pb;have HS4 := zh (HS3.o.setP 2 (.int .i64 k) { p with aH := k } rfl rfl ⟨HPI.o.op, HPI.o.text, HK64.o, HPI.o.low, HPI.o.high⟩);go_wp2_with fail;exact ⟨_, _, FrV.mk' rfl rfl rfl rfl rfl rfl rfl rfl, ((Below.heap_setCell _ _ _ _ HOP.o.1).trans HOB3.o), _, _, _, _, _, _, _, _, HS4.o, HN3.o, by omega, by omega, by show p.kids.length ≤ hi + 1; omega, fun b hb => ⟨(HGI3.o b hb).1, (HGI3.o b hb).2.1, by simpa using (HGI3.o b hb).2.2⟩⟩
set_option maxRecDepth 1000000
set_option maxHeartbeats 4000000
theorem Zuj : (Tryz.prog.info? Zbc).map (fun i => (i.zero, i.size, i.bytes)) = some (some (.agg #[.int .i64 0, .string ⟨#[]⟩, .int .i64 0, .int .i64 0, .int .i64 0, .slice none 0 0]), 6, 72) := by kernel_rfl
theorem Zwf {a : Act} {w : World} (f : Nat) (w0 : World) (B BB RB PB IB : Nat) (G0 : Nat → Prop) (r : Zf) (n0 : Nat) (T : Zbp) (lo hi : Nat) (hlo : n0 ≤ lo) (hhi : hi ≤ 303 + 2 * (f + 1)) (hf : f ≤ 301) (NB : Nat → Prop) (hNI : NB IB) (OB : Nat) (hNO : NB OB) (OBJ : Obj) (HOB : Hd (w.heap[OB]? = some OBJ)) (HOP : Hd (OB ≠ PB ∧ OB ≠ BB)) (v9 : Value) (x : Zd) (l : List Zd) (hk : x.kind = 12) (cs : List Value) (F : Nat → Prop) (I : World → Prop) (IH : Zep 111 148 r cs I f) (HST : Hd (Z3 F w0 B r cs)) (HFA : Hd (∀ b, F b → b ≠ BB ∧ ¬ G0 b ∧ b < w0.heap.size)) (HBA : Hd (B ≠ BB ∧ ¬ G0 B)) (hfl : 301 ≤ lo + f) (hhl : 303 + 2 * f ≤ hi) (HIW : Hd (w0.heap.size ≤ IB ∧ IB ≠ RB)) (HII : Hd (∀ x, Tch (fun b => b = BB ∨ G0 b ∨ w0.heap.size ≤ b) w0 x → I x)) (HF : Hd (FrV BB RB OB PB v9 (.pointer (some ⟨IB, 0, none⟩)) (.int .i64 x.kind) a)) (HW : Hd (TrW (f + 1) w0 B BB RB PB 148 G0 (trR r f) T lo hi NB (x :: l) w)) (HX : Hd (w.heap[IB]? = some (.cells (VC6 x).toArray 34 (0, 0)))) (HIP : Hd (IB ≠ PB)) (HH : Hd (Zj r x = true)) (HI : Hd (vIn x)) :
  trSwS.wp Tryz.prog (Zjm (SwS (f + 1) w0 B BB RB OB PB G0 (trR r f) T lo (hi + 1) NB OBJ v9 l)) a w := by
 obtain ⟨p, vars, n, code, vv, vk, G, H, hs, hN, hn1, hn2, hkl, hGI⟩ := HW.o;have HS := zh hs;have HN := zh hN;have HGI := zh hGI;have hx1 := Zb4 HH.o;have hpi := HS.o.pin;have HPI := zh hpi;have hIP : ¬ IB = PB := HIP.o;have hPI : ¬ PB = IB := fun e => HIP.o e.symm;clear hs hN hGI hpi HW;obtain ⟨fr, rfl⟩ := HF.o.opn;clear HF
 conv => arg 2; whnf
 obtain ⟨Ak, ck, rfl, -⟩ := id HS.o.kids;obtain ⟨iP, hiP, hzP0, hzP1, hzP2⟩ := info_parts Zuj;obtain ⟨q0, q1, q2, q3, q4, q5⟩ := cz6 HS.o.pb;have fq0 := fz HS.o.pb;obtain ⟨x0, x1, x2, x3, x4, x5⟩ := cz6 HX.o;rw [hk] at x0;go_upto_region 29 with (fail);have HK12 := zh hk;clear hk;refine Zey [6, 7, 8] [] (fun z => z.heap[PB]? = some (.cells (PC p (.slice Ak p.kids.length ck)).toArray Zbc (0, 0)) ∧ z.heap[IB]? = some (.cells (VC6 x).toArray 34 (0, 0))) (by kernel_rfl) (fun W hW => ?_);have hlW : Za w W := by rw [hW]; exact (Za.refl _).drew
 clear hW;have HSW := zh (HS.o.later hlW);have HXW := zC hlW HX;have HSS := zh (And.intro HSW.o.pb HXW.o);have HLW := zh hlW;clear hlW q0 q1 q2 q3 q4 q5 fq0 x0 x1 x2 x3 x4 x5 HS HX;refine tV 0 118 (v := ?_) rfl rfl HSS.o (fun x hx => ?_) ?_;rotate_left
 ·go_simp;first|done|with_reducible rfl
 simp only [Act.put, nA, nB, nC];refine tV 1 119 (v := ?_) rfl rfl HSS.o (fun x hx => ?_) ?_;rotate_left
 ·have q0 := cell_of_row _ PB 0 _ _ _ hx.1; have q1 := cell_of_row _ PB 1 _ _ _ hx.1; have q2 := cell_of_row _ PB 2 _ _ _ hx.1; have q3 := cell_of_row _ PB 3 _ _ _ hx.1; have q4 := cell_of_row _ PB 4 _ _ _ hx.1; have q5 := cell_of_row _ PB 5 _ _ _ hx.1; have x0 := cell_of_row _ IB 0 _ _ _ hx.2; have x1 := cell_of_row _ IB 1 _ _ _ hx.2; have x2 := cell_of_row _ IB 2 _ _ _ hx.2; have x3 := cell_of_row _ IB 3 _ _ _ hx.2; have x4 := cell_of_row _ IB 4 _ _ _ hx.2; have x5 := cell_of_row _ IB 5 _ _ _ hx.2; simp only [nD, nE, nF] at q0 q1 q2 q3 q4 q5 x0 x1 x2 x3 x4 x5; go_simp;first|done|with_reducible rfl
 simp only [Act.put, nA, nB, nC];refine tV 2 120 (v := ?_) rfl rfl HSS.o (fun x hx => ?_) ?_;rotate_left
 ·go_simp;first|done|with_reducible rfl
 simp only [Act.put, nA, nB, nC];refine tV 3 121 (v := ?_) rfl rfl HSS.o (fun x hx => ?_) ?_;rotate_left
 ·have q0 := cell_of_row _ PB 0 _ _ _ hx.1; have q1 := cell_of_row _ PB 1 _ _ _ hx.1; have q2 := cell_of_row _ PB 2 _ _ _ hx.1; have q3 := cell_of_row _ PB 3 _ _ _ hx.1; have q4 := cell_of_row _ PB 4 _ _ _ hx.1; have q5 := cell_of_row _ PB 5 _ _ _ hx.1; have x0 := cell_of_row _ IB 0 _ _ _ hx.2; have x1 := cell_of_row _ IB 1 _ _ _ hx.2; have x2 := cell_of_row _ IB 2 _ _ _ hx.2; have x3 := cell_of_row _ IB 3 _ _ _ hx.2; have x4 := cell_of_row _ IB 4 _ _ _ hx.2; have x5 := cell_of_row _ IB 5 _ _ _ hx.2; simp only [nD, nE, nF] at q0 q1 q2 q3 q4 q5 x0 x1 x2 x3 x4 x5; go_simp;first|done|with_reducible rfl
 simp only [Act.put, nA, nB, nC];refine Zej 4 (by kernel_rfl) rfl rfl ?_;go_wp2_with fail;have hbB := HST.o.lt;have hFW : ∀ b, F b → b ≠ BB ∧ ¬ G b ∧ b < W.heap.size := fun b hb => by
  have h1 := HFA.o b hb;refine ⟨h1.1, fun hg => ?_, by have := HSW.o.tch.size; omega⟩
  rcases HSW.o.gG b hg with q | q
  ·exact h1.2.1 q
  ·omega
 have hBW : B ≠ BB ∧ ¬ G B := ⟨HBA.o.1, fun hg => by
  rcases HSW.o.gG B hg with q | q
  ·exact HBA.o.2 q
  ·omega⟩
 have hSt : Z3 F W B r cs := HST.o.tch HSW.o.tch (fun b hb e => by
  have h1 := HFA.o b hb
  rcases e with e | e
  ·exact h1.1 e
  ·exact h1.2.1 e) (fun e => by
  rcases e with e | e
  ·exact HBA.o.1 e
  ·exact HBA.o.2 e)
 refine (IH B BB F G vars n code vv W x (zh HSW.o.bu) (zh hSt) (zh hFW) (zh hBW) (by omega) (zh fun _ => by omega) HH HI (zh fun z hz => HII.o z (Tch.trans HSW.o.tch hz (fun b hb => hb.elim .inl fun h => .inr (.inl h)) (fun b hl hb => by
  rcases hb with hb | hb | hb
  ·exact .inl hb
  ·rcases HSW.o.gG b hb with q | q
   ·exact .inr (.inl q)
   ·exact .inr (.inr q)
  ·have := HSW.o.tch.size; exact .inr (.inr (by omega)))))).mono ?_
 rintro e W2 ⟨q, qcs, vars2, n2, code2, vv2, G2, Hq, rfl, hq, hb2, hN2, hnn, hG2, hHq, ht2⟩;have hq0 := hq;obtain ⟨tg, kq, rfl, z1, z2, z3, z4, z5, hkq⟩ := hq;obtain ⟨Aq, cq, rfl, -⟩ := hkq;have HQ := zh hq0;have HS2 := zh (HSW.o.child hb2 hG2 ht2);have HN2 := zh (HN.o.child HK12.o hN2);have hxl := Zb HXW.o;have hpl := Zb HSW.o.pb;have hrl := Zb HSW.o.rb;have hws := HSW.o.tch.size;have HG2I : Hd (∀ b, NB b → ¬ G2 b ∧ ¬ H b ∧ ¬ Hq b ∧ b < W2.heap.size) := zh fun b hb => by
  have h1 := HGI.o b hb;have h2 := HLW.o.size;have h3 := ht2.size;refine ⟨fun hg => ?_, h1.2.1, fun hq => by have := (hHq b hq).1; omega, by omega⟩
  rcases hG2 b hg with q | q
  ·exact h1.1 q
  ·omega
 have HOB2 := zh (ht2.has ((HLW.o.block _ (Zb HOB.o)).trans HOB.o) (by rintro (e | e); exact HOP.o.2 e; exact (HGI.o OB hNO).1 e));have HX2 := zh (ht2.has HXW.o (by
  have := HSW.o.pos.2.2.2;rintro (e | e)
  ·have := HIW.o.1; omega
  ·exact (HGI.o IB hNI).1 e))
 have HHQ := zh (show ∀ b, Hq b → w0.heap.size ≤ b ∧ b < W2.heap.size ∧ ¬ G2 b ∧ b ≠ PB ∧ b ≠ RB from fun b hb => by
  have h1 := hHq b hb;exact ⟨by omega, h1.2.1, h1.2.2, by omega, by omega⟩)
 have HHN := zh (show ∀ y, Hq y → ¬ H y from fun y hy hh => by
  have h1 := hHq y hy;have h2 := (HSW.o.hH y hh).2.1
  omega)
 have hnb : n ≤ n2 ∧ n2 ≤ hi + 1 := ⟨hnn.1, by
  by_cases hc : code = 0
  ·have := hnn.2.1 hc; omega
  ·have := hnn.2.2 hc; omega⟩
 replace HSS := zh (And.intro HS2.o.pb HX2.o);clear hbB hFW hBW hSt hq0 z1 z2 z3 z4 z5 hb2 hN2 hnn hG2 hHq ht2 hxl hpl hrl hws HSW HXW HN;go_wp2_with fail;refine ⟨HSS.o, ?_⟩;refine Zej 5 (by kernel_rfl) rfl rfl ?_;have hlx : Za W2 (W2.alloc (.cells (PC q (.slice Aq q.kids.length cq)).toArray Zbc)) := (Za.refl _).alloc _;have HKR := zh (HS2.o.kids.keep (Zv (f + 1)).is (fun _ h => h) (Ze.later hlx));have HQR := zh ((Zv (f + 1)).is.keep HQ.o (fun _ h => h) (Ze.later hlx));have HLX := zh hlx;replace HSS := zh (And.intro ((hlx.block _ (Zb HS2.o.pb)).trans HS2.o.pb) ((hlx.block _ (Zb HX2.o)).trans HX2.o));clear hlx;go_wp2_with fail;refine ⟨HSS.o, ?_⟩;refine Zfo [_, _, _] (by kernel_rfl) rfl rfl ?_;simp only [List.getElem_toArray, List.getElem_cons_succ, List.getElem_cons_zero]
 go_wp2_with (at_builtin; refine Zbo (Zv (f + 1)) rfl _ _ 53 rfl Zbc iP (.agg #[.int .i64 0, .string ⟨#[]⟩, .int .i64 0, .int .i64 0, .int .i64 0, .slice none 0 0]) 72 Tryz.underlying53 hiP hzP0 hzP1 hzP2 rfl rfl HKR.o ⟨W2.heap.size, 0, none⟩ 1 rfl q (PC q (.slice Aq q.kids.length cq)) (Zfc W2 (PC q (.slice Aq q.kids.length cq)) Zbc) (by intro u hu; simp at hu; rcases hu with rfl | rfl | rfl | rfl | rfl | rfl <;> rfl) HQR.o HHN.o (by omega) (by decide) ?_; intro v2 Y hrow hkp hb0; have hYB := (hkp.same PB (fun h => (HS2.o.hH PB h).2.2.2.1 rfl) (Zb HSS.o.1)).trans HSS.o.1; have y5 := cell_of_row _ PB 5 _ _ _ hYB; simp only [nD, nE, nF] at y5; have yf := frozen_of_row _ PB 5 _ _ hYB; obtain ⟨A2, c2, rfl, -, -, -⟩ := id hrow)
 have HOB3 := zh ((hkp.same OB (fun hh => by exact (HG2I.o OB hNO).2.1 hh) (Zb ((HLX.o.block _ (Zb HOB2.o)).trans HOB2.o))).trans ((HLX.o.block _ (Zb HOB2.o)).trans HOB2.o));obtain ⟨H', hfin, hH'⟩ := HS2.o.push HLX.o HHQ.o hrow hkp hb0;simp only [List.length_append, List.length_cons, List.length_nil, Nat.zero_add] at hfin;have HFIN := zh hfin;have HG3I := zh (show ∀ b, NB b → ¬ G2 b ∧ ¬ H' b ∧ b < Y.heap.size from fun b hb => by
  have h1 := HG2I.o b hb;have h2 := HLX.o.size;have h3 := hkp.size;have h4 := h1.2.2.2;refine ⟨h1.1, fun hh => ?_, Nat.lt_of_lt_of_le h4 (Nat.le_trans h2 h3)⟩
  rcases hH' b hh with q | q | q
  ·exact h1.2.1 q
  ·exact h1.2.2.1 q
  ·rw [q] at h4; exact absurd h4 (Nat.not_lt.2 h2))
 clear hH' hfin hrow hkp hb0 hYB;go_wp2_with fail;exact ⟨_, _, FrV.mk' rfl rfl rfl rfl rfl rfl rfl rfl, ((Below.heap_setCell _ _ _ _ HOP.o.1).trans HOB3.o), _, _, _, _, _, _, _, _, HFIN.o, HN2.o, by omega, by omega, by simp; omega, fun b hb => ⟨(HG3I.o b hb).1, (HG3I.o b hb).2.1, by simpa using (HG3I.o b hb).2.2⟩⟩
set_option maxRecDepth 1000000
set_option maxHeartbeats 4000000
theorem Zve {a : Act} {w : World} (f : Nat) (w0 : World) (B BB RB PB IB : Nat) (G0 : Nat → Prop) (r : Zf) (n0 : Nat) (T : Zbp) (lo hi : Nat) (hlo : n0 ≤ lo) (hhi : hi ≤ 303 + 2 * (f + 1)) (hf : f ≤ 301) (NB : Nat → Prop) (hNI : NB IB) (OB : Nat) (hNO : NB OB) (OBJ : Obj) (HOB : Hd (w.heap[OB]? = some OBJ)) (HOP : Hd (OB ≠ PB ∧ OB ≠ BB)) (v9 : Value) (x : Zd) (l : List Zd) (cs : List Value) (F : Nat → Prop) (I : World → Prop) (IH : Zep 111 148 r cs I f) (HST : Hd (Z3 F w0 B r cs)) (HFA : Hd (∀ b, F b → b ≠ BB ∧ ¬ G0 b ∧ b < w0.heap.size)) (HBA : Hd (B ≠ BB ∧ ¬ G0 B)) (hfl : 301 ≤ lo + f) (hhl : 303 + 2 * f ≤ hi) (HIW : Hd (w0.heap.size ≤ IB ∧ IB ≠ RB)) (HII : Hd (∀ x, Tch (fun b => b = BB ∨ G0 b ∨ w0.heap.size ≤ b) w0 x → I x)) (HF : Hd (FrV BB RB OB PB v9 (.pointer (some ⟨IB, 0, none⟩)) (.int .i64 x.kind) a)) (HW : Hd (TrW (f + 1) w0 B BB RB PB 148 G0 (trR r f) T lo hi NB (x :: l) w)) (HX : Hd (w.heap[IB]? = some (.cells (VC6 x).toArray 34 (0, 0)))) (HIP : Hd (IB ≠ PB)) (HH : Hd (Zj r x = true)) (HI : Hd (vIn x)) :
  trSwS.wp Tryz.prog (Zjm (SwS (f + 1) w0 B BB RB OB PB G0 (trR r f) T lo (hi + 1) NB OBJ v9 l)) a w := by
 by_cases k1 : x.kind = 1
 ·exact Zwz f w0 B BB RB PB IB G0 r n0 T lo hi hlo hhi (by omega) NB hNI OB hNO OBJ HOB HOP v9 x l k1 HF HW HX HIP HH HI
 by_cases k2 : x.kind = 2
 ·exact Zw0 f w0 B BB RB PB IB G0 r n0 T lo hi hlo hhi (by omega) NB hNI OB hNO OBJ HOB HOP v9 x l k2 HF HW HX HIP HH HI
 by_cases k3 : x.kind = 3
 ·exact Zw1 f w0 B BB RB PB IB G0 r n0 T lo hi hlo hhi (by omega) NB hNI OB hNO OBJ HOB HOP v9 x l k3 HF HW HX HIP HH HI
 by_cases k12 : x.kind = 12
 ·exact Zwf f w0 B BB RB PB IB G0 r n0 T lo hi hlo hhi (by omega) NB hNI OB hNO OBJ HOB HOP v9 x l k12 cs F I IH HST HFA HBA hfl hhl HIW HII HF HW HX HIP HH HI
 exact Zw2 f w0 B BB RB PB IB G0 r n0 T lo hi hlo hhi (by omega) NB hNI OB hNO OBJ HOB HOP v9 x l ⟨k1, k2, k3, k12⟩ HF HW HX HIP HH HI
theorem Zr8 {a : Act} {w : World} (f : Nat) (w0 : World) (B BB RB PB : Nat) (G0 : Nat → Prop) (r : Zf) (n0 : Nat) (T : Zbp) (lo : Nat) (hlo : n0 ≤ lo) (hf : f ≤ 300) (aJ : List Zd) (Ai : Option Addr) (ci : Nat) (cs : List Value) (F : Nat → Prop) (OB : Nat) (v10 v82 : Value) (kd tg sr : Int) (vk0 : Value) (HOB : Hd (w.heap[OB]? = some (.cells #[.int .i64 kd, .int .i64 tg, .int .i64 sr, .slice Ai aJ.length ci, vk0] 94 (0, 0)))) (HOP : Hd (OB ≠ PB ∧ OB ≠ BB)) (I : World → Prop) (IH : Zep 111 148 r cs I f)
  (HST : Hd (Z3 F w0 B r cs)) (HFA : Hd (∀ b, F b → b ≠ BB ∧ ¬ G0 b ∧ b < w0.heap.size)) (HBA : Hd (B ≠ BB ∧ ¬ G0 B)) (hfl : 301 ≤ lo + f) (HII : Hd (∀ x, Tch (fun b => b = BB ∨ G0 b ∨ w0.heap.size ≤ b) w0 x → I x)) (HROW : Hd (Zo Zg 6 F w0 aJ (.slice Ai aJ.length ci))) (HAL : Hd (∀ x ∈ aJ, Zj r x = true ∧ vIn x)) (hil : aJ.length ≤ 2)
  (HF : Hd (FrV BB RB OB PB (.int .i64 0) v10 v82 a)) (HW : Hd (TrW (f + 1) w0 B BB RB PB 148 G0 (trR r f) T lo (303 + 2 * f) (fun b => b = OB) aJ w)) :
  trLpS.wp Tryz.prog (Zjm (SwS (f + 1) w0 B BB RB OB PB G0 (trR r f) T lo (303 + 2 * f + aJ.length) (fun b => b = OB) (.cells #[.int .i64 kd, .int .i64 tg, .int .i64 sr, .slice Ai aJ.length ci, vk0] 94 (0, 0)) (.int .i64 aJ.length) [])) a w := by
 obtain ⟨fr, rfl⟩ := HF.o.opn;clear HF
 conv => arg 2; whnf
 go_wp2_with fail;refine wp_loop_ghost_k (fun g a u => ∃ j : Nat, g + j = aJ.length ∧ ∃ v10 v82, FrV BB RB OB PB (.int .i64 j) v10 v82 a ∧ u.heap[OB]? = some (.cells #[.int .i64 kd, .int .i64 tg, .int .i64 sr, .slice Ai aJ.length ci, vk0] 94 (0, 0)) ∧ TrW (f + 1) w0 B BB RB PB 148 G0 (trR r f) T lo (303 + 2 * f + j) (fun b => b = OB) (aJ.drop j) u) aJ.length ⟨0, by omega, _, _, FrV.mk' rfl rfl rfl rfl rfl rfl rfl rfl, HOB.o, by simpa using HW.o⟩ ?_;clear HW fr;rintro gk a u ⟨j, hg, v10, v82, hfr, hob, hw⟩ J K hJ hK;obtain ⟨fr, rfl⟩ := hfr.opn;have HW := zh hw;have HO2 := zh hob;clear hfr hw hob
 by_cases hj : j < aJ.length
 ·have t1 : decide ((j : Int) < (aJ.length : Int)) = true := decide_eq_true (by omega);have t2 : (0 : Int) ≤ (j : Int) := by omega
  have t3 : (j : Int) < (aJ.length : Int) := by omega
  obtain ⟨x, hx⟩ : ∃ x, x = aJ[j] := ⟨_, rfl⟩;have hdr : aJ.drop j = x :: aJ.drop (j + 1) := by rw [hx]; exact List.drop_eq_getElem_cons hj
  have hxm : x ∈ aJ := by rw [hx]; exact List.getElem_mem hj
  rw [hdr] at HW;obtain ⟨hxh, hxi⟩ := HAL.o x hxm;have HH := zh hxh;have HI := zh hxi;obtain ⟨p, vars, n, code, vv, vk, G, H, hs, hN, hn1, hn2, hkl, hgi⟩ := HW.o;have hrow := HROW.o.keep Zc (fun _ h => h) (hs.tch.keeps fun b hb e => by
   have h1 := HFA.o b hb
   rcases e with e | e
   ·exact h1.1 e
   ·exact h1.2.1 e)
  obtain ⟨ib, io, eA, hib, ⟨c0, c1, c2, c3, c4, c5⟩, -⟩ := hrow.vat hj;rw [← hx] at c0 c1 c2 c3 c4 c5;have hsl := hs.tch.size;obtain ⟨IB, hIB⟩ : ∃ b, b = u.heap.size := ⟨_, rfl⟩;obtain ⟨u2, hu2⟩ : ∃ z, z = u.alloc (.cells (VC6 x).toArray 34) := ⟨_, rfl⟩;have hlu : Za u u2 := by rw [hu2]; exact (Za.refl _).alloc _
  have HX := zh (show u2.heap[IB]? = some (.cells (VC6 x).toArray 34 (0, 0)) by rw [hu2, hIB]; exact heap_alloc_new _ _);have HW2 := zh (show TrW (f + 1) w0 B BB RB PB 148 G0 (trR r f) T lo (303 + 2 * f + j) (fun b => b = IB ∨ b = OB) (x :: aJ.drop (j + 1)) u2 from ⟨p, vars, n, code, vv, vk, G, H, hs.later hlu, hN, hn1, hn2, hkl, fun b hb => by
    rcases hb with hb | hb
    ·exact ⟨fun hg => (by have := hs.bu.lt b hg; omega), fun hh => (by have := (hs.hH b hh).2.1; omega), by have := Zb HX.o; omega⟩
    ·have h1 := hgi b hb;exact ⟨h1.1, h1.2.1, by have := hlu.size; omega⟩⟩)
  have HIP : Hd (IB ≠ PB) := zh (by have := Zb hs.pb; omega);have HIW : Hd (w0.heap.size ≤ IB ∧ IB ≠ RB) := zh ⟨by omega, by have := Zb hs.rb; omega⟩;have HXE := zh hx;have HDR := zh hdr;have HO3 := zC hlu HO2;clear hs hN hgi hrow hxh hxi hlu hxm hx hdr HW;subst eA;obtain ⟨o0, o1, o2, o3, o4⟩ := cz5 HO2.o;go_upto_region 18 with (fail);rw [← hu2, ← hIB];clear hu2 hIB hib c0 c1 c2 c3 c4 c5;have x0 := cq HX.o 0;simp only [List.getElem?_toArray, List.getElem?_cons_zero] at x0
  go_upto_block 2 with (fail)
  refine Zqd (Zve f w0 B BB RB PB IB G0 r n0 T lo (303 + 2 * f + j) hlo (by omega) (by omega) (fun b => b = IB ∨ b = OB) (.inl rfl) OB (.inr rfl) _ HO3 HOP _ x (aJ.drop (j + 1)) cs F I IH HST HFA HBA hfl (by omega) HIW HII (zh (FrV.mk' rfl rfl rfl rfl rfl rfl rfl rfl)) HW2 HX HIP HH HI) ?_;clear HW2 HX HIP HIW x0 HO2 HO3 o0 o1 o2 o3 o4;rintro a' w' ⟨v10, v82, hf, hob, p, vars, n, code, vv, vk, G, H, hs, hN, hn1, hn2, hkl, hgi⟩;have HO4 := zh hob;clear hob;obtain ⟨fr, rfl⟩ := hf.opn;have HW3 := zh (show TrW (f + 1) w0 B BB RB PB 148 G0 (trR r f) T lo (303 + 2 * f + (j + 1)) (fun b => b = OB) (aJ.drop (j + 1)) w' from ⟨p, vars, n, code, vv, vk, G, H, hs, hN, hn1, by omega, by omega, fun b hb => hgi b (.inr hb)⟩);clear hf hs hN hgi;go_wp2_with fail;refine Handed.intro (gk - 1) (by omega) (hJ _ _ _ ⟨j + 1, by omega, _, _, FrV.mk' rfl rfl rfl rfl rfl rfl rfl rfl, HO4.o, HW3.o⟩)
 ·have o0 := cell_of_row _ OB 0 _ _ _ HO2.o;have o1 := cq HO2.o 1;have o2 := cq HO2.o 2;have o3 := cq HO2.o 3;have o4 := cq HO2.o 4;simp only [nD, nE, nF] at o1 o2 o3 o4;have t1 : decide ((j : Int) < (aJ.length : Int)) = false := decide_eq_false (by omega);obtain rfl : j = aJ.length := by omega
  rw [List.drop_length] at HW;go_wp2_with fail;exact ⟨_, _, FrV.mk' rfl rfl rfl rfl rfl rfl rfl rfl, HO2.o, HW.o⟩
set_option maxRecDepth 1000000
set_option maxHeartbeats 4000000
theorem Zlf (r : Zf) (cs : List Value) (hok : Zap r = true) (hol : r.aA.length ≤ 1048576) (f : Nat) (hf : f ≤ 301) (IH : ∀ f', f = f' + 1 → Zep 111 148 r cs (fun _ => True) f') : Zep 111 148 r cs (fun _ => True) f := by
 intro B BB F G vars n code vv w v HB0 HST HFA HBA hn HFU HH HI HII;obtain ⟨T, hT⟩ : ∃ T, (if code = 0 then trR r f vars n v else .bad code) = T := ⟨_, rfl⟩;rw [hT];have HT0 := zh hT;clear hT;have HOK := zh hok;obtain ⟨Av, cv, rfl, hcv, hcm, -⟩ := id HB0.o.row;obtain ⟨w2, hw2⟩ : ∃ z, z = ((w.alloc (.cells (VC6 v).toArray 34)).alloc (.cells ZP6.toArray Zbc)) := ⟨_, rfl⟩;have hl2 : Za w w2 := by rw [hw2]; exact ((Za.refl w).alloc _).alloc _
 have HV2 := zh (show w2.heap[w.heap.size]? = some (.cells (VC6 v).toArray 34 (0, 0)) by rw [hw2]; exact ((Za.refl _).alloc _).block w.heap.size (by simp) |>.trans (heap_alloc_new w _));have HR2 := zh (show w2.heap[w.heap.size + 1]? = some (.cells ZP6.toArray Zbc (0, 0)) by rw [hw2]; exact Za8 (by simp));have HB2 := zh (HB0.o.later hl2);have HT2 := zh (Tch.later (P := fun b => b = BB ∨ G b) hl2);have HGL := zh HB0.o.lt;have hBB := Zb HB0.o.blk;have hc64 := HB0.o.c64;clear hl2 hok;go_enter Tryz.func111, Tryz.ntmps111;go_upto_region 1 with (fail);rw [← hw2];clear hw2;obtain ⟨b0, b1, b2, b3⟩ := cz4 HB2.o.blk;have fb0 := fz HB2.o.blk
 by_cases hc : code = 0
 ·subst hc;have HTT := zh (show T = trR r f vars n v from HT0.o.symm.trans (if_pos rfl));have HB3 := zh (show Bu B BB 148 G (w2.setCell ⟨BB, 2, none⟩ (.int .i64 ((n : Int) + 1))) vars (n + 1) 0 (.slice Av vars.length cv) from HB2.o.setN (n + 1));have HT3 := zh (HT2.o.set (c := BB) (.inl rfl) 2 (.int .i64 ((n : Int) + 1)));have HV3 := zh (show (w2.setCell ⟨BB, 2, none⟩ (.int .i64 ((n : Int) + 1))).heap[w.heap.size]? = some (.cells (VC6 v).toArray 34 (0, 0)) from (Below.heap_setCell _ _ _ _ (show w.heap.size ≠ BB by omega)).trans HV2.o);have HR3 := zh (show (w2.setCell ⟨BB, 2, none⟩ (.int .i64 ((n : Int) + 1))).heap[w.heap.size + 1]? = some (.cells ZP6.toArray Zbc (0, 0)) from (Below.heap_setCell _ _ _ _ (show w.heap.size + 1 ≠ BB by omega)).trans HR2.o);obtain ⟨w3, hw3⟩ : ∃ z, z = w2.setCell ⟨BB, 2, none⟩ (.int .i64 ((n : Int) + 1)) := ⟨_, rfl⟩;rw [← hw3] at HB3 HT3 HV3 HR3;go_upto_region 2 with (fail);rw [← hw3];clear hw3 HB2 HT2 HV2 HR2 b0 b1 b2 b3 fb0;obtain ⟨b0, b1, b2, b3⟩ := cz4 HB3.o.blk;have fb0 := fz HB3.o.blk;have r0 := cz6 HR3.o;have fr0 := fz HR3.o;obtain ⟨v0, v1, v2, v3, v4, v5⟩ := cz6 HV3.o;have hb2' : w3.cell? ⟨BB, 2, none⟩ = some (.int .i64 ((n : Int) + 1)) := b2;clear b2
  by_cases h300 : 300 < n + 1
  ·have t3 : decide ((300 : Int) < (n : Int) + 1) = true := decide_eq_true (by omega);have HTQ := zh (HTT.o.trans (Zk9 (r := r) (f := f) (vars := vars) (v := v) h300));have HB9 := zh (HB3.o.setC 302 (by omega));have HT9 := zh (HT3.o.set (c := BB) (.inl rfl) 3 (.int .i64 302));have HTL := zh (Zeg (f := f) (T := T) (n0 := n) (RB := w.heap.size + 1) HB9.o HT9.o (fun b hb => .inl hb) (fun hg => by have := HGL.o _ hg; omega) (by omega) hBB (Zdq 0) (PIn.zero 0 (Zde 0 (by omega) (by omega))) rfl (by rw [HTQ.o]; exact Now.stop rfl (by decide)) ⟨Nat.le_succ _, fun _ => .inr (Nat.le_refl _), fun h => absurd rfl h⟩);go_wp2_with fail;have hd := HTL.o;simp only [PC, Zdq, Zz, Nat.zero_add, Nat.reduceAdd] at hd;exact bodyPost_ret (v := .agg #[.int .i64 0, .string ⟨#[]⟩, .int .i64 0, .int .i64 0, .int .i64 0, .slice none 0 0]) (by simp [results, Tryz.results111, go_sem, r0, fr0]) rfl hd
  have t3 : decide ((300 : Int) < (n : Int) + 1) = false := decide_eq_false (by omega);obtain ⟨f', hf'⟩ : ∃ f', f = f' + 1 := ⟨f - 1, by have := HFU.o (by first | rfl | trivial); omega⟩;have IH2 := IH f' hf';subst hf';clear IH
  by_cases hk : v.kind = 12
  ·have t4 : (v.kind != 12) = false := by simpa using hk
   obtain ⟨j, hj, hjl⟩ := Zfq HH.o (by rw [hk]; decide);have hkd := Zd6 HH.o (by rw [hk]; decide);rw [hj, Zdi hjl, hk] at hkd;have hkd7 : r.aA[j].kind = 7 := by simpa [Zbf] using hkd
   obtain ⟨hil, hia⟩ := Zh5 HOK.o hjl hkd7;have HTQ := zh (HTT.o.trans (Zlb (r := r) (f := f') (vars := vars) (v := v) h300 hk hj hjl));have HJ := zh hj;have HK := zh hk;obtain ⟨AO, cO, hO, hcO, hcmO, hro⟩ := HST.o.aA;obtain ⟨ob, oo, Ai, ci, Ak, ck, rfl, hFo, hobw, hcs, bP, bN⟩ := Z3.objF hro hjl;have hFA1 := HFA.o ob hFo;have hBw := HST.o.lt;have HST3 := zh (HST.o.tch HT3.o (fun b hb e => by
    have h1 := HFA.o b hb
    rcases e with e | e
    ·exact h1.1 e
    ·exact h1.2.1 e) (fun e => by
    rcases e with e | e
    ·exact HBA.o.1 e
    ·exact HBA.o.2 e))
   have hO2 : w3.cell? ⟨B, 2, none⟩ = some (.slice (some ⟨ob, oo, none⟩) r.aA.length cO) := (HT3.o.cell 2 hBw (by rintro (e | e); exact HBA.o.1 e; exact HBA.o.2 e)).trans hO;have hnp : ¬ (ob = BB ∨ G ob) := by rintro (e | e); exact hFA1.1 e; exact hFA1.2.1 e
   have HC3 := zh (show _ ∧ _ ∧ _ ∧ _ ∧ _ from ⟨(HT3.o.cell (oo + j * 5) hobw hnp).trans hcs.1, (HT3.o.cell (oo + j * 5 + 1) hobw hnp).trans hcs.2.1, (HT3.o.cell (oo + j * 5 + 2) hobw hnp).trans hcs.2.2.1, (HT3.o.cell (oo + j * 5 + 3) hobw hnp).trans hcs.2.2.2.1, (HT3.o.cell (oo + j * 5 + 4) hobw hnp).trans hcs.2.2.2.2⟩);have hob3 : ob < w3.heap.size := Nat.lt_of_lt_of_le hobw HT3.o.size;have HROW := zh bP;have HAL := zh (show ∀ x ∈ r.aA[j].aJ, Zj r x = true ∧ vIn x from fun x hx => ⟨hia x hx, Ziy bP x hx⟩);have HTAG := zh bN;have HN2 := zh hkd7;have hjl2 : (j : Int) < (r.aA.length : Int) := by omega
   unfold maxLen at hcmO;obtain ⟨Ai2, ci2, ei, hci, hcmi, -⟩ := id bP;cases ei;unfold maxLen at hcmi;clear hkd hkd7 hia hcs bP bN hro hO hFo hFA1 hnp hk hj hobw hBw;go_upto_region 12 with (fail);refine Zax [12] [] (by kernel_rfl) (fun W hW => ?_);have hlW : Za w3 W := by rw [hW]; exact (Za.refl _).drew
   clear hW;have HB4 := zh (HB3.o.later hlW);have HT4 := zh (HT3.o.la hlW);have HV4 := zC hlW HV3;have HR4 := zC hlW HR3;have HST4 := zh (HST3.o.later hlW);obtain ⟨Ao, co, e2, hco, hcmo, -⟩ := HST4.o.aA;have HE2 := zh (show W.cell? ⟨B, 2, none⟩ = some (.slice (some ⟨ob, oo, none⟩) r.aA.length cO) from (hlW.cell _ HST3.o.lt).trans hO2);have HCS := zh (show _ ∧ _ ∧ _ ∧ _ ∧ _ from ⟨(hlW.cell ⟨ob, oo + j * 5, none⟩ hob3).trans HC3.o.1, (hlW.cell ⟨ob, oo + j * 5 + 1, none⟩ hob3).trans HC3.o.2.1, (hlW.cell ⟨ob, oo + j * 5 + 2, none⟩ hob3).trans HC3.o.2.2.1, (hlW.cell ⟨ob, oo + j * 5 + 3, none⟩ hob3).trans HC3.o.2.2.2.1, (hlW.cell ⟨ob, oo + j * 5 + 4, none⟩ hob3).trans HC3.o.2.2.2.2⟩);have hobW : ob < W.heap.size := Nat.lt_of_lt_of_le hob3 hlW.size;clear hlW e2 hco hcmo Ao co hO2 b0 b1 hb2' b3 fb0 r0 fr0 v0 v1 v2 v3 v4 v5 HB3 HT3 HV3 HR3;refine tU 0 55 (v := ?_) rfl rfl (fun x hx => ?_) ?_;rotate_left
   ·go_simp;first|done|with_reducible rfl
   simp only [Act.put, nA, nB, nC];refine tU 1 56 (v := ?_) rfl rfl (fun x hx => ?_) ?_;rotate_left
   ·go_simp;first|done|with_reducible rfl
   simp only [Act.put, nA, nB, nC];refine tU 2 57 (v := ?_) rfl rfl (fun x hx => ?_) ?_;rotate_left
   ·go_simp;first|done|with_reducible rfl
   simp only [Act.put, nA, nB, nC];refine tU 3 58 (v := ?_) rfl rfl (fun x hx => ?_) ?_;rotate_left
   ·have hxb := (hx.block _ (Zb HB4.o.blk)).trans HB4.o.blk; have hxv := (hx.block _ (Zb HV4.o)).trans HV4.o; have b0 := cell_of_row _ BB 0 _ _ _ hxb; have b1 := cell_of_row _ BB 1 _ _ _ hxb; have b2 := cell_of_row _ BB 2 _ _ _ hxb; have b3 := cell_of_row _ BB 3 _ _ _ hxb; have v0 := cell_of_row _ w.heap.size 0 _ _ _ hxv; have v1 := cell_of_row _ w.heap.size 1 _ _ _ hxv; have v2 := cell_of_row _ w.heap.size 2 _ _ _ hxv; have v3 := cell_of_row _ w.heap.size 3 _ _ _ hxv; have v4 := cell_of_row _ w.heap.size 4 _ _ _ hxv; have v5 := cell_of_row _ w.heap.size 5 _ _ _ hxv; simp only [nD, nE, nF] at b0 b1 b2 b3 v0 v1 v2 v3 v4 v5; rw [HJ.o] at v1; have x2 := (hx.cell ⟨B, 2, none⟩ HST4.o.lt).trans HE2.o; have c0 := (hx.cell ⟨ob, oo + j * 5, none⟩ hobW).trans HCS.o.1; have c1 := (hx.cell ⟨ob, oo + j * 5 + 1, none⟩ hobW).trans HCS.o.2.1; have c2 := (hx.cell ⟨ob, oo + j * 5 + 2, none⟩ hobW).trans HCS.o.2.2.1; have c3 := (hx.cell ⟨ob, oo + j * 5 + 3, none⟩ hobW).trans HCS.o.2.2.2.1; have c4 := (hx.cell ⟨ob, oo + j * 5 + 4, none⟩ hobW).trans HCS.o.2.2.2.2; go_simp;first|done|with_reducible rfl
   simp only [Act.put, nA, nB, nC];refine tU 4 59 (v := ?_) rfl rfl (fun x hx => ?_) ?_;rotate_left
   ·go_simp;first|done|with_reducible rfl
   simp only [Act.put, nA, nB, nC];refine tU 5 60 (v := ?_) rfl rfl (fun x hx => ?_) ?_;rotate_left
   ·go_simp;first|done|with_reducible rfl
   simp only [Act.put, nA, nB, nC];refine tU 6 61 (v := ?_) rfl rfl (fun x hx => ?_) ?_;rotate_left
   ·have hxb := (hx.block _ (Zb HB4.o.blk)).trans HB4.o.blk; have hxv := (hx.block _ (Zb HV4.o)).trans HV4.o; have b0 := cell_of_row _ BB 0 _ _ _ hxb; have b1 := cell_of_row _ BB 1 _ _ _ hxb; have b2 := cell_of_row _ BB 2 _ _ _ hxb; have b3 := cell_of_row _ BB 3 _ _ _ hxb; have v0 := cell_of_row _ w.heap.size 0 _ _ _ hxv; have v1 := cell_of_row _ w.heap.size 1 _ _ _ hxv; have v2 := cell_of_row _ w.heap.size 2 _ _ _ hxv; have v3 := cell_of_row _ w.heap.size 3 _ _ _ hxv; have v4 := cell_of_row _ w.heap.size 4 _ _ _ hxv; have v5 := cell_of_row _ w.heap.size 5 _ _ _ hxv; simp only [nD, nE, nF] at b0 b1 b2 b3 v0 v1 v2 v3 v4 v5; rw [HJ.o] at v1; have x2 := (hx.cell ⟨B, 2, none⟩ HST4.o.lt).trans HE2.o; have c0 := (hx.cell ⟨ob, oo + j * 5, none⟩ hobW).trans HCS.o.1; have c1 := (hx.cell ⟨ob, oo + j * 5 + 1, none⟩ hobW).trans HCS.o.2.1; have c2 := (hx.cell ⟨ob, oo + j * 5 + 2, none⟩ hobW).trans HCS.o.2.2.1; have c3 := (hx.cell ⟨ob, oo + j * 5 + 3, none⟩ hobW).trans HCS.o.2.2.2.1; have c4 := (hx.cell ⟨ob, oo + j * 5 + 4, none⟩ hobW).trans HCS.o.2.2.2.2; go_simp;first|done|with_reducible rfl
   simp only [Act.put, nA, nB, nC];refine tU 7 62 (v := ?_) rfl rfl (fun x hx => ?_) ?_;rotate_left
   ·go_simp;first|done|with_reducible rfl
   simp only [Act.put, nA, nB, nC];refine tU 8 63 (v := ?_) rfl rfl (fun x hx => ?_) ?_;rotate_left
   ·have hxb := (hx.block _ (Zb HB4.o.blk)).trans HB4.o.blk; have hxv := (hx.block _ (Zb HV4.o)).trans HV4.o; have b0 := cell_of_row _ BB 0 _ _ _ hxb; have b1 := cell_of_row _ BB 1 _ _ _ hxb; have b2 := cell_of_row _ BB 2 _ _ _ hxb; have b3 := cell_of_row _ BB 3 _ _ _ hxb; have v0 := cell_of_row _ w.heap.size 0 _ _ _ hxv; have v1 := cell_of_row _ w.heap.size 1 _ _ _ hxv; have v2 := cell_of_row _ w.heap.size 2 _ _ _ hxv; have v3 := cell_of_row _ w.heap.size 3 _ _ _ hxv; have v4 := cell_of_row _ w.heap.size 4 _ _ _ hxv; have v5 := cell_of_row _ w.heap.size 5 _ _ _ hxv; simp only [nD, nE, nF] at b0 b1 b2 b3 v0 v1 v2 v3 v4 v5; rw [HJ.o] at v1; have x2 := (hx.cell ⟨B, 2, none⟩ HST4.o.lt).trans HE2.o; have c0 := (hx.cell ⟨ob, oo + j * 5, none⟩ hobW).trans HCS.o.1; have c1 := (hx.cell ⟨ob, oo + j * 5 + 1, none⟩ hobW).trans HCS.o.2.1; have c2 := (hx.cell ⟨ob, oo + j * 5 + 2, none⟩ hobW).trans HCS.o.2.2.1; have c3 := (hx.cell ⟨ob, oo + j * 5 + 3, none⟩ hobW).trans HCS.o.2.2.2.1; have c4 := (hx.cell ⟨ob, oo + j * 5 + 4, none⟩ hobW).trans HCS.o.2.2.2.2; go_simp;first|done|with_reducible rfl
   simp only [Act.put, nA, nB, nC];refine tU 9 64 (v := ?_) rfl rfl (fun x hx => ?_) ?_;rotate_left
   ·go_simp;first|done|with_reducible rfl|rw[if_neg (by omega)]|rw[if_pos (by omega)]
   simp only [Act.put, nA, nB, nC];refine tU 10 65 (v := ?_) rfl rfl (fun x hx => ?_) ?_;rotate_left
   ·have hxb := (hx.block _ (Zb HB4.o.blk)).trans HB4.o.blk; have hxv := (hx.block _ (Zb HV4.o)).trans HV4.o; have b0 := cell_of_row _ BB 0 _ _ _ hxb; have b1 := cell_of_row _ BB 1 _ _ _ hxb; have b2 := cell_of_row _ BB 2 _ _ _ hxb; have b3 := cell_of_row _ BB 3 _ _ _ hxb; have v0 := cell_of_row _ w.heap.size 0 _ _ _ hxv; have v1 := cell_of_row _ w.heap.size 1 _ _ _ hxv; have v2 := cell_of_row _ w.heap.size 2 _ _ _ hxv; have v3 := cell_of_row _ w.heap.size 3 _ _ _ hxv; have v4 := cell_of_row _ w.heap.size 4 _ _ _ hxv; have v5 := cell_of_row _ w.heap.size 5 _ _ _ hxv; simp only [nD, nE, nF] at b0 b1 b2 b3 v0 v1 v2 v3 v4 v5; rw [HJ.o] at v1; have x2 := (hx.cell ⟨B, 2, none⟩ HST4.o.lt).trans HE2.o; have c0 := (hx.cell ⟨ob, oo + j * 5, none⟩ hobW).trans HCS.o.1; have c1 := (hx.cell ⟨ob, oo + j * 5 + 1, none⟩ hobW).trans HCS.o.2.1; have c2 := (hx.cell ⟨ob, oo + j * 5 + 2, none⟩ hobW).trans HCS.o.2.2.1; have c3 := (hx.cell ⟨ob, oo + j * 5 + 3, none⟩ hobW).trans HCS.o.2.2.2.1; have c4 := (hx.cell ⟨ob, oo + j * 5 + 4, none⟩ hobW).trans HCS.o.2.2.2.2; go_simp;first|done|with_reducible rfl
   simp only [Act.put, nA, nB, nC];refine Ze3 11 (by kernel_rfl) rfl rfl ?_;go_wp2_with fail;refine ⟨(Za.refl _).alloc _, ?_⟩;refine Za7 [_] (by kernel_rfl) rfl rfl ?_;simp only [List.getElem_toArray, List.getElem_cons_succ, List.getElem_cons_zero];obtain ⟨w5, hw5⟩ : ∃ z, z = W.alloc (.cells #[.int .i64 r.aA[j].kind, .int .i64 r.aA[j].tag, .int .i64 r.aA[j].aI, .slice Ai r.aA[j].aJ.length ci, .slice Ak r.aA[j].aK.length ck] 94) := ⟨_, rfl⟩;have hl5 : Za W w5 := by rw [hw5]; exact (Za.refl _).alloc _
   obtain ⟨OB, hOB⟩ : ∃ b, b = W.heap.size := ⟨_, rfl⟩;have HO5 := zh (show w5.heap[OB]? = some (.cells #[.int .i64 r.aA[j].kind, .int .i64 r.aA[j].tag, .int .i64 r.aA[j].aI, .slice Ai r.aA[j].aJ.length ci, .slice Ak r.aA[j].aK.length ck] 94 (0, 0)) by rw [hw5, hOB]; exact heap_alloc_new _ _);have hb5 := HB4.o.later hl5;have ht5 := HT4.o.la hl5;have hr5 := (hl5.block _ (Zb HR4.o)).trans HR4.o;have hrO := Zb HR4.o;have HOR : Hd (w.heap.size + 1 < OB) := zh (by omega);go_upto_region 13 with (fail);rw [← hw5, ← hOB];clear hw5 hOB hrO;obtain ⟨o0, o1, o2, o3, o4⟩ := cz5 HO5.o;obtain ⟨w6, hw6⟩ : ∃ z, z = w5.alloc (.cells #[.int .i64 r.aA[j].tag, .string ⟨#[]⟩, .int .i64 0, .int .i64 0, .int .i64 0, .slice none 0 0] Zbc) := ⟨_, rfl⟩;have hl6 : Za w5 w6 := by rw [hw6]; exact (Za.refl _).alloc _
   obtain ⟨PB, hPB⟩ : ∃ b, b = w5.heap.size := ⟨_, rfl⟩;have HP6 := zh (show w6.heap[PB]? = some (.cells (PC (Zdq r.aA[j].tag) (.slice none 0 0)).toArray Zbc (0, 0)) by rw [hw6, hPB]; exact heap_alloc_new _ _);have HO6 := zC hl6 HO5;have hpO := Zb HO5.o;have HPO : Hd (OB ≠ PB ∧ OB ≠ BB) := zh ⟨by omega, by have := HOR.o; omega⟩;have HS6 := zh (TrS.start (L := f' + 1) (RB := w.heap.size + 1) (PB := PB) (hb5.later hl6) (ht5.la hl6) HGL.o hBB (by omega) (by have := HOR.o; omega) HTAG.o HP6.o ((hl6.block _ (Zb hr5)).trans hr5));go_upto_region 14 with (fail);rw [← hw6, ← hPB];clear hw6 hPB hb5 ht5 hr5 hl5 hl6 o0 o1 o2 o3 o4 hpO;have o3 := cq HO6.o 3;simp only [nD, nE, nF] at o3
   go_upto_block 0 with (fail)
   have HTW := zh (show TrW (f' + 1) w B BB (w.heap.size + 1) PB 148 G (trR r f') T (n + 1) (303 + 2 * f') (fun b => b = OB) r.aA[j].aJ w6 from ⟨_, _, _, _, _, _, _, _, HS6.o, Now.of HTQ.o.symm, Nat.le_refl _, by omega, by show (0 : Nat) ≤ _; omega, fun b hb => ⟨fun hg => (by have := HGL.o _ hg; have := HOR.o; omega), fun h => h, by rw [hb]; exact Zb HO6.o⟩⟩);refine Ziw (Zr8 f' w B BB (w.heap.size + 1) PB G r n _ (n + 1) (Nat.le_succ _) (by omega) r.aA[j].aJ Ai ci cs F OB _ _ _ _ _ _ HO6 HPO (fun _ => True) IH2 HST HFA HBA (by have := HFU.o (by first | rfl | trivial); omega) HII HROW HAL hil (zh (FrV.mk' rfl rfl rfl rfl rfl rfl rfl rfl)) HTW) ?_;clear HTW HS6 o3;rintro a' y ⟨v10, v82, hf, -, p, vars', n', code', vv', vk, G', H, hs, hN, hn1, hn2, hkl, -⟩;obtain ⟨fr, rfl⟩ := hf.opn;obtain ⟨Akk, ckk, rfl, -⟩ := id hs.kids;have HS := zh hs;have HNN := zh hN;clear hf hs hN;have q0 := cz6 HS.o.pb;have r0 := cz6 HS.o.rb;have fr0 := fz HS.o.rb;have HTL := zh (Zq3 HS.o (n0 := n) (T := T) HNN.o ⟨by omega, by omega⟩);go_wp2_with fail;have hd := HTL.o;simp only [PC, Zz, Nat.zero_add, Nat.reduceAdd] at hd;exact bodyPost_ret (v := .agg #[.int .i64 p.op, .string p.text, .int .i64 p.aH, .int .i64 p.set_.low, .int .i64 p.set_.high, .slice Akk p.kids.length ckk]) (by simp [results, Tryz.results111, go_sem, r0, fr0]) rfl hd
  have t4 : (v.kind != 12) = true := by simpa using hk
  have hin : Zy v.aH := HI.o.2.1;have HIN := zh hin;have HTQ0 := zh (HTT.o.trans (Zla (r := r) (f := f') (vars := vars) (v := v) h300 hk));clear hin
  rcases htx : Zc1 v with _ | t
  ·have HTQ := HTQ0.o;rw [htx] at HTQ;replace HTQ := zh HTQ;have HTX := zh htx;clear htx;go_wp2_with fail;refine (Zgy v _ F w3 (HI.o.el F w3)).mono ?_;rw [HTX.o];rintro e w4 ⟨rfl, hl4⟩;simp only [Zjl];have HB4 := zh (HB3.o.later hl4);have HT4 := zh (HT3.o.la hl4);have HR4 := zC hl4 HR3;clear hl4 b0 b1 hb2' b3 fb0 r0 fr0 v0 v1 v2 v3 v4 v5;obtain ⟨b0, b1, b2, b3⟩ := cz4 HB4.o.blk;have fb0 := fz HB4.o.blk;have r0 := cz6 HR4.o;have fr0 := fz HR4.o;have HB9 := zh (HB4.o.setC 127 (by omega));have HT9 := zh (HT4.o.set (c := BB) (.inl rfl) 3 (.int .i64 127));have HTL := zh (Zeg (f := f' + 1) (T := T) (n0 := n) (RB := w.heap.size + 1) HB9.o HT9.o (fun b hb => .inl hb) (fun hg => by have := HGL.o _ hg; omega) (by omega) hBB (Zdq 0) (PIn.zero 0 (Zde 0 (by omega) (by omega))) rfl (by rw [HTQ.o]; exact Now.stop rfl (by decide)) ⟨Nat.le_succ _, fun _ => .inr (Nat.le_refl _), fun h => absurd rfl h⟩);go_wp2_with fail;have hd := HTL.o;simp only [PC, Zdq, Zz, Nat.zero_add, Nat.reduceAdd] at hd;exact bodyPost_ret (v := .agg #[.int .i64 0, .string ⟨#[]⟩, .int .i64 0, .int .i64 0, .int .i64 0, .slice none 0 0]) (by simp [results, Tryz.results111, go_sem, r0, fr0]) rfl hd
  ·have hts := Zgz HH.o HIN.o htx;have HTQ := HTQ0.o;rw [htx] at HTQ;replace HTQ := zh HTQ;have HTX := zh htx;clear htx;go_wp2_with fail;refine (Zgy v _ F w3 (HI.o.el F w3)).mono ?_;rw [HTX.o];rintro e w4 ⟨rfl, hl4⟩;simp only [Zjl];have HB4 := zh (HB3.o.later hl4);have HT4 := zh (HT3.o.la hl4);have HR4 := zC hl4 HR3;clear hl4 b0 b1 hb2' b3 fb0 r0 fr0 v0 v1 v2 v3 v4 v5;have r0 := cz6 HR4.o;have fr0 := fz HR4.o;have HTL := zh (Zeg (f := f' + 1) (T := T) (n0 := n) (RB := w.heap.size + 1) HB4.o HT4.o (fun b hb => .inl hb) (fun hg => by have := HGL.o _ hg; omega) (by omega) hBB { Zdq 1 with text := t } ⟨Zde 1 (by omega) (by omega), by show t.size ≤ 1000; omega, Zde 0 (by omega) (by omega), Zde 0 (by omega) (by omega), Zde 0 (by omega) (by omega)⟩ rfl (by rw [HTQ.o]; exact Now.of rfl) ⟨Nat.le_succ _, fun _ => .inr (Nat.le_refl _), fun h => absurd rfl h⟩);go_wp2_with fail;have hd := HTL.o;simp only [PC, Zdq, Zz, Nat.zero_add, Nat.reduceAdd] at hd;exact bodyPost_ret (v := .agg #[.int .i64 1, .string t, .int .i64 0, .int .i64 0, .int .i64 0, .slice none 0 0]) (by simp [results, Tryz.results111, go_sem, r0, fr0]) rfl hd
 have t1 : (code == 0) = false := nH.2 hc;have t2 : (code != 0) = true := by simpa using hc
 have HTQ := zh (show T = Zbp.bad code from HT0.o.symm.trans (if_neg hc));have HB3 := zh (show Bu B BB 148 G (w2.setCell ⟨BB, 2, none⟩ (.int .i64 ((n : Int) + 1))) vars (n + 1) code (.slice Av vars.length cv) from HB2.o.setN (n + 1));have HT3 := zh (HT2.o.set (c := BB) (.inl rfl) 2 (.int .i64 ((n : Int) + 1)));have HV3 := zh (show (w2.setCell ⟨BB, 2, none⟩ (.int .i64 ((n : Int) + 1))).heap[w.heap.size]? = some (.cells (VC6 v).toArray 34 (0, 0)) from (Below.heap_setCell _ _ _ _ (show w.heap.size ≠ BB by omega)).trans HV2.o);have HR3 := zh (show (w2.setCell ⟨BB, 2, none⟩ (.int .i64 ((n : Int) + 1))).heap[w.heap.size + 1]? = some (.cells ZP6.toArray Zbc (0, 0)) from (Below.heap_setCell _ _ _ _ (show w.heap.size + 1 ≠ BB by omega)).trans HR2.o);obtain ⟨w3, hw3⟩ : ∃ z, z = w2.setCell ⟨BB, 2, none⟩ (.int .i64 ((n : Int) + 1)) := ⟨_, rfl⟩;rw [← hw3] at HB3 HT3 HV3 HR3;go_upto_region 2 with (fail);rw [← hw3];clear hw3 HB2 HT2 HV2 HR2 b0 b1 b2 b3 fb0;obtain ⟨b0, b1, b2, b3⟩ := cz4 HB3.o.blk;have fb0 := fz HB3.o.blk;have r0 := cz6 HR3.o;have fr0 := fz HR3.o;obtain ⟨v0, v1, v2, v3, v4, v5⟩ := cz6 HV3.o;have hb2' : w3.cell? ⟨BB, 2, none⟩ = some (.int .i64 ((n : Int) + 1)) := b2;clear b2;have HTL := zh (Zeg (f := f) (T := T) (n0 := n) (RB := w.heap.size + 1) HB3.o HT3.o (fun b hb => .inl hb) (fun hg => by have := HGL.o _ hg; omega) (by omega) hBB (Zdq 0) (PIn.zero 0 (Zde 0 (by omega) (by omega))) rfl (by rw [HTQ.o]; exact Now.stop rfl hc) ⟨Nat.le_succ _, fun h => absurd h hc, fun _ => Nat.le_refl _⟩)
 go_wp2_with fail;have hd := HTL.o;simp only [PC, Zdq, Zz, Nat.zero_add, Nat.reduceAdd] at hd;exact bodyPost_ret (v := .agg #[.int .i64 0, .string ⟨#[]⟩, .int .i64 0, .int .i64 0, .int .i64 0, .slice none 0 0]) (by simp [results, Tryz.results111, go_sem, r0, fr0]) rfl hd
theorem Zhg (r : Zf) (cs : List Value) (hok : Zap r = true) (hol : r.aA.length ≤ 1048576) : ∀ f, f ≤ 301 → Zep 111 148 r cs (fun _ => True) f
 | 0, h => Zlf r cs hok hol 0 h fun f' e => by omega
 | f + 1, h => Zlf r cs hok hol (f + 1) h fun f' e => by
  obtain rfl : f = f' := by omega
  exact Zhg r cs hok hol f (by omega)
set_option maxRecDepth 1000000
set_option maxHeartbeats 4000000
theorem Zr9 (B : Nat) (F : Nat → Prop) (r : Zf) (cs : List Value) (v : Zd) (w : World) (h : Z3 F w B r cs) (hol : r.aA.length ≤ 1048576) (hv : Zhl r v) :
  Calls Tryz.prog 118 #[.pointer (some ⟨B, 0, none⟩), .agg (VC6 v).toArray] w (fun e w' => e = .returned (.tuple #[.agg (VC6 (Zdr r v)).toArray, .int .i64 0]) ∧ Tch (fun _ => False) w w') := by
 obtain ⟨x, hy⟩ : ∃ x, x = Zdr r v := ⟨_, rfl⟩;rw [← hy];obtain ⟨w2, hw2⟩ : ∃ z, z = ((w.alloc (.cells (VC6 v).toArray 34)).alloc (.cells #[.int .i64 0, .int .i64 0, .int .i64 0, .string ⟨#[]⟩, .int .i64 0, .int .i64 0] 34)) := ⟨_, rfl⟩;have hl2 : Za w w2 := by rw [hw2]; exact ((Za.refl w).alloc _).alloc _
 have HV2 := zh (show w2.heap[w.heap.size]? = some (.cells (VC6 v).toArray 34 (0, 0)) by rw [hw2]; exact ((Za.refl _).alloc _).block w.heap.size (by simp) |>.trans (heap_alloc_new w _));have HR2 := zh (show w2.heap[w.heap.size + 1]? = some (.cells #[.int .i64 0, .int .i64 0, .int .i64 0, .string ⟨#[]⟩, .int .i64 0, .int .i64 0] 34 (0, 0)) by rw [hw2]; exact Za8 (by simp));have HST2 := zh (h.later hl2);have HT2 := zh (Tch.later (P := fun _ => False) hl2);clear hl2 h;go_enter Tryz.func118, Tryz.ntmps118;go_upto_region 1 with (fail);rw [← hw2];clear hw2;obtain ⟨v0, v1, v2, v3, v4, v5⟩ := cz6 HV2.o
 rcases hv.1 with hk | hk
 ·obtain ⟨j, i, hj, hi, hjl, hil, -, hre⟩ := Zfd hv.2 hk;have hx : x = r.aA[j].aJ[i] := hy.trans hre;obtain ⟨AO, cO, hO, hcO, hcmO, hro⟩ := HST2.o.aA;obtain ⟨ob, oo, Ai, ci, Ak, ck, rfl, hFo, hobw, hcs, bP, -⟩ := Z3.objF hro hjl;obtain ⟨ib, io, rfl, hibw, ⟨c0, c1, c2, c3, c4, c5⟩, -⟩ := bP.vat hil;obtain ⟨Ai2, ci2, ei, hci, hcmi, -⟩ := id bP;cases ei;rw [← hx] at c0 c1 c2 c3 c4 c5;have HY := zh (And.intro c0 (And.intro c1 (And.intro c2 (And.intro c3 (And.intro c4 c5)))));have HC := zh hcs.2.2.2.1;have HO := zh hO;have HJ := zh hj;have HI := zh hi;have HK := zh hk;have hjl2 : (j : Int) < (r.aA.length : Int) := by omega
  have hil2 : (i : Int) < (r.aA[j].aJ.length : Int) := by omega
  obtain ⟨L, hL⟩ : ∃ L, r.aA[j].aJ.length = L := ⟨_, rfl⟩;rw [hL] at HC hil2;unfold maxLen at hcmO hcmi;rw [hk] at v0;have t0 := v0;clear hy hx hL hre hcs bP hro hO c0 c1 c2 c3 c4 c5 hFo hj hi hk hv hci hcO;go_upto_region 7 with (fail);refine Zax [13, 14] [] (by kernel_rfl) (fun W hW => ?_);have hlW : Za w2 W := by rw [hW]; exact (Za.refl _).drew
  clear hW;have HV4 := zC hlW HV2;have HR4 := zC hlW HR2;have HST4 := zh (HST2.o.later hlW);have HT4 := zh (HT2.o.la hlW);have HE2 := zh (show W.cell? ⟨B, 2, none⟩ = _ from (hlW.cell _ HST2.o.lt).trans HO.o);have HC3 := zh ((hlW.cell ⟨ob, oo + j * 5 + 3, none⟩ hobw).trans HC.o);have hobW : ob < W.heap.size := Nat.lt_of_lt_of_le hobw hlW.size;have hibW : ib < W.heap.size := Nat.lt_of_lt_of_le hibw hlW.size;have HY0 := zh ((hlW.cell ⟨ib, io + i * 6, none⟩ hibw).trans HY.o.1);have HY1 := zh ((hlW.cell ⟨ib, io + i * 6 + 1, none⟩ hibw).trans HY.o.2.1);have HY2 := zh ((hlW.cell ⟨ib, io + i * 6 + 2, none⟩ hibw).trans HY.o.2.2.1);have HY3 := zh ((hlW.cell ⟨ib, io + i * 6 + 3, none⟩ hibw).trans HY.o.2.2.2.1);have HY4 := zh ((hlW.cell ⟨ib, io + i * 6 + 4, none⟩ hibw).trans HY.o.2.2.2.2.1);have HY5 := zh ((hlW.cell ⟨ib, io + i * 6 + 5, none⟩ hibw).trans HY.o.2.2.2.2.2);clear hlW v0 v1 v2 v3 v4 v5 HO HC HY t0 HV2 HR2 HST2 HT2;refine tU 0 17 (v := ?_) rfl rfl (fun x hx => ?_) ?_;rotate_left
  ·go_simp;first|done|with_reducible rfl
  simp only [Act.put, nA, nB, nC];refine tU 1 18 (v := ?_) rfl rfl (fun x hx => ?_) ?_;rotate_left
  ·go_simp;first|done|with_reducible rfl
  simp only [Act.put, nA, nB, nC];refine tU 2 19 (v := ?_) rfl rfl (fun x hx => ?_) ?_;rotate_left
  ·go_simp;first|done|with_reducible rfl
  simp only [Act.put, nA, nB, nC];refine tU 3 20 (v := ?_) rfl rfl (fun x hx => ?_) ?_;rotate_left
  ·have hxv := (hx.block _ (Zb HV4.o)).trans HV4.o; have v0 := cell_of_row _ w.heap.size 0 _ _ _ hxv; have v1 := cell_of_row _ w.heap.size 1 _ _ _ hxv; have v2 := cell_of_row _ w.heap.size 2 _ _ _ hxv; have v3 := cell_of_row _ w.heap.size 3 _ _ _ hxv; have v4 := cell_of_row _ w.heap.size 4 _ _ _ hxv; have v5 := cell_of_row _ w.heap.size 5 _ _ _ hxv; simp only [nD, nE, nF] at v0 v1 v2 v3 v4 v5; have hxr := (hx.block _ (Zb HR4.o)).trans HR4.o; have r0 := cell_of_row _ (w.heap.size + 1) 0 _ _ _ hxr; have fr0 := frozen_of_row _ (w.heap.size + 1) 0 _ _ hxr; have r1 := cell_of_row _ (w.heap.size + 1) 1 _ _ _ hxr; have fr1 := frozen_of_row _ (w.heap.size + 1) 1 _ _ hxr; have r2 := cell_of_row _ (w.heap.size + 1) 2 _ _ _ hxr; have fr2 := frozen_of_row _ (w.heap.size + 1) 2 _ _ hxr; have r3 := cell_of_row _ (w.heap.size + 1) 3 _ _ _ hxr; have fr3 := frozen_of_row _ (w.heap.size + 1) 3 _ _ hxr; have r4 := cell_of_row _ (w.heap.size + 1) 4 _ _ _ hxr; have fr4 := frozen_of_row _ (w.heap.size + 1) 4 _ _ hxr; have r5 := cell_of_row _ (w.heap.size + 1) 5 _ _ _ hxr; have fr5 := frozen_of_row _ (w.heap.size + 1) 5 _ _ hxr; simp only [nD, nE, nF] at r0 r1 r2 r3 r4 r5; rw [HK.o] at v0; rw [HJ.o] at v1; rw [HI.o] at v2; have x2 := (hx.cell ⟨B, 2, none⟩ HST4.o.lt).trans HE2.o; have c3 := (hx.cell ⟨ob, oo + j * 5 + 3, none⟩ hobW).trans HC3.o; have y0 := (hx.cell ⟨ib, io + i * 6, none⟩ hibW).trans HY0.o; have y1 := (hx.cell ⟨ib, io + i * 6 + 1, none⟩ hibW).trans HY1.o; have y2 := (hx.cell ⟨ib, io + i * 6 + 2, none⟩ hibW).trans HY2.o; have y3 := (hx.cell ⟨ib, io + i * 6 + 3, none⟩ hibW).trans HY3.o; have y4 := (hx.cell ⟨ib, io + i * 6 + 4, none⟩ hibW).trans HY4.o; have y5 := (hx.cell ⟨ib, io + i * 6 + 5, none⟩ hibW).trans HY5.o; go_simp;first|done|with_reducible rfl
  simp only [Act.put, nA, nB, nC];refine tU 4 21 (v := ?_) rfl rfl (fun x hx => ?_) ?_;rotate_left
  ·go_simp;first|done|with_reducible rfl
  simp only [Act.put, nA, nB, nC];refine tU 5 22 (v := ?_) rfl rfl (fun x hx => ?_) ?_;rotate_left
  ·have hxv := (hx.block _ (Zb HV4.o)).trans HV4.o; have v0 := cell_of_row _ w.heap.size 0 _ _ _ hxv; have v1 := cell_of_row _ w.heap.size 1 _ _ _ hxv; have v2 := cell_of_row _ w.heap.size 2 _ _ _ hxv; have v3 := cell_of_row _ w.heap.size 3 _ _ _ hxv; have v4 := cell_of_row _ w.heap.size 4 _ _ _ hxv; have v5 := cell_of_row _ w.heap.size 5 _ _ _ hxv; simp only [nD, nE, nF] at v0 v1 v2 v3 v4 v5; have hxr := (hx.block _ (Zb HR4.o)).trans HR4.o; have r0 := cell_of_row _ (w.heap.size + 1) 0 _ _ _ hxr; have fr0 := frozen_of_row _ (w.heap.size + 1) 0 _ _ hxr; have r1 := cell_of_row _ (w.heap.size + 1) 1 _ _ _ hxr; have fr1 := frozen_of_row _ (w.heap.size + 1) 1 _ _ hxr; have r2 := cell_of_row _ (w.heap.size + 1) 2 _ _ _ hxr; have fr2 := frozen_of_row _ (w.heap.size + 1) 2 _ _ hxr; have r3 := cell_of_row _ (w.heap.size + 1) 3 _ _ _ hxr; have fr3 := frozen_of_row _ (w.heap.size + 1) 3 _ _ hxr; have r4 := cell_of_row _ (w.heap.size + 1) 4 _ _ _ hxr; have fr4 := frozen_of_row _ (w.heap.size + 1) 4 _ _ hxr; have r5 := cell_of_row _ (w.heap.size + 1) 5 _ _ _ hxr; have fr5 := frozen_of_row _ (w.heap.size + 1) 5 _ _ hxr; simp only [nD, nE, nF] at r0 r1 r2 r3 r4 r5; rw [HK.o] at v0; rw [HJ.o] at v1; rw [HI.o] at v2; have x2 := (hx.cell ⟨B, 2, none⟩ HST4.o.lt).trans HE2.o; have c3 := (hx.cell ⟨ob, oo + j * 5 + 3, none⟩ hobW).trans HC3.o; have y0 := (hx.cell ⟨ib, io + i * 6, none⟩ hibW).trans HY0.o; have y1 := (hx.cell ⟨ib, io + i * 6 + 1, none⟩ hibW).trans HY1.o; have y2 := (hx.cell ⟨ib, io + i * 6 + 2, none⟩ hibW).trans HY2.o; have y3 := (hx.cell ⟨ib, io + i * 6 + 3, none⟩ hibW).trans HY3.o; have y4 := (hx.cell ⟨ib, io + i * 6 + 4, none⟩ hibW).trans HY4.o; have y5 := (hx.cell ⟨ib, io + i * 6 + 5, none⟩ hibW).trans HY5.o; go_simp;first|done|with_reducible rfl
  simp only [Act.put, nA, nB, nC];refine tU 6 23 (v := ?_) rfl rfl (fun x hx => ?_) ?_;rotate_left
  ·go_simp;first|done|with_reducible rfl|rw[if_neg (by omega)]|rw[if_pos (by omega)]
  simp only [Act.put, nA, nB, nC];refine tU 7 24 (v := ?_) rfl rfl (fun x hx => ?_) ?_;rotate_left
  ·go_simp;first|done|with_reducible rfl
  simp only [Act.put, nA, nB, nC];refine tU 8 25 (v := ?_) rfl rfl (fun x hx => ?_) ?_;rotate_left
  ·have hxv := (hx.block _ (Zb HV4.o)).trans HV4.o; have v0 := cell_of_row _ w.heap.size 0 _ _ _ hxv; have v1 := cell_of_row _ w.heap.size 1 _ _ _ hxv; have v2 := cell_of_row _ w.heap.size 2 _ _ _ hxv; have v3 := cell_of_row _ w.heap.size 3 _ _ _ hxv; have v4 := cell_of_row _ w.heap.size 4 _ _ _ hxv; have v5 := cell_of_row _ w.heap.size 5 _ _ _ hxv; simp only [nD, nE, nF] at v0 v1 v2 v3 v4 v5; have hxr := (hx.block _ (Zb HR4.o)).trans HR4.o; have r0 := cell_of_row _ (w.heap.size + 1) 0 _ _ _ hxr; have fr0 := frozen_of_row _ (w.heap.size + 1) 0 _ _ hxr; have r1 := cell_of_row _ (w.heap.size + 1) 1 _ _ _ hxr; have fr1 := frozen_of_row _ (w.heap.size + 1) 1 _ _ hxr; have r2 := cell_of_row _ (w.heap.size + 1) 2 _ _ _ hxr; have fr2 := frozen_of_row _ (w.heap.size + 1) 2 _ _ hxr; have r3 := cell_of_row _ (w.heap.size + 1) 3 _ _ _ hxr; have fr3 := frozen_of_row _ (w.heap.size + 1) 3 _ _ hxr; have r4 := cell_of_row _ (w.heap.size + 1) 4 _ _ _ hxr; have fr4 := frozen_of_row _ (w.heap.size + 1) 4 _ _ hxr; have r5 := cell_of_row _ (w.heap.size + 1) 5 _ _ _ hxr; have fr5 := frozen_of_row _ (w.heap.size + 1) 5 _ _ hxr; simp only [nD, nE, nF] at r0 r1 r2 r3 r4 r5; rw [HK.o] at v0; rw [HJ.o] at v1; rw [HI.o] at v2; have x2 := (hx.cell ⟨B, 2, none⟩ HST4.o.lt).trans HE2.o; have c3 := (hx.cell ⟨ob, oo + j * 5 + 3, none⟩ hobW).trans HC3.o; have y0 := (hx.cell ⟨ib, io + i * 6, none⟩ hibW).trans HY0.o; have y1 := (hx.cell ⟨ib, io + i * 6 + 1, none⟩ hibW).trans HY1.o; have y2 := (hx.cell ⟨ib, io + i * 6 + 2, none⟩ hibW).trans HY2.o; have y3 := (hx.cell ⟨ib, io + i * 6 + 3, none⟩ hibW).trans HY3.o; have y4 := (hx.cell ⟨ib, io + i * 6 + 4, none⟩ hibW).trans HY4.o; have y5 := (hx.cell ⟨ib, io + i * 6 + 5, none⟩ hibW).trans HY5.o; go_simp;first|done|with_reducible rfl
  simp only [Act.put, nA, nB, nC];refine tU 9 26 (v := ?_) rfl rfl (fun x hx => ?_) ?_;rotate_left
  ·go_simp;first|done|with_reducible rfl
  simp only [Act.put, nA, nB, nC];refine tU 10 27 (v := ?_) rfl rfl (fun x hx => ?_) ?_;rotate_left
  ·have hxv := (hx.block _ (Zb HV4.o)).trans HV4.o; have v0 := cell_of_row _ w.heap.size 0 _ _ _ hxv; have v1 := cell_of_row _ w.heap.size 1 _ _ _ hxv; have v2 := cell_of_row _ w.heap.size 2 _ _ _ hxv; have v3 := cell_of_row _ w.heap.size 3 _ _ _ hxv; have v4 := cell_of_row _ w.heap.size 4 _ _ _ hxv; have v5 := cell_of_row _ w.heap.size 5 _ _ _ hxv; simp only [nD, nE, nF] at v0 v1 v2 v3 v4 v5; have hxr := (hx.block _ (Zb HR4.o)).trans HR4.o; have r0 := cell_of_row _ (w.heap.size + 1) 0 _ _ _ hxr; have fr0 := frozen_of_row _ (w.heap.size + 1) 0 _ _ hxr; have r1 := cell_of_row _ (w.heap.size + 1) 1 _ _ _ hxr; have fr1 := frozen_of_row _ (w.heap.size + 1) 1 _ _ hxr; have r2 := cell_of_row _ (w.heap.size + 1) 2 _ _ _ hxr; have fr2 := frozen_of_row _ (w.heap.size + 1) 2 _ _ hxr; have r3 := cell_of_row _ (w.heap.size + 1) 3 _ _ _ hxr; have fr3 := frozen_of_row _ (w.heap.size + 1) 3 _ _ hxr; have r4 := cell_of_row _ (w.heap.size + 1) 4 _ _ _ hxr; have fr4 := frozen_of_row _ (w.heap.size + 1) 4 _ _ hxr; have r5 := cell_of_row _ (w.heap.size + 1) 5 _ _ _ hxr; have fr5 := frozen_of_row _ (w.heap.size + 1) 5 _ _ hxr; simp only [nD, nE, nF] at r0 r1 r2 r3 r4 r5; rw [HK.o] at v0; rw [HJ.o] at v1; rw [HI.o] at v2; have x2 := (hx.cell ⟨B, 2, none⟩ HST4.o.lt).trans HE2.o; have c3 := (hx.cell ⟨ob, oo + j * 5 + 3, none⟩ hobW).trans HC3.o; have y0 := (hx.cell ⟨ib, io + i * 6, none⟩ hibW).trans HY0.o; have y1 := (hx.cell ⟨ib, io + i * 6 + 1, none⟩ hibW).trans HY1.o; have y2 := (hx.cell ⟨ib, io + i * 6 + 2, none⟩ hibW).trans HY2.o; have y3 := (hx.cell ⟨ib, io + i * 6 + 3, none⟩ hibW).trans HY3.o; have y4 := (hx.cell ⟨ib, io + i * 6 + 4, none⟩ hibW).trans HY4.o; have y5 := (hx.cell ⟨ib, io + i * 6 + 5, none⟩ hibW).trans HY5.o; go_simp;first|done|with_reducible rfl
  simp only [Act.put, nA, nB, nC];refine tU 11 28 (v := ?_) rfl rfl (fun x hx => ?_) ?_;rotate_left
  ·go_simp;first|done|with_reducible rfl|rw[if_neg (by omega)]|rw[if_pos (by omega)]
  simp only [Act.put, nA, nB, nC];refine tU 12 29 (v := ?_) rfl rfl (fun x hx => ?_) ?_;rotate_left
  ·have hxv := (hx.block _ (Zb HV4.o)).trans HV4.o; have v0 := cell_of_row _ w.heap.size 0 _ _ _ hxv; have v1 := cell_of_row _ w.heap.size 1 _ _ _ hxv; have v2 := cell_of_row _ w.heap.size 2 _ _ _ hxv; have v3 := cell_of_row _ w.heap.size 3 _ _ _ hxv; have v4 := cell_of_row _ w.heap.size 4 _ _ _ hxv; have v5 := cell_of_row _ w.heap.size 5 _ _ _ hxv; simp only [nD, nE, nF] at v0 v1 v2 v3 v4 v5; have hxr := (hx.block _ (Zb HR4.o)).trans HR4.o; have r0 := cell_of_row _ (w.heap.size + 1) 0 _ _ _ hxr; have fr0 := frozen_of_row _ (w.heap.size + 1) 0 _ _ hxr; have r1 := cell_of_row _ (w.heap.size + 1) 1 _ _ _ hxr; have fr1 := frozen_of_row _ (w.heap.size + 1) 1 _ _ hxr; have r2 := cell_of_row _ (w.heap.size + 1) 2 _ _ _ hxr; have fr2 := frozen_of_row _ (w.heap.size + 1) 2 _ _ hxr; have r3 := cell_of_row _ (w.heap.size + 1) 3 _ _ _ hxr; have fr3 := frozen_of_row _ (w.heap.size + 1) 3 _ _ hxr; have r4 := cell_of_row _ (w.heap.size + 1) 4 _ _ _ hxr; have fr4 := frozen_of_row _ (w.heap.size + 1) 4 _ _ hxr; have r5 := cell_of_row _ (w.heap.size + 1) 5 _ _ _ hxr; have fr5 := frozen_of_row _ (w.heap.size + 1) 5 _ _ hxr; simp only [nD, nE, nF] at r0 r1 r2 r3 r4 r5; rw [HK.o] at v0; rw [HJ.o] at v1; rw [HI.o] at v2; have x2 := (hx.cell ⟨B, 2, none⟩ HST4.o.lt).trans HE2.o; have c3 := (hx.cell ⟨ob, oo + j * 5 + 3, none⟩ hobW).trans HC3.o; have y0 := (hx.cell ⟨ib, io + i * 6, none⟩ hibW).trans HY0.o; have y1 := (hx.cell ⟨ib, io + i * 6 + 1, none⟩ hibW).trans HY1.o; have y2 := (hx.cell ⟨ib, io + i * 6 + 2, none⟩ hibW).trans HY2.o; have y3 := (hx.cell ⟨ib, io + i * 6 + 3, none⟩ hibW).trans HY3.o; have y4 := (hx.cell ⟨ib, io + i * 6 + 4, none⟩ hibW).trans HY4.o; have y5 := (hx.cell ⟨ib, io + i * 6 + 5, none⟩ hibW).trans HY5.o; go_simp;first|done|with_reducible rfl
  simp only [Act.put, nA, nB, nC];refine Za7 [_, _] (by kernel_rfl) rfl rfl ?_;simp only [List.getElem_toArray, List.getElem_cons_succ, List.getElem_cons_zero];obtain ⟨r0, r1, r2, r3, r4, r5⟩ := cz6 HR4.o;have fr0 := fz HR4.o;go_wp2_with fail;have hvs := Zaf (F := fun b => b ≠ w.heap.size + 1) (B := w.heap.size + 1) (w := W) (fun h => h rfl) [.int .i64 x.kind, .int .i64 x.aH, .int .i64 x.index, .string x.text, .int .i64 x.set_.low, .int .i64 x.set_.high] W 0 (Ze.refl _ _);have ht := HT4.o.trans (Q := fun b => b = w.heap.size + 1) (R := fun _ => False) ⟨hvs, Zae (Nat.zero_le _) [.int .i64 x.kind, .int .i64 x.aH, .int .i64 x.index, .string x.text, .int .i64 x.set_.low, .int .i64 x.set_.high] _ 0 (Below.refl _ _)⟩ (fun _ h => h) (fun b hl e => by omega);simp only [Zz, Nat.zero_add, Nat.reduceAdd] at ht;exact bodyPost_ret (v := .tuple #[.agg #[.int .i64 x.kind, .int .i64 x.aH, .int .i64 x.index, .string x.text, .int .i64 x.set_.low, .int .i64 x.set_.high], .int .i64 0]) (by simp [results, Tryz.results118, go_sem, r0, r1, r2, r3, r4, r5, fr0]) rfl ⟨rfl, ht⟩
 ·obtain ⟨i, hi, hil, hre⟩ := Zex hv.2 hk;have hx : x = r.globals[i] := hy.trans hre;obtain ⟨AO, cO, hO, hcO, hcmO, hro⟩ := HST2.o.globals;obtain ⟨ib, io, rfl, hibw, ⟨c0, c1, c2, c3, c4, c5⟩, -⟩ := hro.vat hil;rw [← hx] at c0 c1 c2 c3 c4 c5;have HY := zh (And.intro c0 (And.intro c1 (And.intro c2 (And.intro c3 (And.intro c4 c5)))));have HO := zh hO;have HI := zh hi;have HK := zh hk;have hil2 : (i : Int) < (r.globals.length : Int) := by omega
  unfold maxLen at hcmO;rw [hk] at v0;have t0 := v0;clear hy hx hre hro hO c0 c1 c2 c3 c4 c5 hi hk hv hcO;go_upto_region 13 with (fail);refine Zax [8, 9] [] (by kernel_rfl) (fun W hW => ?_);have hlW : Za w2 W := by rw [hW]; exact (Za.refl _).drew
  clear hW;have HV4 := zC hlW HV2;have HR4 := zC hlW HR2;have HST4 := zh (HST2.o.later hlW);have HT4 := zh (HT2.o.la hlW);have HE2 := zh (show W.cell? ⟨B, 3, none⟩ = _ from (hlW.cell _ HST2.o.lt).trans HO.o);have hibW : ib < W.heap.size := Nat.lt_of_lt_of_le hibw hlW.size;have HY0 := zh ((hlW.cell ⟨ib, io + i * 6, none⟩ hibw).trans HY.o.1);have HY1 := zh ((hlW.cell ⟨ib, io + i * 6 + 1, none⟩ hibw).trans HY.o.2.1);have HY2 := zh ((hlW.cell ⟨ib, io + i * 6 + 2, none⟩ hibw).trans HY.o.2.2.1);have HY3 := zh ((hlW.cell ⟨ib, io + i * 6 + 3, none⟩ hibw).trans HY.o.2.2.2.1);have HY4 := zh ((hlW.cell ⟨ib, io + i * 6 + 4, none⟩ hibw).trans HY.o.2.2.2.2.1);have HY5 := zh ((hlW.cell ⟨ib, io + i * 6 + 5, none⟩ hibw).trans HY.o.2.2.2.2.2);clear hlW v0 v1 v2 v3 v4 v5 HO HY t0 HV2 HR2 HST2 HT2;refine tU 0 61 (v := ?_) rfl rfl (fun x hx => ?_) ?_;rotate_left
  ·go_simp;first|done|with_reducible rfl
  simp only [Act.put, nA, nB, nC];refine tU 1 62 (v := ?_) rfl rfl (fun x hx => ?_) ?_;rotate_left
  ·go_simp;first|done|with_reducible rfl
  simp only [Act.put, nA, nB, nC];refine tU 2 63 (v := ?_) rfl rfl (fun x hx => ?_) ?_;rotate_left
  ·go_simp;first|done|with_reducible rfl
  simp only [Act.put, nA, nB, nC];refine tU 3 64 (v := ?_) rfl rfl (fun x hx => ?_) ?_;rotate_left
  ·have hxv := (hx.block _ (Zb HV4.o)).trans HV4.o; have v0 := cell_of_row _ w.heap.size 0 _ _ _ hxv; have v1 := cell_of_row _ w.heap.size 1 _ _ _ hxv; have v2 := cell_of_row _ w.heap.size 2 _ _ _ hxv; have v3 := cell_of_row _ w.heap.size 3 _ _ _ hxv; have v4 := cell_of_row _ w.heap.size 4 _ _ _ hxv; have v5 := cell_of_row _ w.heap.size 5 _ _ _ hxv; simp only [nD, nE, nF] at v0 v1 v2 v3 v4 v5; have hxr := (hx.block _ (Zb HR4.o)).trans HR4.o; have r0 := cell_of_row _ (w.heap.size + 1) 0 _ _ _ hxr; have fr0 := frozen_of_row _ (w.heap.size + 1) 0 _ _ hxr; have r1 := cell_of_row _ (w.heap.size + 1) 1 _ _ _ hxr; have fr1 := frozen_of_row _ (w.heap.size + 1) 1 _ _ hxr; have r2 := cell_of_row _ (w.heap.size + 1) 2 _ _ _ hxr; have fr2 := frozen_of_row _ (w.heap.size + 1) 2 _ _ hxr; have r3 := cell_of_row _ (w.heap.size + 1) 3 _ _ _ hxr; have fr3 := frozen_of_row _ (w.heap.size + 1) 3 _ _ hxr; have r4 := cell_of_row _ (w.heap.size + 1) 4 _ _ _ hxr; have fr4 := frozen_of_row _ (w.heap.size + 1) 4 _ _ hxr; have r5 := cell_of_row _ (w.heap.size + 1) 5 _ _ _ hxr; have fr5 := frozen_of_row _ (w.heap.size + 1) 5 _ _ hxr; simp only [nD, nE, nF] at r0 r1 r2 r3 r4 r5; rw [HK.o] at v0; rw [HI.o] at v2; have x2 := (hx.cell ⟨B, 3, none⟩ HST4.o.lt).trans HE2.o; have y0 := (hx.cell ⟨ib, io + i * 6, none⟩ hibW).trans HY0.o; have y1 := (hx.cell ⟨ib, io + i * 6 + 1, none⟩ hibW).trans HY1.o; have y2 := (hx.cell ⟨ib, io + i * 6 + 2, none⟩ hibW).trans HY2.o; have y3 := (hx.cell ⟨ib, io + i * 6 + 3, none⟩ hibW).trans HY3.o; have y4 := (hx.cell ⟨ib, io + i * 6 + 4, none⟩ hibW).trans HY4.o; have y5 := (hx.cell ⟨ib, io + i * 6 + 5, none⟩ hibW).trans HY5.o; go_simp;first|done|with_reducible rfl
  simp only [Act.put, nA, nB, nC];refine tU 4 65 (v := ?_) rfl rfl (fun x hx => ?_) ?_;rotate_left
  ·go_simp;first|done|with_reducible rfl
  simp only [Act.put, nA, nB, nC];refine tU 5 66 (v := ?_) rfl rfl (fun x hx => ?_) ?_;rotate_left
  ·have hxv := (hx.block _ (Zb HV4.o)).trans HV4.o; have v0 := cell_of_row _ w.heap.size 0 _ _ _ hxv; have v1 := cell_of_row _ w.heap.size 1 _ _ _ hxv; have v2 := cell_of_row _ w.heap.size 2 _ _ _ hxv; have v3 := cell_of_row _ w.heap.size 3 _ _ _ hxv; have v4 := cell_of_row _ w.heap.size 4 _ _ _ hxv; have v5 := cell_of_row _ w.heap.size 5 _ _ _ hxv; simp only [nD, nE, nF] at v0 v1 v2 v3 v4 v5; have hxr := (hx.block _ (Zb HR4.o)).trans HR4.o; have r0 := cell_of_row _ (w.heap.size + 1) 0 _ _ _ hxr; have fr0 := frozen_of_row _ (w.heap.size + 1) 0 _ _ hxr; have r1 := cell_of_row _ (w.heap.size + 1) 1 _ _ _ hxr; have fr1 := frozen_of_row _ (w.heap.size + 1) 1 _ _ hxr; have r2 := cell_of_row _ (w.heap.size + 1) 2 _ _ _ hxr; have fr2 := frozen_of_row _ (w.heap.size + 1) 2 _ _ hxr; have r3 := cell_of_row _ (w.heap.size + 1) 3 _ _ _ hxr; have fr3 := frozen_of_row _ (w.heap.size + 1) 3 _ _ hxr; have r4 := cell_of_row _ (w.heap.size + 1) 4 _ _ _ hxr; have fr4 := frozen_of_row _ (w.heap.size + 1) 4 _ _ hxr; have r5 := cell_of_row _ (w.heap.size + 1) 5 _ _ _ hxr; have fr5 := frozen_of_row _ (w.heap.size + 1) 5 _ _ hxr; simp only [nD, nE, nF] at r0 r1 r2 r3 r4 r5; rw [HK.o] at v0; rw [HI.o] at v2; have x2 := (hx.cell ⟨B, 3, none⟩ HST4.o.lt).trans HE2.o; have y0 := (hx.cell ⟨ib, io + i * 6, none⟩ hibW).trans HY0.o; have y1 := (hx.cell ⟨ib, io + i * 6 + 1, none⟩ hibW).trans HY1.o; have y2 := (hx.cell ⟨ib, io + i * 6 + 2, none⟩ hibW).trans HY2.o; have y3 := (hx.cell ⟨ib, io + i * 6 + 3, none⟩ hibW).trans HY3.o; have y4 := (hx.cell ⟨ib, io + i * 6 + 4, none⟩ hibW).trans HY4.o; have y5 := (hx.cell ⟨ib, io + i * 6 + 5, none⟩ hibW).trans HY5.o; go_simp;first|done|with_reducible rfl
  simp only [Act.put, nA, nB, nC];refine tU 6 67 (v := ?_) rfl rfl (fun x hx => ?_) ?_;rotate_left
  ·go_simp;first|done|with_reducible rfl|rw[if_neg (by omega)]|rw[if_pos (by omega)]
  simp only [Act.put, nA, nB, nC];refine tU 7 68 (v := ?_) rfl rfl (fun x hx => ?_) ?_;rotate_left
  ·have hxv := (hx.block _ (Zb HV4.o)).trans HV4.o; have v0 := cell_of_row _ w.heap.size 0 _ _ _ hxv; have v1 := cell_of_row _ w.heap.size 1 _ _ _ hxv; have v2 := cell_of_row _ w.heap.size 2 _ _ _ hxv; have v3 := cell_of_row _ w.heap.size 3 _ _ _ hxv; have v4 := cell_of_row _ w.heap.size 4 _ _ _ hxv; have v5 := cell_of_row _ w.heap.size 5 _ _ _ hxv; simp only [nD, nE, nF] at v0 v1 v2 v3 v4 v5; have hxr := (hx.block _ (Zb HR4.o)).trans HR4.o; have r0 := cell_of_row _ (w.heap.size + 1) 0 _ _ _ hxr; have fr0 := frozen_of_row _ (w.heap.size + 1) 0 _ _ hxr; have r1 := cell_of_row _ (w.heap.size + 1) 1 _ _ _ hxr; have fr1 := frozen_of_row _ (w.heap.size + 1) 1 _ _ hxr; have r2 := cell_of_row _ (w.heap.size + 1) 2 _ _ _ hxr; have fr2 := frozen_of_row _ (w.heap.size + 1) 2 _ _ hxr; have r3 := cell_of_row _ (w.heap.size + 1) 3 _ _ _ hxr; have fr3 := frozen_of_row _ (w.heap.size + 1) 3 _ _ hxr; have r4 := cell_of_row _ (w.heap.size + 1) 4 _ _ _ hxr; have fr4 := frozen_of_row _ (w.heap.size + 1) 4 _ _ hxr; have r5 := cell_of_row _ (w.heap.size + 1) 5 _ _ _ hxr; have fr5 := frozen_of_row _ (w.heap.size + 1) 5 _ _ hxr; simp only [nD, nE, nF] at r0 r1 r2 r3 r4 r5; rw [HK.o] at v0; rw [HI.o] at v2; have x2 := (hx.cell ⟨B, 3, none⟩ HST4.o.lt).trans HE2.o; have y0 := (hx.cell ⟨ib, io + i * 6, none⟩ hibW).trans HY0.o; have y1 := (hx.cell ⟨ib, io + i * 6 + 1, none⟩ hibW).trans HY1.o; have y2 := (hx.cell ⟨ib, io + i * 6 + 2, none⟩ hibW).trans HY2.o; have y3 := (hx.cell ⟨ib, io + i * 6 + 3, none⟩ hibW).trans HY3.o; have y4 := (hx.cell ⟨ib, io + i * 6 + 4, none⟩ hibW).trans HY4.o; have y5 := (hx.cell ⟨ib, io + i * 6 + 5, none⟩ hibW).trans HY5.o; go_simp;first|done|with_reducible rfl
  simp only [Act.put, nA, nB, nC];refine Za7 [_, _] (by kernel_rfl) rfl rfl ?_;simp only [List.getElem_toArray, List.getElem_cons_succ, List.getElem_cons_zero];obtain ⟨r0, r1, r2, r3, r4, r5⟩ := cz6 HR4.o;have fr0 := fz HR4.o;go_wp2_with fail;have hvs := Zaf (F := fun b => b ≠ w.heap.size + 1) (B := w.heap.size + 1) (w := W) (fun h => h rfl) [.int .i64 x.kind, .int .i64 x.aH, .int .i64 x.index, .string x.text, .int .i64 x.set_.low, .int .i64 x.set_.high] W 0 (Ze.refl _ _);have ht := HT4.o.trans (Q := fun b => b = w.heap.size + 1) (R := fun _ => False) ⟨hvs, Zae (Nat.zero_le _) [.int .i64 x.kind, .int .i64 x.aH, .int .i64 x.index, .string x.text, .int .i64 x.set_.low, .int .i64 x.set_.high] _ 0 (Below.refl _ _)⟩ (fun _ h => h) (fun b hl e => by omega);simp only [Zz, Nat.zero_add, Nat.reduceAdd] at ht;exact bodyPost_ret (v := .tuple #[.agg #[.int .i64 x.kind, .int .i64 x.aH, .int .i64 x.index, .string x.text, .int .i64 x.set_.low, .int .i64 x.set_.high], .int .i64 0]) (by simp [results, Tryz.results118, go_sem, r0, r1, r2, r3, r4, r5, fr0]) rfl ⟨rfl, ht⟩
end Go.Proofs.YtpmhelkiicigfaaGreatDoor
