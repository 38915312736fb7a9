/- Part of the walks that the claim stands on. -/
import Derived.Test.YtcmmdchjppaimaaGreatDoorS3
import Derived.Test.YtcmmdchjppaimaaGreatDoorS1
import Derived.Test.YtcmmdchjppaimaaGreatDoorS2
import Derived.BigQuiet
import Derived.WalkKit
import Derived.WalkSpells
import Derived.WalkLawsBesides
import Derived.Outline
import Derived.Deep.DeepCutAuto
set_option maxRecDepth 1000000
set_option maxHeartbeats 40000000
namespace Go.Proofs.YtcmmdchjppaimaaGreatDoor
open Go.RowKit
theorem Zqe (N : Nat) (F : Nat → Prop) (w : World) (u : Zt) (A1 A2 A3 : Option Addr) (k1 k2 k3 : Nat) (hu : UV N F w u A1 A2 A3 k1 k2 k3) (ht : Spc w) (hok : okU (N + 1) u = true) : Calls Tryz.prog 103 #[.agg #[.slice A1 u.aA.length k1, .slice A2 u.globals.length k2, .slice A3 u.procedures.length k3]] w fun e w' => ∃ z l : Int, e = .returned (.tuple #[.int .i64 z, .int .i64 l]) ∧ (z = 0 ↔ Zy0 u) ∧ Below w.heap.size w w' := by
 have HPL := zh (Za9 hok);have HOK := zh hok;obtain ⟨iS, hiS, hz0, hz1, hz2⟩ := info_parts Zd2;have HU := zh hu;obtain ⟨hn1, hn2, hn3⟩ := hu.len;obtain ⟨wb, hlwb, HB, hwb⟩ := aN w (.cells #[.slice A1 u.aA.length k1, .slice A2 u.globals.length k2, .slice A3 u.procedures.length k3] 52);replace HB := zh HB;have HLb := zh hlwb;have HT := zh (ht.below hlwb);clear ht;clear hlwb hu;obtain ⟨h8, h12, h12'⟩ := HPL.o;clear hok;obtain ⟨wc, hla, hsb, hwc⟩ := aN wb (.cells #[] Zc3);obtain ⟨ws, hlc, hsc, hws⟩ := aN wc (.cells #[.slice (some ⟨wb.heap.size, 0, none⟩) 0 0] TSs);have HLS := zh (Zb.trans hla hlc);have hcs : wb.heap.size < wc.heap.size := Za hsb;have HSS := zh (show Zjl wb wc.heap.size ws [] from ⟨_, hsc, Zax.fresh ((hlc.block _ (Za hsb)).trans hsb) (Nat.le_refl _), fun e => absurd (show wb.heap.size = wc.heap.size from Option.some.inj e) (Nat.ne_of_lt hcs), Nat.le_of_lt hcs⟩);obtain ⟨SB, hSB⟩ : ∃ z, wc.heap.size = z := ⟨_, rfl⟩;rw [hSB] at HSS;have HSTART := zh (⟨hwc, hws, hSB⟩ : _ ∧ _ ∧ _);clear hla hsb hlc hsc hcs hwc hws hSB;have g0 := cz3 HB.o;have fg0 := fz HB.o;go_enter Tryz.func103, Tryz.ntmps103;obtain ⟨hwc, hws, hSB⟩ := HSTART.o;go_upto_region 3 with (fail);clear hwc hws hSB;clear g0 fg0;have HBs := zB HLS HB;have g0 := cz3 HBs.o;have fg0 := fz HBs.o;go_wp2_with fail
 go_loopw [7, 17] (fun _ iv wr => ∃ j : Nat, j ≤ u.aA.length ∧ iv = .int .i64 j ∧ Hd (∀ i (h : i < u.aA.length), i < j → Zov u i u.aA[i] = true) ∧ Zjl wb SB wr ((Zba u).take j) ∧ Zb wb wr) (fun _ iv _ => u.aA.length - (intOf iv).toNat)
 case atStart => exact ⟨0, Nat.zero_le _, rfl, zh (fun i _ h => by omega), HSS.o, HLS.o⟩
 case round =>
  obtain ⟨j, hj, rfl, HJ1, hsn, hl⟩ := hrel;rename_i wr;have HL := zh hl;have HSr := zh hsn;clear hl hsn;clear g0 fg0;have HBk := zB HL HB;have g0 := cz3 HBk.o;have fg0 := fz HBk.o
  by_cases hlt : j < u.aA.length
  ·have hlt' : (j : Int) < (u.aA.length : Int) := by omega
   have HUr := zh (HU.o.later (HLb.o.trans HL.o));obtain ⟨pb, po, As, ks, eA, hat⟩ := HUr.o.rct hlt;cases eA;have hfl := hat.len;obtain ⟨r, hv_⟩ : ∃ z, z = u.aA[j] := ⟨_, rfl⟩;rw [← hv_] at hat;have HV_ := zh hv_;have HAT := zh hat;have d0 := hat.c0;have d1 := hat.c1;have d2 := hat.c2;clear hat hv_;obtain ⟨w4, hla, HRB, hw4⟩ := aN wr (.cells #[.string r.name, .slice As r.fields.length ks, .int .i64 r.line] 101);replace HRB := zh HRB;have HA4 := zh hla;have HL4 := zh (Zb.trans HL.o hla);have HW4 := zh hw4;obtain ⟨RB, hRB⟩ : ∃ z, wr.heap.size = z := ⟨_, rfl⟩;rw [hRB] at HRB;have HRE := zh hRB;clear hla hw4 hRB;go_upto_region 6 with (fail);rw [HW4.o, HRE.o];clear d0 d1 d2;obtain ⟨r0, r1, r2⟩ := cz3 HRB.o;have fr0 := fz HRB.o;have HOKJ := zh (show Zov u j u.aA[j] = (!(tkB ((Zba u).take j) r.name) && !twB r.fields) by rw [← HV_.o]; rfl);obtain ⟨t, ht⟩ : ∃ z, z = tkB ((Zba u).take j) r.name := ⟨_, rfl⟩;rw [← ht] at HOKJ;have HTK := zh ht;clear ht;go_wp2_with fail;refine (Zgk wb wr w4 SB _ r.name HSr.o HA4.o HL4.o HT.o (by simp [Zba]; omega) HAT.o.nm).mono ?_;rintro e w5 ⟨rfl, hs5, hk5, hl5⟩;rw [← HTK.o];have HS5 := zh (show Zjl wb SB w5 ((Zba u).take (j + 1)) by rw [show (Zba u).take (j + 1) = (Zba u).take j ++ [r.name] by rw [HV_.o]; exact Zfj hlt]; exact hs5);have HL5 := zh hl5;have HSZ5 := zh hk5.size;have HR5 := zh ((hk5.same RB (by rw [HRE.o]; exact Nat.le_refl _) (Za HRB.o)).trans HRB.o);clear hs5 hk5 hl5;clear r0 r1 r2 fr0;obtain ⟨r0, r1, r2⟩ := cz3 HR5.o
   have fr0 := fz HR5.o
   cases t with
   | true =>
    go_upto_region 7 with (fail);refine Zb8 (fun W hW => ?_);have hlW : Zb w5 W := by rw [hW]; exact (Zb.refl _).drew
    have HLW := zh hlW;have HEW := yC hlW HR5;clear hlW hW;clear r0 r1 r2 fr0;obtain ⟨r0, r1, r2⟩ := cz3 HEW.o;have fr0 := fz HEW.o
    repeat go_big_quiet_step (fail)
    refine wpQuiet_nil ?_;go_wp2_with fail
    go_ret2
    exact ⟨2, _, rfl, ⟨fun h => (by cases h), fun h => absurd (h.rc j hlt) (by rw [HOKJ.o]; simp)⟩, HLb.o.trans (HL5.o.trans HLW.o)⟩
   | false =>
   go_wp2_with fail;refine (Zij r.fields _ F w5 ((HAT.o.fl.later Zg HA4.o).keep Zg (fun _ h => h) (Zc.ofLater0 (HU.o.later HLb.o).flt HL4.o HL5.o HSZ5.o))).mono ?_;rintro e w6 ⟨rfl, hb⟩;obtain ⟨t2, ht2⟩ : ∃ z, z = twB r.fields := ⟨_, rfl⟩;rw [← ht2];rw [← ht2] at HOKJ;have HL6 := zh (HL5.o.trans hb);have HS6 := zh (HS5.o.later hb);have HR6 := yC hb HR5;clear hb ht2;clear r0 r1 r2 fr0;obtain ⟨r0, r1, r2⟩ := cz3 HR6.o;have fr0 := fz HR6.o
   cases t2 with
   | true =>
    go_upto_region 7 with (fail);refine Zb8 (fun W hW => ?_);have hlW : Zb w6 W := by rw [hW]; exact (Zb.refl _).drew
    have HLW := zh hlW;have HEW := yC hlW HR6;clear hlW hW;clear r0 r1 r2 fr0;obtain ⟨r0, r1, r2⟩ := cz3 HEW.o;have fr0 := fz HEW.o
    repeat go_big_quiet_step (fail)
    refine wpQuiet_nil ?_;go_wp2_with fail
    go_ret2
    exact ⟨2, _, rfl, ⟨fun h => (by cases h), fun h => absurd (h.rc j hlt) (by rw [HOKJ.o]; simp)⟩, HLb.o.trans (HL6.o.trans HLW.o)⟩
   | false =>
    go_wp2_with fail
    go_roundw
    case rel => exact ⟨j + 1, by omega, by go_num, zh (Zda HJ1.o (fun hi => by rw [HOKJ.o]; rfl)), HS6.o, HL6.o⟩
    case measure => simp [intOf]; omega
  ·obtain rfl : j = u.aA.length := by omega
   clear hlt;go_wp2_with fail
   go_loopw [9, 36] (fun _ iv wr => ∃ j : Nat, j ≤ u.globals.length ∧ iv = .int .i64 j ∧ Hd (∀ i (h : i < u.globals.length), i < j → Zow u i u.globals[i] = true) ∧ Zjl wb SB wr (Zba u ++ u.globals.take j) ∧ Zb wb wr) (fun _ iv _ => u.globals.length - (intOf iv).toNat)
   case atStart => exact ⟨0, Nat.zero_le _, rfl, zh (fun i _ h => by omega), by rw [List.take_zero, List.append_nil]; have h := HSr.o; rw [show u.aA.length = (Zba u).length by simp [Zba], List.take_length] at h; exact h, HL.o⟩
   case round =>
    obtain ⟨j, hj, rfl, HJ2, hsn, hl⟩ := hrel;rename_i wr;have HL := zh hl;have HSr := zh hsn;clear hl hsn;clear g0 fg0;have HBk := zB HL HB;have g0 := cz3 HBk.o;have fg0 := fz HBk.o
    by_cases hlt : j < u.globals.length
    ·have hlt' : (j : Int) < (u.globals.length : Int) := by omega
     obtain ⟨A', c', eA, _, _, hel⟩ := (HU.o.later (HLb.o.trans HL.o)).gl;cases eA;obtain ⟨gb, go, cs, rfl, -, hgb, ⟨rfl, hgz⟩, hgc⟩ := hel j hlt;have d0 := hgc 0 _ rfl;simp only [Nat.mul_one, Nat.add_zero] at d0;clear hgc hel;obtain ⟨g, hv_⟩ : ∃ z, z = u.globals[j] := ⟨_, rfl⟩;rw [← hv_] at d0 hgz;have HV_ := zh hv_;clear hv_;have HOKJ := zh (show Zow u j u.globals[j] = !(tkB (Zba u ++ u.globals.take j) g) by rw [← HV_.o]; rfl);obtain ⟨t, ht⟩ : ∃ z, z = tkB (Zba u ++ u.globals.take j) g := ⟨_, rfl⟩;rw [← ht] at HOKJ;have HTK := zh ht;clear ht;go_wp2_with fail;refine (Zgk wb wr wr SB _ g HSr.o (Zb.refl _) HL.o HT.o (by simp [Zba]; omega) hgz).mono ?_;rintro e w5 ⟨rfl, hs5, hk5, hl5⟩;rw [← HTK.o];have HS5 := zh (show Zjl wb SB w5 (Zba u ++ u.globals.take (j + 1)) by rw [List.take_succ_eq_append_getElem hlt, ← List.append_assoc, ← HV_.o]; exact hs5);have HL5 := zh hl5;have HSZ5 := zh hk5.size;clear hs5 hk5 hl5
     cases t with
     | true =>
      go_wp2_with fail
      go_ret2
      exact ⟨2, _, rfl, ⟨fun h => (by cases h), fun h => absurd (h.gl j hlt) (by rw [HOKJ.o]; simp)⟩, HLb.o.trans HL5.o⟩
     | false =>
      go_wp2_with fail
      go_roundw
      case rel => exact ⟨j + 1, by omega, by go_num, zh (Zda HJ2.o (fun hi => by rw [HOKJ.o]; rfl)), HS5.o, HL5.o⟩
      case measure => simp [intOf]; omega
    ·obtain rfl : j = u.globals.length := by omega
     clear hlt;go_wp2_with fail
     go_loopw [11, 47] (fun _ iv wr => ∃ j : Nat, j ≤ u.procedures.length ∧ iv = .int .i64 j ∧ Hd (∀ i (h : i < u.procedures.length), i < j → Zox u i u.procedures[i] = true) ∧ Zjl wb SB wr ((Zba u ++ u.globals) ++ (Zdd u).take j) ∧ Zb wb wr) (fun _ iv _ => u.procedures.length - (intOf iv).toNat)
     case atStart => exact ⟨0, Nat.zero_le _, rfl, zh (fun i _ h => by omega), by rw [List.take_zero, List.append_nil]; have h := HSr.o; rw [List.take_length] at h; exact h, HL.o⟩
     case round =>
      obtain ⟨j, hj, rfl, HJ3, hsn, hl⟩ := hrel;rename_i wr;have HL := zh hl;have HSr := zh hsn;clear hl hsn;clear g0 fg0;have HBk := zB HL HB;have g0 := cz3 HBk.o;have fg0 := fz HBk.o
      by_cases hlt : j < u.procedures.length
      ·have hlt' : (j : Int) < (u.procedures.length : Int) := by omega
       have HUr := zh (HU.o.later (HLb.o.trans HL.o));obtain ⟨pb, po, Ap, Al, Ab, kp, kl, kb, eA, hat⟩ := HUr.o.proc hlt;cases eA;have hlp := hat.lp;have hll := hat.ll;obtain ⟨q, hv_⟩ : ∃ z, z = u.procedures[j] := ⟨_, rfl⟩;rw [← hv_] at hat;have HV_ := zh hv_;have HAT := zh hat;have d0 := hat.c0;have d1 := hat.c1;have d2 := hat.c2;have d3 := hat.c3;have d4 := hat.c4;have d5 := hat.c5;have d6 := hat.c6;have d7 := hat.c7;have d8 := hat.c8;clear hat hv_;obtain ⟨w4, hla, HRB, hw4⟩ := aN wr (.cells #[.string q.name, .slice Ap q.params.length kp, .slice Al q.locals.length kl, .int .i64 q.body.kind, .string q.body.text, .int .i64 q.body.aB, .int .i64 q.body.line, .slice Ab q.body.kids.length kb, .int .i64 q.line] 106);replace HRB := zh HRB;have HA4 := zh hla;have HL4 := zh (Zb.trans HL.o hla);have HW4 := zh hw4;obtain ⟨QB, hRB⟩ : ∃ z, wr.heap.size = z := ⟨_, rfl⟩;rw [hRB] at HRB;have HRE := zh hRB;clear hla hw4 hRB;go_upto_region 18 with (fail);rw [HW4.o, HRE.o];clear d0 d1 d2 d3 d4 d5 d6 d7 d8;have HOKJ := zh (show Zox u j u.procedures[j] = (!(tkB ((Zba u ++ u.globals) ++ (Zdd u).take j) q.name) && !twB (q.params ++ q.locals)) by rw [← HV_.o]; rfl);have HOQ := zh (show q.params.length ≤ 6 ∧ q.locals.length ≤ 8 by rw [HV_.o]; have := Zcg (Zex HOK.o hlt); exact ⟨this.1, this.2.1⟩);have HLEN := zh (show ((Zba u ++ u.globals) ++ (Zdd u).take j).length ≤ 1000000 by simp [Zba, Zdd]; omega);obtain ⟨t, ht⟩ : ∃ z, z = tkB ((Zba u ++ u.globals) ++ (Zdd u).take j) q.name := ⟨_, rfl⟩
       rw [← ht] at HOKJ
       cases t with
       | true =>
        have HTK := zh (show tkB ((Zba u ++ u.globals) ++ (Zdd u).take j) q.name = true from ht.symm);clear ht;go_upto_region 18 with (fail);refine Zap [] [] (fun z => z.heap[QB]? = some (.cells #[.string q.name, .slice Ap q.params.length kp, .slice Al q.locals.length kl, .int .i64 q.body.kind, .string q.body.text, .int .i64 q.body.aB, .int .i64 q.body.line, .slice Ab q.body.kids.length kb, .int .i64 q.line] 106 (0, 0))) (by kernel_rfl) (fun W hW => ?_);have hlW : Zb w4 W := by rw [hW]; exact (Zb.refl _).drew
        have HLW := zh hlW;have HSQ := zh (show W.heap[QB]? = some (.cells #[.string q.name, .slice Ap q.params.length kp, .slice Al q.locals.length kl, .int .i64 q.body.kind, .string q.body.text, .int .i64 q.body.aB, .int .i64 q.body.line, .slice Ab q.body.kids.length kb, .int .i64 q.line] 106 (0, 0)) from (hlW.block _ (Za HRB.o)).trans HRB.o);clear hlW hW;refine uV 0 51 HSQ.o ?_;simp only [yN];refine uV 1 52 HSQ.o ?_;simp only [yN];refine uV 2 53 HSQ.o (hy := fun x hx => by have hx1 := hx; obtain ⟨r0, r1, r2, r3, r4, r5, r6, r7, r8⟩ := cz9 hx1; have fr0 := fz hx1; go_simp <;> with_reducible rfl) ?_;simp only [yN];refine Zv 3 (by kernel_rfl) rfl rfl ?_;go_wp2_with fail;refine (Zgk wb wr W SB _ q.name HSr.o (HA4.o.trans HLW.o) (HL4.o.trans HLW.o) HT.o HLEN.o HAT.o.nm).mono ?_;rintro e w5 ⟨rfl, hs5, hk5, hl5⟩;rw [HTK.o];have HS5 := zh (show Zjl wb SB w5 ((Zba u ++ u.globals) ++ (Zdd u).take (j + 1)) by rw [show (Zdd u).take (j + 1) = (Zdd u).take j ++ [q.name] by rw [HV_.o]; exact Zfj hlt, ← List.append_assoc]; exact hs5);have HL5 := zh hl5;have HSZ5 := zh hk5.size;have HSQ := zh (show w5.heap[QB]? = some (.cells #[.string q.name, .slice Ap q.params.length kp, .slice Al q.locals.length kl, .int .i64 q.body.kind, .string q.body.text, .int .i64 q.body.aB, .int .i64 q.body.line, .slice Ab q.body.kids.length kb, .int .i64 q.line] 106 (0, 0)) from (hk5.same QB (by rw [HRE.o]; exact Nat.le_refl _) (Za HSQ.o)).trans HSQ.o);have HSQF := HSQ
        clear hs5 hk5 hl5;go_wp2_with fail;refine ⟨HSQ.o, ?_⟩;refine uV 4 55 HSQ.o ?_;simp only [yN];refine Zes 5 (some 56) rfl rfl (by kernel_rfl) (fun _ _ _ h => h) rfl HSQ.o ?_;simp only [yN];refine Zes 6 (some 57) rfl rfl (by kernel_rfl) (fun _ _ _ h => h) rfl HSQ.o ?_;simp only [yN];refine Zes 7 (some 58) rfl rfl (by kernel_rfl) (fun _ _ _ h => h) rfl HSQ.o ?_;simp only [yN];refine Zes 8 (some 59) rfl rfl (by kernel_rfl) (fun _ _ _ h => h) rfl HSQ.o ?_;simp only [yN];refine Zes 9 (some 60) rfl rfl (by kernel_rfl) (fun _ _ _ h => h) rfl HSQ.o ?_;simp only [yN];refine Zes 10 (some 61) rfl rfl (by kernel_rfl) (fun _ _ _ h => h) rfl HSQ.o ?_;simp only [yN];refine Zes 11 (some 62) rfl rfl (by kernel_rfl) (fun _ _ _ h => h) rfl HSQ.o ?_;simp only [yN];refine Zes 12 (some 63) rfl rfl (by kernel_rfl) (fun _ _ _ h => h) rfl HSQ.o ?_;simp only [yN];refine uV 13 64 HSQ.o ?_;simp only [yN];refine Zay [] (by kernel_rfl) rfl rfl ?_;obtain ⟨r0, r1, r2, r3, r4, r5, r6, r7, r8⟩ := cz9 HSQ.o;have fr0 := fz HSQ.o;go_upto_region 19 with (fail);refine Zb8 (fun W hW => ?_);have hlW : Zb w5 W := by rw [hW]; exact (Zb.refl _).drew
        have HLW := zh hlW;have HEW := yC hlW HSQ;clear hlW hW;clear r0 fr0 r1 r2 r3 r4 r5 r6 r7 r8;obtain ⟨r0, r1, r2, r3, r4, r5, r6, r7, r8⟩ := cz9 HEW.o;have fr0 := fz HEW.o
        repeat go_big_quiet_step (fail)
        refine wpQuiet_nil ?_;go_wp2_with fail
        go_ret2
        exact ⟨2, _, rfl, ⟨fun h => (by cases h), fun h => absurd (h.pr j hlt) (by rw [HOKJ.o]; simp)⟩, HLb.o.trans (HL5.o.trans HLW.o)⟩
       | false =>
        have HTK := zh (show tkB ((Zba u ++ u.globals) ++ (Zdd u).take j) q.name = false from ht.symm);clear ht;go_upto_region 18 with (fail);refine Zap [11, 12, 13] [] (fun z => z.heap[QB]? = some (.cells #[.string q.name, .slice Ap q.params.length kp, .slice Al q.locals.length kl, .int .i64 q.body.kind, .string q.body.text, .int .i64 q.body.aB, .int .i64 q.body.line, .slice Ab q.body.kids.length kb, .int .i64 q.line] 106 (0, 0))) (by kernel_rfl) (fun W hW => ?_);have hlW : Zb w4 W := by rw [hW]; exact (Zb.refl _).drew
        have HLW := zh hlW;have HSQ := zh (show W.heap[QB]? = some (.cells #[.string q.name, .slice Ap q.params.length kp, .slice Al q.locals.length kl, .int .i64 q.body.kind, .string q.body.text, .int .i64 q.body.aB, .int .i64 q.body.line, .slice Ab q.body.kids.length kb, .int .i64 q.line] 106 (0, 0)) from (hlW.block _ (Za HRB.o)).trans HRB.o);clear hlW hW;refine uV 0 51 HSQ.o ?_;simp only [yN];refine uV 1 52 HSQ.o ?_;simp only [yN];refine uV 2 53 HSQ.o (hy := fun x hx => by have hx1 := hx; obtain ⟨r0, r1, r2, r3, r4, r5, r6, r7, r8⟩ := cz9 hx1; have fr0 := fz hx1; go_simp <;> with_reducible rfl) ?_;simp only [yN];refine Zv 3 (by kernel_rfl) rfl rfl ?_;go_wp2_with fail;refine (Zgk wb wr W SB _ q.name HSr.o (HA4.o.trans HLW.o) (HL4.o.trans HLW.o) HT.o HLEN.o HAT.o.nm).mono ?_;rintro e w5 ⟨rfl, hs5, hk5, hl5⟩;rw [HTK.o];have HS5 := zh (show Zjl wb SB w5 ((Zba u ++ u.globals) ++ (Zdd u).take (j + 1)) by rw [show (Zdd u).take (j + 1) = (Zdd u).take j ++ [q.name] by rw [HV_.o]; exact Zfj hlt, ← List.append_assoc]; exact hs5);have HL5 := zh hl5;have HSZ5 := zh hk5.size;have HSQ := zh (show w5.heap[QB]? = some (.cells #[.string q.name, .slice Ap q.params.length kp, .slice Al q.locals.length kl, .int .i64 q.body.kind, .string q.body.text, .int .i64 q.body.aB, .int .i64 q.body.line, .slice Ab q.body.kids.length kb, .int .i64 q.line] 106 (0, 0)) from (hk5.same QB (by rw [HRE.o]; exact Nat.le_refl _) (Za HSQ.o)).trans HSQ.o);have HSQF := HSQ
        clear hs5 hk5 hl5;go_wp2_with fail;refine ⟨HSQ.o, ?_⟩;have HPS := zh ((HAT.o.ps.later Zg (HA4.o.trans HLW.o)).keep Zg (fun _ h => h) (Zc.ofLater0 (HU.o.later HLb.o).flt (HL4.o.trans HLW.o) HL5.o HSZ5.o));have HLS5 := zh ((HAT.o.ls.later Zg (HA4.o.trans HLW.o)).keep Zg (fun _ h => h) (Zc.ofLater0 (HU.o.later HLb.o).flt (HL4.o.trans HLW.o) HL5.o HSZ5.o));have hp6 := HOQ.o.1;have hp8 := HOQ.o.2;refine uV 4 55 HSQ.o ?_;simp only [yN];refine uV 6 57 HSQ.o ?_;simp only [yN];refine uV 7 58 HSQ.o (hy := fun x hx => by have hx1 := hx; obtain ⟨r0, r1, r2, r3, r4, r5, r6, r7, r8⟩ := cz9 hx1; have fr0 := fz hx1; go_simp <;> with_reducible rfl) ?_;simp only [yN];refine uV 9 60 HSQ.o ?_;simp only [yN];refine uV 10 61 HSQ.o (hy := fun x hx => by have hx1 := hx; obtain ⟨r0, r1, r2, r3, r4, r5, r6, r7, r8⟩ := cz9 hx1; have fr0 := fz hx1; go_simp <;> with_reducible rfl) ?_;simp only [yN];refine Zv 5 (by kernel_rfl) rfl rfl ?_;go_wp2_with fail;have HXA := zh (show Zb w5 (w5.alloc (.cells #[] Zc3)) from (Zb.refl _).alloc _);have HSQ := zh (show (w5.alloc (.cells #[] Zc3)).heap[QB]? = some (.cells #[.string q.name, .slice Ap q.params.length kp, .slice Al q.locals.length kl, .int .i64 q.body.kind, .string q.body.text, .int .i64 q.body.aB, .int .i64 q.body.line, .slice Ab q.body.kids.length kb, .int .i64 q.line] 106 (0, 0)) from (HXA.o.block _ (Za HSQ.o)).trans HSQ.o);refine ⟨HSQ.o, ?_⟩;refine Zv 8 (by kernel_rfl) rfl rfl ?_
        simp only [gA, gB, gC]
        go_wp2_with (at_builtin; go_loud (refine Zd8 (w0 := w5) (by first | rfl | simp [Region.wanted, yielded]) _ _ 24 rfl iS Tryz.underlying24 hiS hz0 hz1 hz2 rfl (Zco rfl) (Nat.le_refl _) HXA.o rfl (HPS.o.later Zg HXA.o) (by omega) ?_); intro v1 Y1 h1 hl1)
        have HN1 := zh h1;have HY1 := zh (HXA.o.trans hl1);have HSQ := zh (show Y1.heap[QB]? = some (.cells #[.string q.name, .slice Ap q.params.length kp, .slice Al q.locals.length kl, .int .i64 q.body.kind, .string q.body.text, .int .i64 q.body.aB, .int .i64 q.body.line, .slice Ab q.body.kids.length kb, .int .i64 q.line] 106 (0, 0)) from (hl1.block _ (Za HSQ.o)).trans HSQ.o);clear h1 hl1;refine ⟨HSQ.o, ?_⟩;refine Zay [_, _, _] (by kernel_rfl) rfl rfl ?_;simp only [gA, gB, gC]
        go_wp2_with (at_builtin; go_loud (refine Zep (w0 := w5) (by first | rfl | simp [Region.wanted, yielded]) _ _ 24 rfl iS Tryz.underlying24 hiS hz0 hz1 hz2 rfl HN1.o HY1.o rfl (HLS5.o.later Zg HY1.o) (by omega) ?_); intro v2 Y2 h2 hg2; have HN2 := zh h2; have HY2 := zh (hg2.later0 HY1.o fun b e => (HN1.o.own e).1); clear h2 hg2)
        refine (Zij _ v2 _ Y2 HN2.o.is).mono ?_;rintro e w6 ⟨rfl, hb⟩;obtain ⟨t2, ht2⟩ : ∃ z, z = twB (q.params ++ q.locals) := ⟨_, rfl⟩;rw [← ht2];rw [← ht2] at HOKJ;have HY6 := zh (Zb.trans HY2.o hb);have HL6 := zh (HL5.o.trans HY6.o);have HS6 := zh (HS5.o.later HY6.o);have HR6 := zB HY6 HSQF;clear hb ht2;obtain ⟨r0, r1, r2, r3, r4, r5, r6, r7, r8⟩ := cz9 HR6.o;have fr0 := fz HR6.o
        cases t2 with
        | true =>
         go_upto_region 19 with (fail);refine Zb8 (fun W hW => ?_);have hlW : Zb w6 W := by rw [hW]; exact (Zb.refl _).drew
         have HLW := zh hlW;have HEW := yC hlW HR6;clear hlW hW;clear r0 fr0 r1 r2 r3 r4 r5 r6 r7 r8;obtain ⟨r0, r1, r2, r3, r4, r5, r6, r7, r8⟩ := cz9 HEW.o;have fr0 := fz HEW.o
         repeat go_big_quiet_step (fail)
         refine wpQuiet_nil ?_;go_wp2_with fail
         go_ret2
         exact ⟨2, _, rfl, ⟨fun h => (by cases h), fun h => absurd (h.pr j hlt) (by rw [HOKJ.o]; simp)⟩, HLb.o.trans (HL6.o.trans HLW.o)⟩
        | false =>
         go_wp2_with fail
         go_roundw
         case rel => exact ⟨j + 1, by omega, by go_num, zh (Zda HJ3.o (fun hi => by rw [HOKJ.o]; rfl)), HS6.o, HL6.o⟩
         case measure => simp [intOf]; omega
      ·obtain rfl : j = u.procedures.length := by omega
       clear hlt;go_wp2_with fail
       go_ret2
       exact ⟨0, _, rfl, ⟨fun _ => ⟨fun i hi => HJ1.o i hi hi, fun i hi => HJ2.o i hi hi, fun i hi => HJ3.o i hi hi⟩, fun _ => rfl⟩, HLb.o.trans HL.o⟩
section
def FkA (UB EB i : Nat) (lp md : Bool) (a : Act) : Prop := Fr 119 [(1, .int .i64 i), (3, .bool lp), (4, .bool md), (5, .pointer (some ⟨UB, 0, none⟩)), (7, .pointer (some ⟨EB, 0, none⟩))] a
section
variable {UB EB i : Nat} {lp md : Bool} {a : Act}
theorem FkA.opn (h : FkA UB EB i lp md a) : ∃ f : Nat → Value, a = ⟨#[f 0, .int .i64 i, f 2, .bool lp, .bool md, .pointer (some ⟨UB, 0, none⟩), f 6, .pointer (some ⟨EB, 0, none⟩), f 8, f 9, f 10, f 11, f 12, f 13, f 14, f 15, f 16, f 17, f 18, f 19, f 20, f 21, f 22, f 23, f 24, f 25, f 26, f 27, f 28, f 29, f 30, f 31, f 32, f 33, f 34, f 35, f 36, f 37, f 38, f 39, f 40, f 41, f 42, f 43, f 44, f 45, f 46, f 47, f 48, f 49, f 50, f 51, f 52, f 53, f 54, f 55, f 56, f 57, f 58, f 59, f 60, f 61, f 62, f 63, f 64, f 65, f 66, f 67, f 68, f 69, f 70, f 71, f 72, f 73, f 74, f 75, f 76, f 77, f 78, f 79, f 80, f 81, f 82, f 83, f 84, f 85, f 86, f 87, f 88, f 89, f 90, f 91, f 92, f 93, f 94, f 95, f 96, f 97, f 98, f 99, f 100, f 101, f 102, f 103, f 104, f 105, f 106, f 107, f 108, f 109, f 110, f 111, f 112, f 113, f 114, f 115, f 116, f 117, f 118], []⟩ := by
 obtain ⟨f, e, hf⟩ := Fr.lit h;obtain ⟨h1, h3, h4, h5, h7, -⟩ := h.has;refine ⟨f, e.trans ?_⟩;have k1 := Zi h1 (hf 1 (by omega));have k3 := Zi h3 (hf 3 (by omega));have k4 := Zi h4 (hf 4 (by omega));have k5 := Zi h5 (hf 5 (by omega));have k7 := Zi h7 (hf 7 (by omega));rw [← k1];rw [← k3];rw [← k4];rw [← k5];rw [← k7]
 rfl
theorem FkA.mk' {A : Array Value} (hs : A.size = 119) (h1 : A[1]? = some (.int .i64 i)) (h3 : A[3]? = some (.bool lp)) (h4 : A[4]? = some (.bool md)) (h5 : A[5]? = some (.pointer (some ⟨UB, 0, none⟩))) (h7 : A[7]? = some (.pointer (some ⟨EB, 0, none⟩))) : FkA UB EB i lp md ⟨A, []⟩ := ⟨hs, rfl, h1, h3, h4, h5, h7, trivial⟩
end
def FkS (UB EB i : Nat) (lp md : Bool) (kd : Int) (a : Act) : Prop := Fr 119 [(1, .int .i64 i), (3, .bool lp), (4, .bool md), (5, .pointer (some ⟨UB, 0, none⟩)), (7, .pointer (some ⟨EB, 0, none⟩)), (23, .int .i64 kd)] a
section
variable {UB EB i : Nat} {lp md : Bool} {kd : Int} {a : Act}
theorem FkS.opn (h : FkS UB EB i lp md kd a) : ∃ f : Nat → Value, a = ⟨#[f 0, .int .i64 i, f 2, .bool lp, .bool md, .pointer (some ⟨UB, 0, none⟩), f 6, .pointer (some ⟨EB, 0, none⟩), f 8, f 9, f 10, f 11, f 12, f 13, f 14, f 15, f 16, f 17, f 18, f 19, f 20, f 21, f 22, .int .i64 kd, f 24, f 25, f 26, f 27, f 28, f 29, f 30, f 31, f 32, f 33, f 34, f 35, f 36, f 37, f 38, f 39, f 40, f 41, f 42, f 43, f 44, f 45, f 46, f 47, f 48, f 49, f 50, f 51, f 52, f 53, f 54, f 55, f 56, f 57, f 58, f 59, f 60, f 61, f 62, f 63, f 64, f 65, f 66, f 67, f 68, f 69, f 70, f 71, f 72, f 73, f 74, f 75, f 76, f 77, f 78, f 79, f 80, f 81, f 82, f 83, f 84, f 85, f 86, f 87, f 88, f 89, f 90, f 91, f 92, f 93, f 94, f 95, f 96, f 97, f 98, f 99, f 100, f 101, f 102, f 103, f 104, f 105, f 106, f 107, f 108, f 109, f 110, f 111, f 112, f 113, f 114, f 115, f 116, f 117, f 118], []⟩ := by
 obtain ⟨f, e, hf⟩ := Fr.lit h;obtain ⟨h1, h3, h4, h5, h7, h23, -⟩ := h.has;refine ⟨f, e.trans ?_⟩;have k1 := Zi h1 (hf 1 (by omega));have k3 := Zi h3 (hf 3 (by omega));have k4 := Zi h4 (hf 4 (by omega));have k5 := Zi h5 (hf 5 (by omega));have k7 := Zi h7 (hf 7 (by omega));have k23 := Zi h23 (hf 23 (by omega));rw [← k1];rw [← k3];rw [← k4];rw [← k5];rw [← k7];rw [← k23]
 rfl
theorem FkS.mk' {A : Array Value} (hs : A.size = 119) (h1 : A[1]? = some (.int .i64 i)) (h3 : A[3]? = some (.bool lp)) (h4 : A[4]? = some (.bool md)) (h5 : A[5]? = some (.pointer (some ⟨UB, 0, none⟩))) (h7 : A[7]? = some (.pointer (some ⟨EB, 0, none⟩))) (h23 : A[23]? = some (.int .i64 kd)) : FkS UB EB i lp md kd ⟨A, []⟩ := ⟨hs, rfl, h1, h3, h4, h5, h7, h23, trivial⟩
end
def FkR (z l : Int) (a : Act) : Prop := Fr 119 [(10, .int .i64 z), (11, .int .i64 l)] a
section
variable {z l : Int} {a : Act}
theorem FkR.opn (h : FkR z l a) : ∃ f : Nat → Value, a = ⟨#[f 0, f 1, f 2, f 3, f 4, f 5, f 6, f 7, f 8, f 9, .int .i64 z, .int .i64 l, f 12, f 13, f 14, f 15, f 16, f 17, f 18, f 19, f 20, f 21, f 22, f 23, f 24, f 25, f 26, f 27, f 28, f 29, f 30, f 31, f 32, f 33, f 34, f 35, f 36, f 37, f 38, f 39, f 40, f 41, f 42, f 43, f 44, f 45, f 46, f 47, f 48, f 49, f 50, f 51, f 52, f 53, f 54, f 55, f 56, f 57, f 58, f 59, f 60, f 61, f 62, f 63, f 64, f 65, f 66, f 67, f 68, f 69, f 70, f 71, f 72, f 73, f 74, f 75, f 76, f 77, f 78, f 79, f 80, f 81, f 82, f 83, f 84, f 85, f 86, f 87, f 88, f 89, f 90, f 91, f 92, f 93, f 94, f 95, f 96, f 97, f 98, f 99, f 100, f 101, f 102, f 103, f 104, f 105, f 106, f 107, f 108, f 109, f 110, f 111, f 112, f 113, f 114, f 115, f 116, f 117, f 118], []⟩ := by
 obtain ⟨f, e, hf⟩ := Fr.lit h;obtain ⟨h10, h11, -⟩ := h.has;refine ⟨f, e.trans ?_⟩;have k10 := Zi h10 (hf 10 (by omega));have k11 := Zi h11 (hf 11 (by omega));rw [← k10];rw [← k11]
 rfl
theorem FkR.mk' {A : Array Value} (hs : A.size = 119) (h10 : A[10]? = some (.int .i64 z)) (h11 : A[11]? = some (.int .i64 l)) : FkR z l ⟨A, []⟩ := ⟨hs, rfl, h10, h11, trivial⟩
end
def FkL (UB EB i : Nat) (lp md : Bool) (Ak : Option Addr) (n kk j : Nat) (a : Act) : Prop := Fr 119 [(1, .int .i64 i), (3, .bool lp), (4, .bool md), (5, .pointer (some ⟨UB, 0, none⟩)), (7, .pointer (some ⟨EB, 0, none⟩)), (79, .slice Ak n kk), (80, .int .i64 n), (81, .int .i64 j)] a
section
variable {UB EB i : Nat} {lp md : Bool} {Ak : Option Addr} {n kk j : Nat} {a : Act}
theorem FkL.opn (h : FkL UB EB i lp md Ak n kk j a) : ∃ f : Nat → Value, a = ⟨#[f 0, .int .i64 i, f 2, .bool lp, .bool md, .pointer (some ⟨UB, 0, none⟩), f 6, .pointer (some ⟨EB, 0, none⟩), f 8, f 9, f 10, f 11, f 12, f 13, f 14, f 15, f 16, f 17, f 18, f 19, f 20, f 21, f 22, f 23, f 24, f 25, f 26, f 27, f 28, f 29, f 30, f 31, f 32, f 33, f 34, f 35, f 36, f 37, f 38, f 39, f 40, f 41, f 42, f 43, f 44, f 45, f 46, f 47, f 48, f 49, f 50, f 51, f 52, f 53, f 54, f 55, f 56, f 57, f 58, f 59, f 60, f 61, f 62, f 63, f 64, f 65, f 66, f 67, f 68, f 69, f 70, f 71, f 72, f 73, f 74, f 75, f 76, f 77, f 78, .slice Ak n kk, .int .i64 n, .int .i64 j, f 82, f 83, f 84, f 85, f 86, f 87, f 88, f 89, f 90, f 91, f 92, f 93, f 94, f 95, f 96, f 97, f 98, f 99, f 100, f 101, f 102, f 103, f 104, f 105, f 106, f 107, f 108, f 109, f 110, f 111, f 112, f 113, f 114, f 115, f 116, f 117, f 118], []⟩ := by
 obtain ⟨f, e, hf⟩ := Fr.lit h;obtain ⟨h1, h3, h4, h5, h7, h79, h80, h81, -⟩ := h.has;refine ⟨f, e.trans ?_⟩;have k1 := Zi h1 (hf 1 (by omega));have k3 := Zi h3 (hf 3 (by omega));have k4 := Zi h4 (hf 4 (by omega));have k5 := Zi h5 (hf 5 (by omega));have k7 := Zi h7 (hf 7 (by omega));have k79 := Zi h79 (hf 79 (by omega));have k80 := Zi h80 (hf 80 (by omega));have k81 := Zi h81 (hf 81 (by omega));rw [← k1];rw [← k3];rw [← k4];rw [← k5];rw [← k7];rw [← k79];rw [← k80];rw [← k81]
 rfl
theorem FkL.mk' {A : Array Value} (hs : A.size = 119) (h1 : A[1]? = some (.int .i64 i)) (h3 : A[3]? = some (.bool lp)) (h4 : A[4]? = some (.bool md)) (h5 : A[5]? = some (.pointer (some ⟨UB, 0, none⟩))) (h7 : A[7]? = some (.pointer (some ⟨EB, 0, none⟩))) (h79 : A[79]? = some (.slice Ak n kk)) (h80 : A[80]? = some (.int .i64 n)) (h81 : A[81]? = some (.int .i64 j)) : FkL UB EB i lp md Ak n kk j ⟨A, []⟩ := ⟨hs, rfl, h1, h3, h4, h5, h7, h79, h80, h81, trivial⟩
end
def FkI (UB EB i : Nat) (lp md : Bool) (Ak : Option Addr) (n kk j : Nat) (KB jj : Nat) (il : Bool) (kd : Int) (a : Act) : Prop := Fr 119 [(1, .int .i64 i), (3, .bool lp), (4, .bool md), (5, .pointer (some ⟨UB, 0, none⟩)), (7, .pointer (some ⟨EB, 0, none⟩)), (17, .int .i64 jj), (18, .pointer (some ⟨KB, 0, none⟩)), (19, .bool il), (79, .slice Ak n kk), (80, .int .i64 n), (81, .int .i64 j), (88, .int .i64 kd)] a
section
variable {UB EB i : Nat} {lp md : Bool} {Ak : Option Addr} {n kk j : Nat} {KB jj : Nat} {il : Bool} {kd : Int} {a : Act}
theorem FkI.opn (h : FkI UB EB i lp md Ak n kk j KB jj il kd a) : ∃ f : Nat → Value, a = ⟨#[f 0, .int .i64 i, f 2, .bool lp, .bool md, .pointer (some ⟨UB, 0, none⟩), f 6, .pointer (some ⟨EB, 0, none⟩), f 8, f 9, f 10, f 11, f 12, f 13, f 14, f 15, f 16, .int .i64 jj, .pointer (some ⟨KB, 0, none⟩), .bool il, f 20, f 21, f 22, f 23, f 24, f 25, f 26, f 27, f 28, f 29, f 30, f 31, f 32, f 33, f 34, f 35, f 36, f 37, f 38, f 39, f 40, f 41, f 42, f 43, f 44, f 45, f 46, f 47, f 48, f 49, f 50, f 51, f 52, f 53, f 54, f 55, f 56, f 57, f 58, f 59, f 60, f 61, f 62, f 63, f 64, f 65, f 66, f 67, f 68, f 69, f 70, f 71, f 72, f 73, f 74, f 75, f 76, f 77, f 78, .slice Ak n kk, .int .i64 n, .int .i64 j, f 82, f 83, f 84, f 85, f 86, f 87, .int .i64 kd, f 89, f 90, f 91, f 92, f 93, f 94, f 95, f 96, f 97, f 98, f 99, f 100, f 101, f 102, f 103, f 104, f 105, f 106, f 107, f 108, f 109, f 110, f 111, f 112, f 113, f 114, f 115, f 116, f 117, f 118], []⟩ := by
 obtain ⟨f, e, hf⟩ := Fr.lit h;obtain ⟨h1, h3, h4, h5, h7, h17, h18, h19, h79, h80, h81, h88, -⟩ := h.has;refine ⟨f, e.trans ?_⟩;have k1 := Zi h1 (hf 1 (by omega));have k3 := Zi h3 (hf 3 (by omega));have k4 := Zi h4 (hf 4 (by omega));have k5 := Zi h5 (hf 5 (by omega));have k7 := Zi h7 (hf 7 (by omega));have k17 := Zi h17 (hf 17 (by omega));have k18 := Zi h18 (hf 18 (by omega));have k19 := Zi h19 (hf 19 (by omega));have k79 := Zi h79 (hf 79 (by omega));have k80 := Zi h80 (hf 80 (by omega));have k81 := Zi h81 (hf 81 (by omega));have k88 := Zi h88 (hf 88 (by omega));rw [← k1];rw [← k3];rw [← k4];rw [← k5];rw [← k7];rw [← k17];rw [← k18];rw [← k19];rw [← k79];rw [← k80];rw [← k81];rw [← k88]
 rfl
theorem FkI.mk' {A : Array Value} (hs : A.size = 119) (h1 : A[1]? = some (.int .i64 i)) (h3 : A[3]? = some (.bool lp)) (h4 : A[4]? = some (.bool md)) (h5 : A[5]? = some (.pointer (some ⟨UB, 0, none⟩))) (h7 : A[7]? = some (.pointer (some ⟨EB, 0, none⟩))) (h17 : A[17]? = some (.int .i64 jj)) (h18 : A[18]? = some (.pointer (some ⟨KB, 0, none⟩))) (h19 : A[19]? = some (.bool il)) (h79 : A[79]? = some (.slice Ak n kk)) (h80 : A[80]? = some (.int .i64 n)) (h81 : A[81]? = some (.int .i64 j)) (h88 : A[88]? = some (.int .i64 kd)) : FkI UB EB i lp md Ak n kk j KB jj il kd ⟨A, []⟩ := ⟨hs, rfl, h1, h3, h4, h5, h7, h17, h18, h19, h79, h80, h81, h88, trivial⟩
end
def FkJ (UB EB i : Nat) (lp md : Bool) (Ak : Option Addr) (n kk j : Nat) (KB jj : Nat) (il : Bool) (a : Act) : Prop := Fr 119 [(1, .int .i64 i), (3, .bool lp), (4, .bool md), (5, .pointer (some ⟨UB, 0, none⟩)), (7, .pointer (some ⟨EB, 0, none⟩)), (17, .int .i64 jj), (18, .pointer (some ⟨KB, 0, none⟩)), (19, .bool il), (79, .slice Ak n kk), (80, .int .i64 n), (81, .int .i64 j)] a
section
variable {UB EB i : Nat} {lp md : Bool} {Ak : Option Addr} {n kk j : Nat} {KB jj : Nat} {il : Bool} {a : Act}
theorem FkJ.opn (h : FkJ UB EB i lp md Ak n kk j KB jj il a) : ∃ f : Nat → Value, a = ⟨#[f 0, .int .i64 i, f 2, .bool lp, .bool md, .pointer (some ⟨UB, 0, none⟩), f 6, .pointer (some ⟨EB, 0, none⟩), f 8, f 9, f 10, f 11, f 12, f 13, f 14, f 15, f 16, .int .i64 jj, .pointer (some ⟨KB, 0, none⟩), .bool il, f 20, f 21, f 22, f 23, f 24, f 25, f 26, f 27, f 28, f 29, f 30, f 31, f 32, f 33, f 34, f 35, f 36, f 37, f 38, f 39, f 40, f 41, f 42, f 43, f 44, f 45, f 46, f 47, f 48, f 49, f 50, f 51, f 52, f 53, f 54, f 55, f 56, f 57, f 58, f 59, f 60, f 61, f 62, f 63, f 64, f 65, f 66, f 67, f 68, f 69, f 70, f 71, f 72, f 73, f 74, f 75, f 76, f 77, f 78, .slice Ak n kk, .int .i64 n, .int .i64 j, f 82, f 83, f 84, f 85, f 86, f 87, f 88, f 89, f 90, f 91, f 92, f 93, f 94, f 95, f 96, f 97, f 98, f 99, f 100, f 101, f 102, f 103, f 104, f 105, f 106, f 107, f 108, f 109, f 110, f 111, f 112, f 113, f 114, f 115, f 116, f 117, f 118], []⟩ := by
 obtain ⟨f, e, hf⟩ := Fr.lit h;obtain ⟨h1, h3, h4, h5, h7, h17, h18, h19, h79, h80, h81, -⟩ := h.has;refine ⟨f, e.trans ?_⟩;have k1 := Zi h1 (hf 1 (by omega));have k3 := Zi h3 (hf 3 (by omega));have k4 := Zi h4 (hf 4 (by omega));have k5 := Zi h5 (hf 5 (by omega));have k7 := Zi h7 (hf 7 (by omega));have k17 := Zi h17 (hf 17 (by omega));have k18 := Zi h18 (hf 18 (by omega));have k19 := Zi h19 (hf 19 (by omega));have k79 := Zi h79 (hf 79 (by omega));have k80 := Zi h80 (hf 80 (by omega));have k81 := Zi h81 (hf 81 (by omega));rw [← k1];rw [← k3];rw [← k4];rw [← k5];rw [← k7];rw [← k17];rw [← k18];rw [← k19];rw [← k79];rw [← k80];rw [← k81]
 rfl
theorem FkJ.mk' {A : Array Value} (hs : A.size = 119) (h1 : A[1]? = some (.int .i64 i)) (h3 : A[3]? = some (.bool lp)) (h4 : A[4]? = some (.bool md)) (h5 : A[5]? = some (.pointer (some ⟨UB, 0, none⟩))) (h7 : A[7]? = some (.pointer (some ⟨EB, 0, none⟩))) (h17 : A[17]? = some (.int .i64 jj)) (h18 : A[18]? = some (.pointer (some ⟨KB, 0, none⟩))) (h19 : A[19]? = some (.bool il)) (h79 : A[79]? = some (.slice Ak n kk)) (h80 : A[80]? = some (.int .i64 n)) (h81 : A[81]? = some (.int .i64 j)) : FkJ UB EB i lp md Ak n kk j KB jj il ⟨A, []⟩ := ⟨hs, rfl, h1, h3, h4, h5, h7, h17, h18, h19, h79, h80, h81, trivial⟩
end
noncomputable def ckSw : Code := cR (cL (cR (Zal Tryz.f104)))
noncomputable def ckIn : Code := cR (cL (cR (cR (cB (cL (cR (cR (cB (cB (cR (cL (cR (cR (Zal Tryz.f104))))))))))))))
noncomputable def ckLp : Code := cR (cL (cR (cR (Zal Tryz.f104))))
structure Zxo (R : Bool) (UB EB i : Nat) (lp md : Bool) (w : World) (a : Act) (x : World) : Prop where
 r : R = true
 f : FkA UB EB i lp md a
 l : Zb w x
structure CkR (R : Bool) (w : World) (a : Act) (x : World) : Prop where
 r : R = false
 f : ∃ z l : Int, (z == 0) = false ∧ FkR z l a
 l : Zb w x
theorem Zhb {α : Type} {f : α → Bool} {l : List α} {j : Nat} (h : j < l.length) : (l.take (j + 1)).any f = ((l.take j).any f || f l[j]) := by
 rw [List.take_succ_eq_append_getElem h, List.any_append]; simp
end
theorem Zvc {a : Act} (N : Nat) (F : Nat → Prop) (w : World) (u : Zt) (A1 A2 A3 : Option Addr) (k1 k2 k3 : Nat) (L : List ByteArray) (i : Nat) (hi : i < u.procedures.length) (c : Ze) (A : Option Addr) (k : Nat) (UB EB : Nat) (lp md : Bool) (kd : Int) (HK : Hd (kd = c.kind)) (HU : Hd (UV N F w u A1 A2 A3 k1 k2 k3)) (HT : Hd (Spc w)) (HOK : Hd (okU (N + 1) u = true)) (HLN : Hd (L = Zbn u u.procedures[i])) (HUB : Hd (w.heap[UB]? = some (.cells #[.slice A1 u.aA.length k1, .slice A2 u.globals.length k2, .slice A3 u.procedures.length k3] 52 (0, 0)))) (HEB : Hd (w.heap[EB]? = some (.cells #[.int .i64 kd, .string c.text, .int .i64 c.aB, .int .i64 c.line, .slice A c.kids.length k] 104 (0, 0)))) (HF : Hd (FkS UB EB i lp md kd a)) :
  ckSw.wp Tryz.prog (Zkb (Zxo (ckN u L c lp md) UB EB i lp md w) (CkR (ckN u L c lp md) w)) a w := by
 obtain ⟨R, hR⟩ : ∃ z, z = ckN u L c lp md := ⟨_, rfl⟩;rw [← hR];have HR := zh hR;clear hR;obtain ⟨hn1, hn2, hn3⟩ := HU.o.len;have g0 := cz3 HUB.o;have fg0 := fz HUB.o;obtain ⟨c0, c1, c2, c3, c4⟩ := Z1 HEB.o;have fc0 := fz HEB.o;obtain ⟨fr, rfl⟩ := HF.o.opn;clear HF
 conv => arg 2; whnf
 go_upto_region 2 with (fail)
 by_cases h2 : kd = 24
 ·subst h2;have hr : R = lp := HR.o.trans (by unfold ckN; rw [← HK.o]; rfl)
  cases lp with
  | true =>
   obtain rfl := hr;go_wp2_with fail;exact ⟨rfl, FkA.mk' rfl rfl rfl rfl rfl rfl, Zb.refl _⟩
  | false =>
   obtain rfl := hr;go_upto_region 5 with (fail);refine Zb8 (fun W hW => ?_);have hlW : Zb w W := by rw [hW]; exact (Zb.refl _).drew
   have HLW := zh hlW;have HEW := yC hlW HEB;clear hlW hW;clear c0 fc0 c1 c2 c3 c4;obtain ⟨c0, c1, c2, c3, c4⟩ := Z1 HEW.o;have fc0 := fz HEW.o
   repeat go_big_quiet_step (fail)
   refine wpQuiet_nil ?_;go_wp2_with fail;exact ⟨rfl, ⟨4, _, rfl, FkR.mk' rfl rfl rfl⟩, HLW.o⟩
 have e2 : (kd == (24 : Int)) = false := nH.2 h2;have H2 := zh h2;clear h2;go_upto_region 3 with (fail);clear e2
 by_cases h3 : kd = 25
 ·subst h3;have hr : R = lp := HR.o.trans (by unfold ckN; rw [← HK.o]; rfl)
  cases lp with
  | true =>
   obtain rfl := hr;go_wp2_with fail;exact ⟨rfl, FkA.mk' rfl rfl rfl rfl rfl rfl, Zb.refl _⟩
  | false =>
   obtain rfl := hr;go_upto_region 5 with (fail);refine Zb8 (fun W hW => ?_);have hlW : Zb w W := by rw [hW]; exact (Zb.refl _).drew
   have HLW := zh hlW;have HEW := yC hlW HEB;clear hlW hW;clear c0 fc0 c1 c2 c3 c4;obtain ⟨c0, c1, c2, c3, c4⟩ := Z1 HEW.o;have fc0 := fz HEW.o
   repeat go_big_quiet_step (fail)
   refine wpQuiet_nil ?_;go_wp2_with fail;exact ⟨rfl, ⟨4, _, rfl, FkR.mk' rfl rfl rfl⟩, HLW.o⟩
 have e3 : (kd == (25 : Int)) = false := nH.2 h3;have H3 := zh h3;clear h3;go_upto_region 6 with (fail);clear e3
 by_cases h6 : kd = 21
 ·subst h6;have hr : R = !md := HR.o.trans (by unfold ckN; rw [← HK.o]; rfl)
  cases md with
  | false =>
   obtain rfl := hr;go_wp2_with fail;exact ⟨rfl, FkA.mk' rfl rfl rfl rfl rfl rfl, Zb.refl _⟩
  | true =>
   obtain rfl := hr;go_upto_region 10 with (fail);refine Zb8 (fun W hW => ?_);have hlW : Zb w W := by rw [hW]; exact (Zb.refl _).drew
   have HLW := zh hlW;have HEW := yC hlW HEB;clear hlW hW;clear c0 fc0 c1 c2 c3 c4;obtain ⟨c0, c1, c2, c3, c4⟩ := Z1 HEW.o;have fc0 := fz HEW.o
   repeat go_big_quiet_step (fail)
   refine wpQuiet_nil ?_;go_wp2_with fail;exact ⟨rfl, ⟨4, _, rfl, FkR.mk' rfl rfl rfl⟩, HLW.o⟩
 have e6 : (kd == (21 : Int)) = false := nH.2 h6;have H6 := zh h6;clear h6;go_upto_region 7 with (fail);clear e6
 by_cases h7 : kd = 22
 ·subst h7;have hr : R = !md := HR.o.trans (by unfold ckN; rw [← HK.o]; rfl)
  cases md with
  | false =>
   obtain rfl := hr;go_wp2_with fail;exact ⟨rfl, FkA.mk' rfl rfl rfl rfl rfl rfl, Zb.refl _⟩
  | true =>
   obtain rfl := hr;go_upto_region 10 with (fail);refine Zb8 (fun W hW => ?_);have hlW : Zb w W := by rw [hW]; exact (Zb.refl _).drew
   have HLW := zh hlW;have HEW := yC hlW HEB;clear hlW hW;clear c0 fc0 c1 c2 c3 c4;obtain ⟨c0, c1, c2, c3, c4⟩ := Z1 HEW.o;have fc0 := fz HEW.o
   repeat go_big_quiet_step (fail)
   refine wpQuiet_nil ?_;go_wp2_with fail;exact ⟨rfl, ⟨4, _, rfl, FkR.mk' rfl rfl rfl⟩, HLW.o⟩
 have e7 : (kd == (22 : Int)) = false := nH.2 h7;have H7 := zh h7;clear h7;go_upto_region 8 with (fail);clear e7
 by_cases h8 : kd = 23
 ·subst h8;have hr : R = !md := HR.o.trans (by unfold ckN; rw [← HK.o]; rfl)
  cases md with
  | false =>
   obtain rfl := hr;go_wp2_with fail;exact ⟨rfl, FkA.mk' rfl rfl rfl rfl rfl rfl, Zb.refl _⟩
  | true =>
   obtain rfl := hr;go_upto_region 10 with (fail);refine Zb8 (fun W hW => ?_);have hlW : Zb w W := by rw [hW]; exact (Zb.refl _).drew
   have HLW := zh hlW;have HEW := yC hlW HEB;clear hlW hW;clear c0 fc0 c1 c2 c3 c4;obtain ⟨c0, c1, c2, c3, c4⟩ := Z1 HEW.o;have fc0 := fz HEW.o
   repeat go_big_quiet_step (fail)
   refine wpQuiet_nil ?_;go_wp2_with fail;exact ⟨rfl, ⟨4, _, rfl, FkR.mk' rfl rfl rfl⟩, HLW.o⟩
 have e8 : (kd == (23 : Int)) = false := nH.2 h8;have H8 := zh h8;clear h8;go_upto_region 11 with (fail);clear e8
 by_cases h11 : kd = 13
 ·subst h11;have hr : R = Zor u c.text := HR.o.trans (by unfold ckN; rw [← HK.o]; rfl);go_wp2_with fail
  go_loopw [12, 14, 43] (fun fv _ iv wr => ∃ j : Nat, j ≤ u.aA.length ∧ iv = .int .i64 j ∧ fv = .bool ((u.aA.take j).any fun r => Zbm r.fields c.text) ∧ Zb w wr) (fun _ _ iv _ => u.aA.length - (intOf iv).toNat)
  case atStart => exact ⟨0, Nat.zero_le _, rfl, by simp, Zb.refl _⟩
  case round =>
   obtain ⟨j, hj, rfl, rfl, hl⟩ := hrel;rename_i wr;have HL := zh hl;have HEr := yC hl HEB;have HUr := yC hl HUB;clear hl;clear c0 fc0 c1 c2 c3 c4;clear g0 fg0;have g0 := cz3 HUr.o;have fg0 := fz HUr.o;obtain ⟨c0, c1, c2, c3, c4⟩ := Z1 HEr.o;have fc0 := fz HEr.o
   by_cases hlt : j < u.aA.length
   ·have hlt' : (j : Int) < (u.aA.length : Int) := by omega
    obtain ⟨pb, po, As, ks, eA, hat⟩ := (HU.o.later HL.o).rct hlt;cases eA;have hfl := hat.len;obtain ⟨r, hv_⟩ : ∃ z, z = u.aA[j] := ⟨_, rfl⟩;rw [← hv_] at hat hfl;have HV_ := zh hv_;have HAT := zh hat;have d0 := hat.c0;have d1 := hat.c1;have d2 := hat.c2;clear hat hv_;obtain ⟨w4, hla, HRB, hw4⟩ := aN wr (.cells #[.string r.name, .slice As r.fields.length ks, .int .i64 r.line] 101);replace HRB := zh HRB;have HA4 := zh hla;have HL4 := zh (Zb.trans HL.o hla);have HW4 := zh hw4;obtain ⟨RB, hRB⟩ : ∃ z, wr.heap.size = z := ⟨_, rfl⟩;rw [hRB] at HRB;have HRE := zh hRB;have HE4 := yC hla HEr;clear hla hw4 hRB;go_upto_region 16 with (fail);rw [HW4.o, HRE.o];clear d0 d1 d2;clear c0 fc0 c1 c2 c3 c4;have r0 := cz3 HRB.o;have fr0 := fz HRB.o;obtain ⟨c0, c1, c2, c3, c4⟩ := Z1 HE4.o;have fc0 := fz HE4.o;obtain ⟨t, ht⟩ : ∃ z, z = (u.aA.take j).any fun r => Zbm r.fields c.text := ⟨_, rfl⟩;rw [← ht];have HTT := zh ht;clear ht
    cases t with
    | true =>
     go_wp2_with fail
     go_roundw
     case rel => exact ⟨j + 1, by omega, by go_num, by rw [Zhb hlt, ← HTT.o]; rfl, HL4.o⟩
     case measure => simp [intOf]; omega
    | false =>
     go_wp2_with fail;refine (Zcn r.fields _ c.text F _ (HAT.o.fl.later Zg HA4.o)).mono ?_;rintro e w5 ⟨rfl, hw⟩;obtain rfl : w4 = w5 := hw.symm;obtain ⟨t2, ht2⟩ : ∃ z, z = Zbm r.fields c.text := ⟨_, rfl⟩;rw [← ht2];have HT2 := zh ht2;clear ht2 hw;go_wp2_with fail
     go_roundw
     case rel => exact ⟨j + 1, by omega, by go_num, by rw [Zhb hlt, ← HTT.o, ← HV_.o, ← HT2.o]; rfl, HL4.o⟩
     case measure => simp [intOf]; omega
   ·obtain rfl : j = u.aA.length := by omega
    have hr2 : R = (u.aA.take u.aA.length).any fun r => Zbm r.fields c.text := by rw [List.take_length]; exact hr
    obtain ⟨t, ht⟩ : ∃ z, z = (u.aA.take u.aA.length).any fun r => Zbm r.fields c.text := ⟨_, rfl⟩;rw [← ht] at hr2 ⊢;clear ht hr;subst hr2
    cases R with
    | true =>
     go_wp2_with fail;exact ⟨rfl, FkA.mk' rfl rfl rfl rfl rfl rfl, HL.o⟩
    | false =>
     go_upto_region 19 with (fail);refine Zb8 (fun W hW => ?_);have hlW : Zb wr W := by rw [hW]; exact (Zb.refl _).drew
     have HLW := zh hlW;have HEW := yC hlW HEr;clear hlW hW;clear c0 fc0 c1 c2 c3 c4;obtain ⟨c0, c1, c2, c3, c4⟩ := Z1 HEW.o;have fc0 := fz HEW.o
     repeat go_big_quiet_step (fail)
     refine wpQuiet_nil ?_;go_wp2_with fail;exact ⟨rfl, ⟨5, _, rfl, FkR.mk' rfl rfl rfl⟩, HL.o.trans HLW.o⟩
 have e11 : (kd == (13 : Int)) = false := nH.2 h11;have H11 := zh h11;clear h11;go_upto_region 20 with (fail);clear e11
 by_cases h20 : kd = 28
 ·subst h20;have hr : R = (((Zdb u L c.text).1 == 1) || ((Zdb u L c.text).1 == 2)) := HR.o.trans (by unfold ckN; rw [← HK.o]; rfl);go_wp2_with fail;refine (Zpc N F w u A1 A2 A3 k1 k2 k3 HU.o HT.o HOK.o i hi c.text).mono ?_;rintro e w2 ⟨rfl, hb⟩;rw [← HLN.o];have HL2 := zh (show Zb w w2 from hb);have HE2 := zB HL2 HEB;obtain ⟨z, hz⟩ : ∃ z, z = (Zdb u L c.text).1 := ⟨_, rfl⟩;obtain ⟨z', hz'⟩ : ∃ z, z = (Zdb u L c.text).2 := ⟨_, rfl⟩;rw [← hz] at hr ⊢;rw [← hz'];clear hb hz hz'
  by_cases h1 : z = 1
  ·subst h1;obtain rfl : R = true := hr;go_wp2_with fail;exact ⟨rfl, FkA.mk' rfl rfl rfl rfl rfl rfl, HL2.o⟩
  have e1 : (z == (1 : Int)) = false := nH.2 h1;have n1 : (z != (1 : Int)) = true := by rw [bne, e1]; rfl
  by_cases h2 : z = 2
  ·subst h2;obtain rfl : R = true := hr;go_wp2_with fail;exact ⟨rfl, FkA.mk' rfl rfl rfl rfl rfl rfl, HL2.o⟩
  have e2 : (z == (2 : Int)) = false := nH.2 h2;obtain rfl : R = false := by rw [hr, e1, e2]; rfl
  have n2 : (z != (2 : Int)) = true := by rw [bne, e2]; rfl
  clear h2 hr e1 e2;go_upto_region 23 with (fail);refine Zb8 (fun W hW => ?_);have hlW : Zb w2 W := by rw [hW]; exact (Zb.refl _).drew
  have HLW := zh hlW;have HEW := yC hlW HE2;clear hlW hW;clear c0 fc0 c1 c2 c3 c4;obtain ⟨c0, c1, c2, c3, c4⟩ := Z1 HEW.o;have fc0 := fz HEW.o
  repeat go_big_quiet_step (fail)
  refine wpQuiet_nil ?_;go_wp2_with fail;exact ⟨rfl, ⟨6, _, rfl, FkR.mk' rfl rfl rfl⟩, HL2.o.trans HLW.o⟩
 have e20 : (kd == (28 : Int)) = false := nH.2 h20;have H20 := zh h20;clear h20;obtain rfl : R = true := HR.o.trans (by have h2 := H2.o; have h3 := H3.o; have h6 := H6.o; have h7 := H7.o; have h8 := H8.o; have h11 := H11.o; have h20 := H20.o; unfold ckN; rw [← HK.o]; simp [h2, h3, h6, h7, h8, h11, h20]);go_wp2_with fail;exact ⟨rfl, FkA.mk' rfl rfl rfl rfl rfl rfl, Zb.refl _⟩
theorem Zvd {a : Act} (w : World) (UB EB i : Nat) (lp md : Bool) (Ak : Option Addr) (n kk j KB : Nat) (kd : Int) (HF : Hd (FkI UB EB i lp md Ak n kk j KB j lp kd a)) : ckIn.wp Tryz.prog (Zc0 fun a' x => FkJ UB EB i lp md Ak n kk j KB j (inL kd lp j) a' ∧ x = w) a w := by
 obtain ⟨R, hR⟩ : ∃ z, z = inL kd lp j := ⟨_, rfl⟩;rw [← hR];have HR := zh hR;clear hR;obtain ⟨fr, rfl⟩ := HF.o.opn;clear HF
 conv => arg 2; whnf
 go_upto_region 29 with (fail)
 by_cases h29 : kd = 16
 ·subst h29;have hv : R = ((j : Int) == (1 : Int)) := HR.o.trans (show (j == 1) = _ by rw [Bool.eq_iff_iff]; simp; omega);obtain ⟨t, ht⟩ : ∃ z, ((j : Int) == (1 : Int)) = z := ⟨_, rfl⟩;rw [ht] at hv;subst hv;go_wp2_with fail;exact ⟨FkJ.mk' rfl rfl rfl rfl rfl rfl rfl rfl rfl rfl rfl rfl, rfl⟩
 have e29 : (kd == (16 : Int)) = false := nH.2 h29;have H29 := zh h29;clear h29;go_upto_region 30 with (fail);clear e29
 by_cases h30 : kd = 17
 ·subst h30;have hv : R = ((j : Int) == (1 : Int)) := HR.o.trans (show (j == 1) = _ by rw [Bool.eq_iff_iff]; simp; omega);obtain ⟨t, ht⟩ : ∃ z, ((j : Int) == (1 : Int)) = z := ⟨_, rfl⟩;rw [ht] at hv;subst hv;go_wp2_with fail;exact ⟨FkJ.mk' rfl rfl rfl rfl rfl rfl rfl rfl rfl rfl rfl rfl, rfl⟩
 have e30 : (kd == (17 : Int)) = false := nH.2 h30;have H30 := zh h30;clear h30;go_upto_region 31 with (fail);clear e30
 by_cases h31 : kd = 18
 ·subst h31;have hv : R = ((j : Int) == (1 : Int)) := HR.o.trans (show (j == 1) = _ by rw [Bool.eq_iff_iff]; simp; omega);obtain ⟨t, ht⟩ : ∃ z, ((j : Int) == (1 : Int)) = z := ⟨_, rfl⟩;rw [ht] at hv;subst hv;go_wp2_with fail;exact ⟨FkJ.mk' rfl rfl rfl rfl rfl rfl rfl rfl rfl rfl rfl rfl, rfl⟩
 have e31 : (kd == (18 : Int)) = false := nH.2 h31;have H31 := zh h31;clear h31;go_upto_region 33 with (fail);clear e31
 by_cases h33 : kd = 19
 ·subst h33;obtain rfl : R = true := HR.o.trans rfl;go_wp2_with fail;exact ⟨FkJ.mk' rfl rfl rfl rfl rfl rfl rfl rfl rfl rfl rfl rfl, rfl⟩
 have e33 : (kd == (19 : Int)) = false := nH.2 h33;have H33 := zh h33;clear h33;go_upto_region 35 with (fail);clear e33
 by_cases h35 : kd = 26
 ·subst h35;obtain rfl : R = false := HR.o.trans rfl;go_wp2_with fail;exact ⟨FkJ.mk' rfl rfl rfl rfl rfl rfl rfl rfl rfl rfl rfl rfl, rfl⟩
 have e35 : (kd == (26 : Int)) = false := nH.2 h35;have H35 := zh h35;clear h35;go_upto_region 36 with (fail);clear e35
 by_cases h36 : kd = 24
 ·subst h36;obtain rfl : R = false := HR.o.trans rfl;go_wp2_with fail;exact ⟨FkJ.mk' rfl rfl rfl rfl rfl rfl rfl rfl rfl rfl rfl rfl, rfl⟩
 have e36 : (kd == (24 : Int)) = false := nH.2 h36;have H36 := zh h36;clear h36;obtain rfl : R = lp := HR.o.trans (by have h29 := H29.o; have h30 := H30.o; have h31 := H31.o; have h33 := H33.o; have h35 := H35.o; have h36 := H36.o; unfold inL; simp [h29, h30, h31, h33, h35, h36]);go_wp2_with fail;exact ⟨FkJ.mk' rfl rfl rfl rfl rfl rfl rfl rfl rfl rfl rfl rfl, rfl⟩
def Zx8 (n : Nat) : Prop := ∀ (N : Nat) (F : Nat → Prop) (w : World) (u : Zt) (A1 A2 A3 : Option Addr) (k1 k2 k3 : Nat) (L : List ByteArray) (i : Nat) (hi : i < u.procedures.length) (c : Ze) (A : Option Addr) (k : Nat) (lp md : Bool), UV N F w u A1 A2 A3 k1 k2 k3 → Spc w → okU (N + 1) u = true → L = Zbn u u.procedures[i] → EV n F w c A k → Calls Tryz.prog 104 #[.agg #[.slice A1 u.aA.length k1, .slice A2 u.globals.length k2, .slice A3 u.procedures.length k3], .int .i64 i, c.val A k, .bool lp, .bool md] w fun e w' => ∃ z l : Int, e = .returned (.tuple #[.int .i64 z, .int .i64 l]) ∧ (z == 0) = ckX u L (n + 1) c lp md ∧ Below w.heap.size w w'
theorem Zve {a : Act} (n : Nat) (IH : ∀ n', n = n' + 1 → Zx8 n') (N : Nat) (F : Nat → Prop) (w : World) (u : Zt) (A1 A2 A3 : Option Addr) (k1 k2 k3 : Nat) (L : List ByteArray) (i : Nat) (hi : i < u.procedures.length) (c : Ze) (A : Option Addr) (k : Nat) (UB EB : Nat) (lp md : Bool) (HU : Hd (UV N F w u A1 A2 A3 k1 k2 k3)) (HT : Hd (Spc w)) (HOK : Hd (okU (N + 1) u = true)) (HLN : Hd (L = Zbn u u.procedures[i])) (HV : Hd (EV n F w c A k)) (HUB : Hd (w.heap[UB]? = some (.cells #[.slice A1 u.aA.length k1, .slice A2 u.globals.length k2, .slice A3 u.procedures.length k3] 52 (0, 0)))) (HEB : Hd (w.heap[EB]? = some (.cells #[.int .i64 c.kind, .string c.text, .int .i64 c.aB, .int .i64 c.line, .slice A c.kids.length k] 104 (0, 0)))) (HF : Hd (FkL UB EB i lp md A c.kids.length k 0 a)) :
  ckLp.wp Tryz.prog (Zkb (Zxo ((List.range c.kids.length).all fun i => ckX u L n (c.kid i) (inL c.kind lp i) (md || c.kind == 26)) UB EB i lp md w) (CkR ((List.range c.kids.length).all fun i => ckX u L n (c.kid i) (inL c.kind lp i) (md || c.kind == 26)) w)) a w := by
 obtain ⟨R, hR⟩ : ∃ z, z = ((List.range c.kids.length).all fun i => ckX u L n (c.kid i) (inL c.kind lp i) (md || c.kind == 26)) := ⟨_, rfl⟩;rw [← hR];have HR := zh hR;clear hR;have hks1 := HV.o.len;have HF0 := HF;obtain ⟨fr, rfl⟩ := HF.o.opn;clear HF
 conv => arg 2; whnf
 go_wp2_with fail;refine wp_loop_ghost_k (fun g a x => ∃ j : Nat, g + j = c.kids.length ∧ FkL UB EB i lp md A c.kids.length k j a ∧ Hd (∀ i, i < j → ckX u L n (c.kid i) (inL c.kind lp i) (md || c.kind == 26) = true) ∧ Zb w x) c.kids.length ⟨0, by omega, HF0.o, zh (fun i h => by omega), Zb.refl _⟩ ?_;clear HF0 fr;rintro gk a wr ⟨j, hg, hf, HJ, hl⟩ J K hJ hK;obtain ⟨fr, rfl⟩ := hf.opn;have HLr := zh hl;have HUBr := yC hl HUB;have HEBr := yC hl HEB;clear hl hf
 by_cases hlt : j < c.kids.length
 ·obtain ⟨n', rfl⟩ := HV.o.lev hlt;have hlt' : (j : Int) < (c.kids.length : Int) := by omega
  obtain ⟨kb, ko, Bk, q, eA, hca⟩ := HV.o.kid hlt;cases eA;have HKX := zh (Zcv hlt);obtain ⟨x, hx⟩ : ∃ z, z = c.kids[j] := ⟨_, rfl⟩;rw [← hx] at hca HKX;have HX := zh hx;have HCA := zh hca;have hkb := Nat.lt_of_lt_of_le hca.lt HLr.o.size;have d0 := (HLr.o.cell ⟨kb, _, none⟩ hca.lt).trans hca.c0;have d1 := (HLr.o.cell ⟨kb, _, none⟩ hca.lt).trans hca.c1;have d2 := (HLr.o.cell ⟨kb, _, none⟩ hca.lt).trans hca.c2;have d3 := (HLr.o.cell ⟨kb, _, none⟩ hca.lt).trans hca.c3;have d4 := (HLr.o.cell ⟨kb, _, none⟩ hca.lt).trans hca.c4;clear hca hx;have HXK := zh (show c.kid j = x by rw [Zcr hlt, HX.o]);obtain ⟨w4, hla, HKB, hw4⟩ := aN wr (.cells #[.int .i64 x.kind, .string x.text, .int .i64 x.aB, .int .i64 x.line, .slice Bk x.kids.length q] 104);replace HKB := zh HKB;have HL4 := zh (HLr.o.trans hla);have HW4 := zh hw4;obtain ⟨KB, hKB⟩ : ∃ z, wr.heap.size = z := ⟨_, rfl⟩;rw [hKB] at HKB;have HKE := zh hKB;have HUB4 := yC hla HUBr;have HEB4 := yC hla HEBr;clear hla hw4 hKB;go_upto_region 27 with (fail);rw [HW4.o, HKE.o];clear d0 d1 d2 d3 d4;obtain ⟨c0, c1, c2, c3, c4⟩ := Z1 HEB4.o;have fc0 := fz HEB4.o
  go_upto_block 5 with (fail)
  refine @Z8 _ ckIn ?R1 _ _ _ _ ?h ?k
  case h =>
   refine Zvd w4 UB EB i lp md (some ⟨kb, ko, none⟩) c.kids.length k j KB c.kind (zh ?hf)
   case hf => exact FkI.mk' rfl rfl rfl rfl rfl rfl rfl rfl rfl rfl rfl rfl rfl
  case k =>
  rintro a1 x1 ⟨hf, hx1⟩;obtain rfl : w4 = x1 := hx1.symm;obtain ⟨fr1, rfl⟩ := hf.opn;clear hf hx1;obtain ⟨il, hil⟩ : ∃ z, z = inL c.kind lp j := ⟨_, rfl⟩;rw [← hil];have HIL := zh hil;clear hil;obtain ⟨q26, hq26⟩ : ∃ z, (c.kind == 26) = z := ⟨_, rfl⟩;have HQ26 := zh hq26;have g0 := cz3 HUB4.o;have fg0 := fz HUB4.o;obtain ⟨d0, d1, d2, d3, d4⟩ := Z1 HKB.o;have fd0 := fz HKB.o
  cases md with
  | true =>
   clear hq26;have HGO := zh (show (true || c.kind == 26) = true by rw [HQ26.o]; rfl);go_wp2_with fail;refine (IH n' rfl N F w4 u A1 A2 A3 k1 k2 k3 L i hi x Bk q il true (HU.o.later HL4.o) (HT.o.below HL4.o) HOK.o HLN.o (HCA.o.ev.later HL4.o)).mono ?_;rintro e w5 ⟨z, l, rfl, hz, hb⟩;have HL5 := zh (HL4.o.trans hb);obtain ⟨t, ht⟩ : ∃ t, t = ckX u L (n' + 1) x il true := ⟨_, rfl⟩;rw [← ht] at hz;have HTT := zh (show ckX u L (n' + 1) (c.kid j) (inL c.kind lp j) (true || c.kind == 26) = t by rw [HXK.o, ← HIL.o, HGO.o, ht]);clear hb ht
   cases t with
   | false =>
    have n0 : (z != (0 : Int)) = true := by rw [bne, hz]; rfl
    have HZ := zh hz;clear hz;go_wp2_with fail;exact ⟨HR.o.trans (Zd3 hlt HTT.o), ⟨z, l, HZ.o, FkR.mk' rfl rfl rfl⟩, HL5.o⟩
   | true =>
    obtain rfl : z = 0 := by simpa using hz
    clear hz;go_wp2_with fail;refine Handed.intro (gk - 1) (by omega) (hJ _ _ _ ⟨j + 1, by omega, ?_, zh (fun i hi2 => by
     by_cases h2 : i < j
     ·exact HJ.o i h2
     ·obtain rfl : i = j := by omega
      exact HTT.o), HL5.o⟩)
    exact FkL.mk' rfl rfl rfl rfl rfl rfl rfl rfl (by show some _ = some _; exact congrArg some (by go_num))
  | false =>
   have HGO := zh (show (false || c.kind == 26) = q26 by rw [HQ26.o]; rfl);go_wp2_with fail;refine (IH n' rfl N F w4 u A1 A2 A3 k1 k2 k3 L i hi x Bk q il q26 (HU.o.later HL4.o) (HT.o.below HL4.o) HOK.o HLN.o (HCA.o.ev.later HL4.o)).mono ?_;rintro e w5 ⟨z, l, rfl, hz, hb⟩;have HL5 := zh (HL4.o.trans hb);obtain ⟨t, ht⟩ : ∃ t, t = ckX u L (n' + 1) x il q26 := ⟨_, rfl⟩;rw [← ht] at hz;have HTT := zh (show ckX u L (n' + 1) (c.kid j) (inL c.kind lp j) (false || c.kind == 26) = t by rw [HXK.o, ← HIL.o, HGO.o, ht]);clear hb ht
   cases t with
   | false =>
    have n0 : (z != (0 : Int)) = true := by rw [bne, hz]; rfl
    have HZ := zh hz;clear hz;go_wp2_with fail;exact ⟨HR.o.trans (Zd3 hlt HTT.o), ⟨z, l, HZ.o, FkR.mk' rfl rfl rfl⟩, HL5.o⟩
   | true =>
    obtain rfl : z = 0 := by simpa using hz
    clear hz;go_wp2_with fail;refine Handed.intro (gk - 1) (by omega) (hJ _ _ _ ⟨j + 1, by omega, ?_, zh (fun i hi2 => by
     by_cases h2 : i < j
     ·exact HJ.o i h2
     ·obtain rfl : i = j := by omega
      exact HTT.o), HL5.o⟩)
    exact FkL.mk' rfl rfl rfl rfl rfl rfl rfl rfl (by show some _ = some _; exact congrArg some (by go_num))
 ·obtain rfl : j = c.kids.length := by omega
  go_wp2_with fail;exact ⟨HR.o.trans (Zjq HJ.o), FkA.mk' rfl rfl rfl rfl rfl rfl, HLr.o⟩
theorem Zlu : ∀ n, Zx8 n
 | n => fun N F w u A1 A2 A3 k1 k2 k3 L i hi c A k lp md hu ht hok hln hv => by
  have IH : ∀ n', n = n' + 1 → Zx8 n' := fun n' h => by subst h; exact Zlu n'
  unfold Ze.val;have HU := zh hu;have HV := zh hv;have hks1 := hv.len;obtain ⟨hn1, hn2, hn3⟩ := hu.len;obtain ⟨wa, hla, hub, hwa⟩ := aN w (.cells #[.slice A1 u.aA.length k1, .slice A2 u.globals.length k2, .slice A3 u.procedures.length k3] 52);have hlb : Zb wa (wa.alloc (.cells #[.int .i64 c.kind, .string c.text, .int .i64 c.aB, .int .i64 c.line, .slice A c.kids.length k] 104)) := (Zb.refl _).alloc _;have heb := heap_alloc_new wa (.cells #[.int .i64 c.kind, .string c.text, .int .i64 c.aB, .int .i64 c.line, .slice A c.kids.length k] 104);have hub2 := (hlb.block _ (Za hub)).trans hub;obtain ⟨wb, hwb⟩ : ∃ z, wa.alloc (.cells #[.int .i64 c.kind, .string c.text, .int .i64 c.aB, .int .i64 c.line, .slice A c.kids.length k] 104) = z := ⟨_, rfl⟩;rw [hwb] at hlb heb hub2;have HLb := zh (Zb.trans hla hlb);obtain ⟨UB, hUB⟩ : ∃ z, w.heap.size = z := ⟨_, rfl⟩;obtain ⟨EB, hEB⟩ : ∃ z, wa.heap.size = z := ⟨_, rfl⟩;rw [hUB] at hub2;rw [hEB] at heb;have HUB := zh hub2;have HEB := zh heb;have HSTART := zh (⟨hwa, hwb, hUB, hEB⟩ : _ ∧ _ ∧ _ ∧ _);clear hla hlb hub heb hub2 hu hv hwa hwb hUB hEB;have HT := zh (ht.below HLb.o);have HOK := zh hok;have HLN := zh hln;have HUX := zh (HU.o.later HLb.o);clear ht hok hln;obtain ⟨R, hR⟩ : ∃ z, z = ckX u L (n + 1) c lp md := ⟨_, rfl⟩;rw [← hR];have HR := zh (show R = (ckN u L c lp md && ((List.range c.kids.length).all fun i => ckX u L n (c.kid i) (inL c.kind lp i) (md || c.kind == 26))) from hR);clear hR;have c0 := Z1 HEB.o
  have fc0 := fz HEB.o;go_enter Tryz.func104, Tryz.ntmps104;obtain ⟨hwa, hwb, hUB, hEB⟩ := HSTART.o;go_upto_region 1 with (fail);clear hwa hwb hUB hEB
  go_upto_block 0 with (fail)
  refine @Zfk _ ckSw ?R1 ?Q1 _ _ _ _ ?h ?k ?k2
  case h =>
   refine Zvc N F wb u A1 A2 A3 k1 k2 k3 L i hi c A k UB EB lp md c.kind (zh rfl) HUX HT HOK HLN HUB HEB (zh ?hf)
   case hf => exact FkS.mk' rfl rfl rfl rfl rfl rfl rfl
  case k2 =>
   rintro a' x hx;obtain ⟨z, l, hz, hf⟩ := hx.f;obtain ⟨fr, rfl⟩ := hf.opn;exact bodyPost_ret (v := .tuple #[.int .i64 z, .int .i64 l]) (by simp [results, Tryz.results104, go_sem]) rfl ⟨z, l, rfl, by rw [HR.o, hx.r, hz]; rfl, HLb.o.trans hx.l⟩
  case k =>
  rintro a' w2 hx;obtain ⟨fr1, rfl⟩ := hx.f.opn;have HN := zh hx.r;have HL2 := zh hx.l;have HUB2 := zh ((hx.l.block _ (Za HUB.o)).trans HUB.o);have HEB2 := zh ((hx.l.block _ (Za HEB.o)).trans HEB.o);clear hx;clear c0 fc0;have c0 := Z1 HEB2.o;have fc0 := fz HEB2.o
  go_upto_block 3 with (fail)
  refine @Zfk _ ckLp ?R2 ?Q2 _ _ _ _ ?h2 ?k3 ?k4
  case h2 =>
   refine Zve n IH N F w2 u A1 A2 A3 k1 k2 k3 L i hi c A k UB EB lp md (zh (HUX.o.later HL2.o)) (zh (HT.o.below HL2.o)) HOK HLN (zh (HV.o.later (HLb.o.trans HL2.o))) HUB2 HEB2 (zh ?hf2)
   case hf2 => exact FkL.mk' rfl rfl rfl rfl rfl rfl rfl rfl rfl
  case k4 =>
   rintro a' x hx;obtain ⟨z, l, hz, hf⟩ := hx.f;obtain ⟨fr, rfl⟩ := hf.opn;exact bodyPost_ret (v := .tuple #[.int .i64 z, .int .i64 l]) (by simp [results, Tryz.results104, go_sem]) rfl ⟨z, l, rfl, by rw [HR.o, hx.r, hz, Bool.and_false], HLb.o.trans (HL2.o.trans hx.l)⟩
  case k3 =>
  rintro a' w3 hx;obtain ⟨fr2, rfl⟩ := hx.f.opn;have HALL := zh hx.r;have HL3 := zh (HL2.o.trans hx.l);clear hx;go_wp2_with fail
  go_ret2
  exact ⟨0, 0, rfl, by rw [HR.o, HN.o, HALL.o]; rfl, HLb.o.trans HL3.o⟩
def Zy9 (n : Nat) : Prop := ∀ (w : World) (F : Nat → Prop) (c : Ze) (A : Option Addr) (k : Nat), EV n F w c A k → Zc6 c ≤ 4194304 → Calls Tryz.prog 105 #[c.val A k] w fun e w' => e = .returned (.int .i64 (csX c : Nat)) ∧ Below w.heap.size w w'
theorem Zrn : ∀ n, Zy9 n
 | n => fun w F c A k hv hc => by
  have IH : ∀ n', n = n' + 1 → Zy9 n' := fun n' h => by subst h; exact Zrn n'
  unfold Ze.val;have HV := zh hv;have hks1 := hv.len;obtain ⟨wb, hlwb, HB, hwb⟩ := aN w (.cells #[.int .i64 c.kind, .string c.text, .int .i64 c.aB, .int .i64 c.line, .slice A c.kids.length k] 104);replace HB := zh HB;have HLb := zh hlwb;clear hlwb hv;have HC := zh hc;clear hc;obtain ⟨c0, c1, c2, c3, c4⟩ := Z1 HB.o;have fc0 := fz HB.o;obtain ⟨kd, hkd⟩ : ∃ z, z = c.kind := ⟨_, rfl⟩;rw [← hkd] at c0 hwb ⊢;have HKD := zh hkd;clear hkd;go_enter Tryz.func105, Tryz.ntmps105;go_upto_region 2 with (fail);clear hwb;have hway : (kd = 20 ∧ Zbu c.kind = 1) ∨ ((kd == (20 : Int)) = false ∧ Zbu c.kind = 0) := by
   rw [← HKD.o]
   by_cases h : kd = 20
   ·exact .inl ⟨h, by rw [h]; rfl⟩
   ·exact .inr ⟨nH.2 h, by unfold Zbu; rw [if_neg h]⟩
  rcases hway with ⟨rfl, hz⟩ | ⟨e20, hz⟩
  ·have HZ := zh hz;clear hz;go_upto_region 4 with (fail);go_wp2_with fail
   go_loopw [3, 5, 12] (fun nv _ iv wr => ∃ j : Nat, j ≤ c.kids.length ∧ iv = .int .i64 j ∧ nv = .int .i64 ((Za3 (c.kids.take j) + Zbu c.kind : Nat)) ∧ Zb wb wr) (fun _ _ iv _ => c.kids.length - (intOf iv).toNat)
   case atStart => exact ⟨0, Nat.zero_le _, rfl, by rw [HZ.o]; rfl, Zb.refl _⟩
   case round =>
    obtain ⟨j, hj, rfl, rfl, hl⟩ := hrel;have HL := zh hl;clear hl;clear c0 fc0 c1 c2 c3 c4;have HBk := zB HL HB;obtain ⟨c0, c1, c2, c3, c4⟩ := Z1 HBk.o;have fc0 := fz HBk.o;clear HBk
    by_cases hlt : j < c.kids.length
    ·obtain ⟨n', rfl⟩ := HV.o.lev hlt;have hlt' : (j : Int) < (c.kids.length : Int) := by omega
     obtain ⟨kb, ko, Bk, q, eA, hca⟩ := (HV.o.later (HLb.o.trans HL.o)).kid hlt;cases eA;have HKX := zh (Zcv hlt);obtain ⟨x, hx⟩ : ∃ z, z = c.kids[j] := ⟨_, rfl⟩;rw [← hx] at hca HKX;have HX := zh hx;have HCA := zh hca;have d0 := hca.c0;have d1 := hca.c1;have d2 := hca.c2;have d3 := hca.c3;have d4 := hca.c4;clear hca hx;have hb3 := Zf4 (c.kids.take j);have hb4 := Zgh x;have hkx := HKX.o;have hcx := HC.o;have hcs := Zip c.kind;obtain ⟨t, ht⟩ : ∃ z, z = Za3 (c.kids.take j) + Zbu c.kind := ⟨_, rfl⟩;rw [← ht];have HT2 := zh ht;go_wp2_with fail;refine (IH n' rfl _ F x Bk q (EV.later HCA.o.ev ((Zb.refl _).alloc _)) (by omega)).mono ?_;rintro e w2 ⟨rfl, hb2⟩;have HL2 := zh (HL.o.trans (Zb.trans ((Zb.refl _).alloc _) hb2));clear hb2 d0 d1 d2 d3 d4;have t1 : IntKind.i64.wrap ((t : Int) + (csX x : Nat)) = ((t + csX x : Nat) : Int) := by rw [IntWalk.i64_in _ (by omega)]; rfl
     clear hkx hcx hb3 hb4 ht hcs;go_wp2_with fail
     go_roundw
     case rel => exact ⟨j + 1, by omega, by go_num, by rw [Zcy c.kids j hlt, ← HX.o]; have e := HT2.o; subst e; congr 1; omega, HL2.o⟩
     case measure => simp [intOf]; omega
    ·obtain rfl : j = c.kids.length := by omega
     go_wp2_with fail;go_ret;exact ⟨Zu (by rw [List.take_length, Zg3]), HLb.o.trans HL.o⟩
  ·have HZ := zh hz;clear hz;go_upto_region 4 with (fail);clear e20;go_wp2_with fail
   go_loopw [3, 5, 12] (fun nv _ iv wr => ∃ j : Nat, j ≤ c.kids.length ∧ iv = .int .i64 j ∧ nv = .int .i64 ((Za3 (c.kids.take j) + Zbu c.kind : Nat)) ∧ Zb wb wr) (fun _ _ iv _ => c.kids.length - (intOf iv).toNat)
   case atStart => exact ⟨0, Nat.zero_le _, rfl, by rw [HZ.o]; rfl, Zb.refl _⟩
   case round =>
    obtain ⟨j, hj, rfl, rfl, hl⟩ := hrel;have HL := zh hl;clear hl;clear c0 fc0 c1 c2 c3 c4;have HBk := zB HL HB;obtain ⟨c0, c1, c2, c3, c4⟩ := Z1 HBk.o;have fc0 := fz HBk.o;clear HBk
    by_cases hlt : j < c.kids.length
    ·obtain ⟨n', rfl⟩ := HV.o.lev hlt;have hlt' : (j : Int) < (c.kids.length : Int) := by omega
     obtain ⟨kb, ko, Bk, q, eA, hca⟩ := (HV.o.later (HLb.o.trans HL.o)).kid hlt;cases eA;have HKX := zh (Zcv hlt);obtain ⟨x, hx⟩ : ∃ z, z = c.kids[j] := ⟨_, rfl⟩;rw [← hx] at hca HKX;have HX := zh hx;have HCA := zh hca;have d0 := hca.c0;have d1 := hca.c1;have d2 := hca.c2;have d3 := hca.c3;have d4 := hca.c4;clear hca hx;have hb3 := Zf4 (c.kids.take j);have hb4 := Zgh x;have hkx := HKX.o;have hcx := HC.o;have hcs := Zip c.kind;obtain ⟨t, ht⟩ : ∃ z, z = Za3 (c.kids.take j) + Zbu c.kind := ⟨_, rfl⟩;rw [← ht];have HT2 := zh ht;go_wp2_with fail;refine (IH n' rfl _ F x Bk q (EV.later HCA.o.ev ((Zb.refl _).alloc _)) (by omega)).mono ?_;rintro e w2 ⟨rfl, hb2⟩;have HL2 := zh (HL.o.trans (Zb.trans ((Zb.refl _).alloc _) hb2));clear hb2 d0 d1 d2 d3 d4;have t1 : IntKind.i64.wrap ((t : Int) + (csX x : Nat)) = ((t + csX x : Nat) : Int) := by rw [IntWalk.i64_in _ (by omega)]; rfl
     clear hkx hcx hb3 hb4 ht hcs;go_wp2_with fail
     go_roundw
     case rel => exact ⟨j + 1, by omega, by go_num, by rw [Zcy c.kids j hlt, ← HX.o]; have e := HT2.o; subst e; congr 1; omega, HL2.o⟩
     case measure => simp [intOf]; omega
    ·obtain rfl : j = c.kids.length := by omega
     go_wp2_with fail;go_ret;exact ⟨Zu (by rw [List.take_length, Zg3]), HLb.o.trans HL.o⟩
def Zza (n : Nat) : Prop := ∀ (w : World) (F : Nat → Prop) (c : Ze) (A : Option Addr) (k : Nat), EV n F w c A k → Zc6 c ≤ 4194304 → Calls Tryz.prog 94 #[c.val A k] w fun e w' => e = .returned (.int .i64 (csX c : Nat)) ∧ Below w.heap.size w w'
theorem Zro : ∀ n, Zza n
 | n => fun w F c A k hv hc => by
  have IH : ∀ n', n = n' + 1 → Zza n' := fun n' h => by subst h; exact Zro n'
  unfold Ze.val;have HV := zh hv;have hks1 := hv.len;obtain ⟨wb, hlwb, HB, hwb⟩ := aN w (.cells #[.int .i64 c.kind, .string c.text, .int .i64 c.aB, .int .i64 c.line, .slice A c.kids.length k] 104);replace HB := zh HB;have HLb := zh hlwb;clear hlwb hv;have HC := zh hc;clear hc;obtain ⟨c0, c1, c2, c3, c4⟩ := Z1 HB.o;have fc0 := fz HB.o;obtain ⟨kd, hkd⟩ : ∃ z, z = c.kind := ⟨_, rfl⟩;rw [← hkd] at c0 hwb ⊢;have HKD := zh hkd;clear hkd;go_enter Tryz.func94, Tryz.ntmps94;go_upto_region 2 with (fail);clear hwb;have hway : (kd = 20 ∧ Zbu c.kind = 1) ∨ ((kd == (20 : Int)) = false ∧ Zbu c.kind = 0) := by
   rw [← HKD.o]
   by_cases h : kd = 20
   ·exact .inl ⟨h, by rw [h]; rfl⟩
   ·exact .inr ⟨nH.2 h, by unfold Zbu; rw [if_neg h]⟩
  rcases hway with ⟨rfl, hz⟩ | ⟨e20, hz⟩
  ·have HZ := zh hz;clear hz;go_upto_region 4 with (fail);go_wp2_with fail
   go_loopw [3, 4] (fun nv iv wr => ∃ j : Nat, j ≤ c.kids.length ∧ iv = .int .i64 j ∧ nv = .int .i64 ((Za3 (c.kids.take j) + Zbu c.kind : Nat)) ∧ Zb wb wr) (fun _ iv _ => c.kids.length - (intOf iv).toNat)
   case atStart => exact ⟨0, Nat.zero_le _, rfl, by rw [HZ.o]; rfl, Zb.refl _⟩
   case round =>
    obtain ⟨j, hj, rfl, rfl, hl⟩ := hrel;have HL := zh hl;clear hl;clear c0 fc0 c1 c2 c3 c4;have HBk := zB HL HB;obtain ⟨c0, c1, c2, c3, c4⟩ := Z1 HBk.o;have fc0 := fz HBk.o;clear HBk
    by_cases hlt : j < c.kids.length
    ·obtain ⟨n', rfl⟩ := HV.o.lev hlt;have hlt' : (j : Int) < (c.kids.length : Int) := by omega
     obtain ⟨kb, ko, Bk, q, eA, hca⟩ := (HV.o.later (HLb.o.trans HL.o)).kid hlt;cases eA;have HKX := zh (Zcv hlt);obtain ⟨x, hx⟩ : ∃ z, z = c.kids[j] := ⟨_, rfl⟩;rw [← hx] at hca HKX;have HX := zh hx;have HCA := zh hca;have d0 := hca.c0;have d1 := hca.c1;have d2 := hca.c2;have d3 := hca.c3;have d4 := hca.c4;clear hca hx;have hb3 := Zf4 (c.kids.take j);have hb4 := Zgh x;have hkx := HKX.o;have hcx := HC.o;have hcs := Zip c.kind;obtain ⟨t, ht⟩ : ∃ z, z = Za3 (c.kids.take j) + Zbu c.kind := ⟨_, rfl⟩;rw [← ht];have HT2 := zh ht;go_wp2_with fail;refine (IH n' rfl _ F x Bk q HCA.o.ev (by omega)).mono ?_;rintro e w2 ⟨rfl, hb2⟩;have HL2 := zh (HL.o.trans hb2);clear hb2 d0 d1 d2 d3 d4;have t1 : IntKind.i64.wrap ((t : Int) + (csX x : Nat)) = ((t + csX x : Nat) : Int) := by rw [IntWalk.i64_in _ (by omega)]; rfl
     clear hkx hcx hb3 hb4 ht hcs;go_wp2_with fail
     go_roundw
     case rel => exact ⟨j + 1, by omega, by go_num, by rw [Zcy c.kids j hlt, ← HX.o]; have e := HT2.o; subst e; congr 1; omega, HL2.o⟩
     case measure => simp [intOf]; omega
    ·obtain rfl : j = c.kids.length := by omega
     go_wp2_with fail;go_ret;exact ⟨Zu (by rw [List.take_length, Zg3]), HLb.o.trans HL.o⟩
  ·have HZ := zh hz;clear hz;go_upto_region 4 with (fail);clear e20;go_wp2_with fail
   go_loopw [3, 4] (fun nv iv wr => ∃ j : Nat, j ≤ c.kids.length ∧ iv = .int .i64 j ∧ nv = .int .i64 ((Za3 (c.kids.take j) + Zbu c.kind : Nat)) ∧ Zb wb wr) (fun _ iv _ => c.kids.length - (intOf iv).toNat)
   case atStart => exact ⟨0, Nat.zero_le _, rfl, by rw [HZ.o]; rfl, Zb.refl _⟩
   case round =>
    obtain ⟨j, hj, rfl, rfl, hl⟩ := hrel;have HL := zh hl;clear hl;clear c0 fc0 c1 c2 c3 c4;have HBk := zB HL HB;obtain ⟨c0, c1, c2, c3, c4⟩ := Z1 HBk.o;have fc0 := fz HBk.o;clear HBk
    by_cases hlt : j < c.kids.length
    ·obtain ⟨n', rfl⟩ := HV.o.lev hlt;have hlt' : (j : Int) < (c.kids.length : Int) := by omega
     obtain ⟨kb, ko, Bk, q, eA, hca⟩ := (HV.o.later (HLb.o.trans HL.o)).kid hlt;cases eA;have HKX := zh (Zcv hlt);obtain ⟨x, hx⟩ : ∃ z, z = c.kids[j] := ⟨_, rfl⟩;rw [← hx] at hca HKX;have HX := zh hx;have HCA := zh hca;have d0 := hca.c0;have d1 := hca.c1;have d2 := hca.c2;have d3 := hca.c3;have d4 := hca.c4;clear hca hx;have hb3 := Zf4 (c.kids.take j);have hb4 := Zgh x;have hkx := HKX.o;have hcx := HC.o;have hcs := Zip c.kind;obtain ⟨t, ht⟩ : ∃ z, z = Za3 (c.kids.take j) + Zbu c.kind := ⟨_, rfl⟩;rw [← ht];have HT2 := zh ht;go_wp2_with fail;refine (IH n' rfl _ F x Bk q HCA.o.ev (by omega)).mono ?_;rintro e w2 ⟨rfl, hb2⟩;have HL2 := zh (HL.o.trans hb2);clear hb2 d0 d1 d2 d3 d4;have t1 : IntKind.i64.wrap ((t : Int) + (csX x : Nat)) = ((t + csX x : Nat) : Int) := by rw [IntWalk.i64_in _ (by omega)]; rfl
     clear hkx hcx hb3 hb4 ht hcs;go_wp2_with fail
     go_roundw
     case rel => exact ⟨j + 1, by omega, by go_num, by rw [Zcy c.kids j hlt, ← HX.o]; have e := HT2.o; subst e; congr 1; omega, HL2.o⟩
     case measure => simp [intOf]; omega
    ·obtain rfl : j = c.kids.length := by omega
     go_wp2_with fail;go_ret;exact ⟨Zu (by rw [List.take_length, Zg3]), HLb.o.trans HL.o⟩
section
section
variable {P : Program} {ops : Array Oper} {Q : Exit → Act → World → Prop}
end
end
structure CkP (N : Nat) (u : Zt) (w : World) (e : Ending) (w' : World) : Prop where
 h : ∃ z l : Int, e = .returned (.tuple #[.int .i64 z, .int .i64 l]) ∧ (z = 0 ↔ Zy1 N u) ∧ Below w.heap.size w w'
theorem Zpf (N : Nat) (F : Nat → Prop) (w : World) (u : Zt) (A1 A2 A3 : Option Addr) (k1 k2 k3 : Nat) (hu : UV N F w u A1 A2 A3 k1 k2 k3) (ht : Spc w) (hcn : ∀ q ∈ u.procedures, Zc6 q.body ≤ 4194304) : Calls Tryz.prog 57 #[.agg #[.slice A1 u.aA.length k1, .slice A2 u.globals.length k2, .slice A3 u.procedures.length k3]] w (CkP N u w) := by
 have HU := zh hu;obtain ⟨hn1, hn2, hn3⟩ := hu.len;obtain ⟨wb, hlwb, HB, hwb⟩ := aN w (.cells #[.slice A1 u.aA.length k1, .slice A2 u.globals.length k2, .slice A3 u.procedures.length k3] 52);replace HB := zh HB;have HLb := zh hlwb;have HT := zh (ht.below hlwb);clear ht;clear hlwb hu;have g0 := cz3 HB.o;have fg0 := fz HB.o;go_enter Tryz.func57, Tryz.ntmps57;go_wp2_with fail;refine (Zg9 N F wb u A1 A2 A3 k1 k2 k3 (HU.o.later HLb.o) HT.o hcn).mono ?_;rintro e w2 ⟨rfl, hb⟩;have HL2 := zh (show Zb wb w2 from hb);obtain ⟨t, ht⟩ : ∃ z, z = okU (N + 1) u := ⟨_, rfl⟩;rw [← ht];have HOKT := zh ht.symm;clear hb ht;clear g0 fg0;have HB2 := zB HL2 HB;have g0 := cz3 HB2.o;have fg0 := fz HB2.o
 cases t with
 | false =>
  go_wp2_with fail
  go_ret2
  exact ⟨⟨1, _, rfl, ⟨fun h => (by cases h), fun h => absurd h.ok (by rw [HOKT.o]; decide)⟩, HLb.o.trans HL2.o⟩⟩
 | true =>
 have hpl := Za9 HOKT.o;obtain ⟨h8, h12, h12'⟩ := hpl;go_wp2_with fail;refine (Zqe N F w2 u A1 A2 A3 k1 k2 k3 (HU.o.later (HLb.o.trans HL2.o)) (HT.o.below HL2.o) HOKT.o).mono ?_;rintro e w3 ⟨z, l, rfl, hz, hb⟩;have HL3 := zh (HL2.o.trans hb);have HZ := zh hz;clear hb hz;clear g0 fg0;have HB3 := zB HL3 HB;have g0 := cz3 HB3.o;have fg0 := fz HB3.o
 by_cases h0 : z = 0
 case neg =>
  have n0 : (z != (0 : Int)) = true := bne_iff_ne.2 h0;have H0 := zh h0;clear h0;go_wp2_with fail
  go_ret2
  exact ⟨⟨z, l, rfl, ⟨fun h => absurd h H0.o, fun h => absurd (HZ.o.2 h.nm) H0.o⟩, HLb.o.trans HL3.o⟩⟩
 case pos =>
 subst h0;have HNM := zh (HZ.o.1 rfl);clear HZ;go_wp2_with fail
 go_loopw [6, 7, 8, 9, 27] (fun _ _ _ _ iv wr => ∃ j : Nat, j ≤ u.procedures.length ∧ iv = .int .i64 j ∧ Hd (∀ i (h : i < u.procedures.length), i < j → ckX u (Zbn u u.procedures[i]) (N + 1) u.procedures[i].body false false = true ∧ (Zbn u u.procedures[i]).length + csX u.procedures[i].body ≤ 24) ∧ Zb wb wr) (fun _ _ _ _ iv _ => u.procedures.length - (intOf iv).toNat)
 case atStart => exact ⟨0, Nat.zero_le _, rfl, zh (fun i _ h => by omega), HL3.o⟩
 case round =>
  obtain ⟨j, hj, rfl, HJ1, hl⟩ := hrel;rename_i wr;have HL := zh hl;clear hl;clear g0 fg0;have HBk := zB HL HB;have g0 := cz3 HBk.o;have fg0 := fz HBk.o
  by_cases hlt : j < u.procedures.length
  ·have hlt' : (j : Int) < (u.procedures.length : Int) := by omega
   have HOQ := zh (Zcg (Zex HOKT.o hlt));have HLO := zh (Zop (u := u) (Zex HOKT.o hlt));have HUr := zh (HU.o.later (HLb.o.trans HL.o));obtain ⟨pb, po, Ap, Al, Ab, kp, kl, kb, eA, hat⟩ := HUr.o.proc hlt;cases eA;have hlp := hat.lp;have hll := hat.ll;obtain ⟨q, hv_⟩ : ∃ z, z = u.procedures[j] := ⟨_, rfl⟩;rw [← hv_] at hat hlp hll;have HV_ := zh hv_;have HAT := zh hat;have d0 := hat.c0;have d1 := hat.c1;have d2 := hat.c2;have d3 := hat.c3;have d4 := hat.c4;have d5 := hat.c5;have d6 := hat.c6;have d7 := hat.c7;have d8 := hat.c8;clear hat hv_;obtain ⟨w4, hla, HRB, hw4⟩ := aN wr (.cells #[.string q.name, .slice Ap q.params.length kp, .slice Al q.locals.length kl, .int .i64 q.body.kind, .string q.body.text, .int .i64 q.body.aB, .int .i64 q.body.line, .slice Ab q.body.kids.length kb, .int .i64 q.line] 106);replace HRB := zh HRB;have HA4 := zh hla;have HL4 := zh (Zb.trans HL.o hla);have HW4 := zh hw4;have HB4 := yC hla HBk;obtain ⟨QB, hRB⟩ : ∃ z, wr.heap.size = z := ⟨_, rfl⟩;rw [hRB] at HRB;have HRE := zh hRB;clear hla hw4 hRB;go_upto_region 9 with (fail);rw [HW4.o, HRE.o];clear d0 d1 d2 d3 d4 d5 d6 d7 d8;rw [← HV_.o] at HOQ HLO;clear g0 fg0;have g0 := cz3 HB4.o;have fg0 := fz HB4.o;have r0 := cz9 HRB.o;have fr0 := fz HRB.o;have HJJ := zh (show (ckX u (Zbn u u.procedures[j]) (N + 1) u.procedures[j].body false false = true ∧ (Zbn u u.procedures[j]).length + csX u.procedures[j].body ≤ 24) ↔ (ckX u (Zbn u q) (N + 1) q.body false false = true ∧ (Zbn u q).length + csX q.body ≤ 24) by rw [← HV_.o])
   go_wp2_with fail;refine (Zlu N N F w4 u _ _ _ k1 k2 k3 (Zbn u u.procedures[j]) j hlt q.body Ab kb false false (HU.o.later (HLb.o.trans HL4.o)) (HT.o.below HL4.o) HOKT.o rfl (HAT.o.ev.later HA4.o)).mono ?_;rintro e w5 ⟨z, l, rfl, hz, hb⟩;rw [← HV_.o] at hz;have HL5 := zh (HL4.o.trans hb);have HB45 := zh (show Zb w4 w5 from hb);have HR5 := yC hb HRB;have HB5 := yC hb HB4;obtain ⟨t, ht⟩ : ∃ t, t = ckX u (Zbn u q) (N + 1) q.body false false := ⟨_, rfl⟩;rw [← ht] at hz HJJ;clear hb ht;clear g0 fg0;clear r0 fr0;have g0 := cz3 HB5.o;have fg0 := fz HB5.o;have r0 := cz9 HR5.o;have fr0 := fz HR5.o
   cases t with
   | false =>
    have n0 : (z != (0 : Int)) = true := by rw [bne, hz]; rfl
    have H0 := zh (show z ≠ 0 by simpa using hz);have HBAD := zh (show ¬ _ from fun h => by have := (HJJ.o.1 h).1; cases this);clear hz;go_wp2_with fail
    go_ret2
    exact ⟨⟨z, l, rfl, ⟨fun h => absurd h H0.o, fun h => absurd (h.pr j hlt) HBAD.o⟩, HLb.o.trans HL5.o⟩⟩
   | true =>
   obtain rfl : z = 0 := by simpa using hz
   clear hz;go_upto_region 12 with (fail);refine Zx [] [] (by kernel_rfl) (fun W hW => ?_);have hlW : Zb w5 W := by rw [hW]; exact (Zb.refl _).drew
   have HLW := zh (HL5.o.trans hlW);have HQW := zh (show Zb w4 W from (show Zb w4 w5 from HB45.o).trans hlW);have HBW := yC hlW HB5;have HRW := yC hlW HR5;clear hlW hW;clear g0 fg0;clear r0 fr0;refine uU 0 44 (hy := fun x hx => by have hxb := (hx.block _ (Za HBW.o)).trans HBW.o; have hxq := (hx.block _ (Za HRW.o)).trans HRW.o; have g0 := cz3 hxb; have fg0 := fz hxb; have r0 := cz9 hxq; have fr0 := fz hxq; go_simp <;> first | with_reducible rfl | rw [if_neg (by omega)] | rw [if_pos (by omega)]) ?_;simp only [yN];refine uU 1 45 ?_;simp only [yN];refine uU 4 48 ?_;simp only [yN];refine uU 5 49 (hy := fun x hx => by have hxb := (hx.block _ (Za HBW.o)).trans HBW.o; have hxq := (hx.block _ (Za HRW.o)).trans HRW.o; have g0 := cz3 hxb; have fg0 := fz hxb; have r0 := cz9 hxq; have fr0 := fz hxq; go_simp <;> first | with_reducible rfl | rw [if_neg (by omega)] | rw [if_pos (by omega)]) ?_;simp only [yN];refine Z5 2 (by kernel_rfl) rfl rfl ?_;go_wp2_with fail;refine (Zlp N F W u _ _ _ k1 k2 k3 (HU.o.later (HLb.o.trans HLW.o)) (HT.o.below HLW.o) HOKT.o j hlt).mono ?_;rintro e ys2 ⟨vv, rfl, hr, hb⟩;rw [← HV_.o] at hr;obtain ⟨Av, cv, rfl, -, -⟩ := hr.form;have HLys2 := zh (HLW.o.trans hb);have HEys2 := zh (HQW.o.trans hb);have HBW := yC hb HBW;have HRW := yC hb HRW;have HZW := zh (show Zb W ys2 from hb);clear hr hb;go_wp2_with fail
   refine ⟨HZW.o, ?_⟩;refine uU 3 47 ?_;simp only [yN];refine Z5 6 (by kernel_rfl) rfl rfl ?_;go_wp2_with fail;refine (Zrn N ys2 F q.body Ab kb (HAT.o.ev.later (HA4.o.trans HEys2.o)) (by have := HOQ.o; omega)).mono ?_;rintro e ys6 ⟨rfl, hb⟩;have HLys6 := zh (HLys2.o.trans hb);have HEys6 := zh (HEys2.o.trans hb);have HBW := yC hb HBW;have HRW := yC hb HRW;have HZW := zh (show Zb ys2 ys6 from hb);clear hb;go_wp2_with fail;refine ⟨HZW.o, ?_⟩;refine uU 7 51 ?_;simp only [yN];refine uU 8 52 ?_;simp only [yN];refine Z6 [] (by kernel_rfl) rfl rfl ?_;obtain ⟨b, hb⟩ : ∃ b : Bool, decide ((24 : Int) < IntKind.i64.wrap (((Zbn u q).length : Int) + ((csX q.body : Nat) : Int))) = b := ⟨_, rfl⟩;have tw : IntKind.i64.wrap (((Zbn u q).length : Int) + ((csX q.body : Nat) : Int)) = ((Zbn u q).length : Int) + ((csX q.body : Nat) : Int) := by
    have h1 := HOQ.o.2.2.1;have h2 := Zgh q.body;have h3 := HLO.o;exact IntWalk.i64_in _ (by omega)
   have HBB := zh (show decide ((24 : Int) < ((Zbn u q).length : Int) + ((csX q.body : Nat) : Int)) = b by rw [← tw]; exact hb);clear tw
   cases b with
   | true =>
    have HBAD := zh (show ¬ _ from fun h => by have := (HJJ.o.1 h).2; have := of_decide_eq_true HBB.o; omega);have hp : (24 : Int) < IntKind.i64.wrap (((Zbn u q).length : Int) + ((csX q.body : Nat) : Int)) := of_decide_eq_true hb;clear hb;go_upto_region 13 with (fail);clear hp;refine Zb8 (fun W3 hW3 => ?_);have hlW : Zb ys6 W3 := by rw [hW3]; exact (Zb.refl _).drew
    have HLW3 := zh hlW;have HEW := yC hlW HRW;clear hlW hW3;have r0 := cz9 HEW.o;have fr0 := fz HEW.o
    repeat go_big_quiet_step (fail)
    refine wpQuiet_nil ?_;go_wp2_with fail
    go_ret2
    exact ⟨⟨7, _, rfl, ⟨fun h => (by cases h), fun h => absurd (h.pr j hlt) HBAD.o⟩, HLb.o.trans (HLys6.o.trans HLW3.o)⟩⟩
   | false =>
    have HGOOD := zh (HJJ.o.2 ⟨by simp, by have := of_decide_eq_false HBB.o; omega⟩);have hp : IntKind.i64.wrap (((Zbn u q).length : Int) + ((csX q.body : Nat) : Int)) ≤ (24 : Int) := by have := of_decide_eq_false hb; omega
    clear hb;go_wp2_with fail
    go_roundw
    case rel => exact ⟨j + 1, by omega, by go_num, zh (Zda HJ1.o (fun _ => HGOOD.o)), HLys6.o⟩
    case measure => simp [intOf]; omega
  ·obtain rfl : j = u.procedures.length := by omega
   clear hlt;go_wp2_with fail
   go_loopw [11, 59] (fun _ iv wx => ∃ j : Nat, j ≤ u.procedures.length ∧ iv = .int .i64 j ∧ Hd (∀ i (h : i < u.procedures.length), i < j → ¬ (bl u.procedures[i].name = [109, 97, 105, 110] ∧ u.procedures[i].params = [])) ∧ Zb wb wx) (fun _ iv _ => u.procedures.length - (intOf iv).toNat)
   case atStart => exact ⟨0, Nat.zero_le _, rfl, zh (fun i _ h => by omega), HL.o⟩
   case round =>
    obtain ⟨j, hj2, rfl, HJ2, hl⟩ := hrel;rename_i wr;have HL := zh hl;clear hl;clear g0 fg0;have HBk := zB HL HB;have g0 := cz3 HBk.o;have fg0 := fz HBk.o
    by_cases hlt : j < u.procedures.length
    ·have hlt' : (j : Int) < (u.procedures.length : Int) := by omega
     have HUr := zh (HU.o.later (HLb.o.trans HL.o));obtain ⟨pb, po, Ap, Al, Ab, kp, kl, kb, eA, hat⟩ := HUr.o.proc hlt;cases eA;have hlp := hat.lp;have hll := hat.ll;obtain ⟨q, hv_⟩ : ∃ z, z = u.procedures[j] := ⟨_, rfl⟩;rw [← hv_] at hat hlp hll;have HV_ := zh hv_;have HAT := zh hat;have d0 := hat.c0;have d1 := hat.c1;have d2 := hat.c2;have d3 := hat.c3;have d4 := hat.c4;have d5 := hat.c5;have d6 := hat.c6;have d7 := hat.c7;have d8 := hat.c8;clear hat hv_;obtain ⟨w4, hla, HRB, hw4⟩ := aN wr (.cells #[.string q.name, .slice Ap q.params.length kp, .slice Al q.locals.length kl, .int .i64 q.body.kind, .string q.body.text, .int .i64 q.body.aB, .int .i64 q.body.line, .slice Ab q.body.kids.length kb, .int .i64 q.line] 106);replace HRB := zh HRB;have HA4 := zh hla;have HL4 := zh (Zb.trans HL.o hla);have HW4 := zh hw4;have HB4 := yC hla HBk;obtain ⟨QB, hRB⟩ : ∃ z, wr.heap.size = z := ⟨_, rfl⟩;rw [hRB] at HRB;have HRE := zh hRB;clear hla hw4 hRB;go_upto_region 18 with (fail);rw [HW4.o, HRE.o];clear d0 d1 d2 d3 d4 d5 d6 d7 d8;have r0 := cz9 HRB.o;have fr0 := fz HRB.o;have HJJ := zh (show (bl u.procedures[j].name = [109, 97, 105, 110] ∧ u.procedures[j].params = []) ↔ (bl q.name = [109, 97, 105, 110] ∧ q.params = []) by rw [← HV_.o]);obtain ⟨b1, h1⟩ : ∃ z, (q.name.toList == [109, 97, 105, 110]) = z := ⟨_, rfl⟩;obtain ⟨b2, h2⟩ : ∃ z, ((q.params.length : Int) == 0) = z := ⟨_, rfl⟩;have HM := zh (show (bl q.name = [109, 97, 105, 110] ∧ q.params = []) ↔ (b1 = true ∧ b2 = true) by rw [← h1, ← h2, beq_iff_eq, beq_iff_eq, Zas]; simp)
     cases b1 with
     | false =>
      go_wp2_with fail
      go_roundw
      case rel => exact ⟨j + 1, by omega, by go_num, zh (Zda HJ2.o (fun _ h => by have := (HM.o.1 (HJJ.o.1 h)).1; cases this)), HL4.o⟩
      case measure => simp [intOf]; omega
     | true =>
     cases b2 with
     | false =>
      go_wp2_with fail
      go_roundw
      case rel => exact ⟨j + 1, by omega, by go_num, zh (Zda HJ2.o (fun _ h => by have := (HM.o.1 (HJJ.o.1 h)).2; cases this)), HL4.o⟩
      case measure => simp [intOf]; omega
     | true =>
      go_wp2_with fail
      go_ret2
      exact ⟨⟨0, _, rfl, ⟨fun _ => ⟨HOKT.o, HNM.o, fun i hi => HJ1.o i hi hi, j, hlt, HJJ.o.2 (HM.o.2 ⟨by simp, by simp⟩)⟩, fun _ => rfl⟩, HLb.o.trans HL4.o⟩⟩
    ·obtain rfl : j = u.procedures.length := by omega
     go_wp2_with fail
     go_ret2
     exact ⟨⟨3, _, rfl, ⟨fun h => (by cases h), fun h => h.mn.elim fun i hm => hm.elim fun hi hm => absurd hm (HJ2.o i hi hi)⟩, HLb.o.trans HL.o⟩⟩
theorem Zm1 (N : Nat) (F : Nat → Prop) (w : World) (u : Zt) (A1 A2 A3 : Option Addr) (k1 k2 k3 : Nat) (hu : UV N F w u A1 A2 A3 k1 k2 k3) (ht : Spc w) (hcn : ∀ q ∈ u.procedures, Zc6 q.body ≤ 4194304) (hglb : u.globals.length ≤ 2097152) (hszr : Zp Zk u.aA ≤ 2097152) : Calls Tryz.prog 17 #[.agg #[.slice A1 u.aA.length k1, .slice A2 u.globals.length k2, .slice A3 u.procedures.length k3]] w (Zli w (lwR N u)) := by
 obtain ⟨w1, hw1⟩ : ∃ z, ((w.alloc (.cells #[.slice A1 u.aA.length k1, .slice A2 u.globals.length k2, .slice A3 u.procedures.length k3] 52)).alloc (.cells #[.slice none 0 0, .slice none 0 0, .slice none 0 0, .int .i64 0] TPg)) = z := ⟨_, rfl⟩;have hl1 : Zb w w1 := by rw [← hw1]; exact ((Zb.refl _).alloc _).alloc _
 have hub : w1.heap[w.heap.size]? = some (.cells #[.slice A1 u.aA.length k1, .slice A2 u.globals.length k2, .slice A3 u.procedures.length k3] 52 (0, 0)) := by rw [← hw1]; exact ((Zb.refl _).alloc _).block w.heap.size (by simp) |>.trans (heap_alloc_new w _)
 have hz : w1.heap[w.heap.size + 1]? = some (.cells #[.slice none 0 0, .slice none 0 0, .slice none 0 0, .int .i64 0] TPg (0, 0)) := by rw [← hw1]; exact Zco (by simp)
 obtain ⟨UB, hUB⟩ : ∃ z, w.heap.size = z := ⟨_, rfl⟩;obtain ⟨ZB, hZB⟩ : ∃ z, w.heap.size + 1 = z := ⟨_, rfl⟩;have HZB := zh (show w.heap.size ≤ ZB ∧ ZB < w1.heap.size from ⟨by omega, by rw [← hZB]; exact Za hz⟩);rw [hZB] at hz;rw [hUB] at hub;have HUBE := zh hUB;have HZB2 := zh hZB;have HLb := zh hl1;have HB := zh hub;have HZ := zh hz;have HU := zh hu;have HT := zh (ht.below hl1);have hn3 := hu.len.2.2;have HSPL := zh (World.block_lt_of_cell? w _ (ht.cell Zfh 0 (by decide +kernel)));clear hl1 hub hz hUB hZB hu ht;obtain ⟨Rr, hR⟩ : ∃ z, z = lwR N u := ⟨_, rfl⟩;rw [← hR];have HR := zh hR;clear hR;have g0 := cz3 HB.o;have fg0 := fz HB.o;go_enter Tryz.func17, Tryz.ntmps17;go_upto_region 1 with (fail)
 try rw [hw1]
 rw [HZB2.o, HUBE.o];clear hw1;go_wp2_with fail;refine (Zpf N F w1 u A1 A2 A3 k1 k2 k3 (HU.o.later HLb.o) HT.o hcn).mono ?_;rintro e w2 hp;obtain ⟨z, l, rfl, hz, hb⟩ := hp.h;have HL2 := zh (show Zb w1 w2 from hb);have HZ2 := yC hb HZ;have HB2 := yC hb HB;have HZZ := zh hz;clear hb hz hp g0 fg0
 by_cases h0 : z = 0
 case neg =>
  have n0 : (z != (0 : Int)) = true := bne_iff_ne.2 h0;have H0 := zh h0;clear h0;have z0 := cz4 HZ2.o;have fz0 := fz HZ2.o;go_wp2_with fail;have hd := Zli.zero (Zbw HZB.o.1 zPg w2 0 (HLb.o.trans HL2.o));simp only [Zb3, zPg, Nat.zero_add, Nat.reduceAdd] at hd;rw [show Rr = (⟨[], [], [], 0⟩, false) by rw [HR.o]; unfold lwR; rw [if_neg fun h => H0.o (HZZ.o.2 h)]];exact bodyPost_ret (v := .tuple #[.agg #[.slice none 0 0, .slice none 0 0, .slice none 0 0, .int .i64 0], .bool false]) (by simp [results, Tryz.results17, go_sem, z0, fz0]) rfl hd
 case pos =>
 subst h0;have HOC := zh (HZZ.o.1 rfl);clear HZZ;go_upto_region 4 with (fail);refine @Z8 _ luRg ?R1 _ _ _ _ ?h1 ?k1
 case h1 =>
  refine Zuv F w2 ⟨[], u.aA, u.globals, 0⟩ A1 A2 A3 k1 k2 k3 u.procedures.length UB ZB (zh ⟨(HU.o.later (HLb.o.trans HL2.o)).rc, (HU.o.later (HLb.o.trans HL2.o)).gl, HB2.o⟩) hglb hszr (zh ?hf1)
  case hf1 => exact FrU.mk' rfl rfl rfl rfl rfl rfl rfl rfl rfl rfl rfl rfl rfl
 case k1 =>
 rintro a' w3 ⟨OB, Ae, ce, Ag, cg, R, U, hf, hs⟩;obtain ⟨fr, rfl⟩ := hf.opn;have HS3 := zh hs;have HB3 := zh ((Below.block hs.bel _ (Za HB2.o)).trans HB2.o);clear hf hs;have g0 := cz3 HB3.o;have fg0 := fz HB3.o;go_wp2_with fail;refine wp_loop_ghost_k (fun g a wr => ∃ (j : Nat) (H : Nat → Prop) (rv v7 v8 v10 v11 v12 : Value), g + j = u.procedures.length ∧ FrU UB ZB (.pointer (some ⟨OB, 0, none⟩)) v7 v8 v10 v11 v12 (.slice A3 u.procedures.length k3) (.int .i64 u.procedures.length) (.int .i64 j) a ∧ LuS w2 wr OB ((u.procedures.take j).map (rtU N u)) u.aA u.globals (mnU u j) H R U rv (.slice Ae u.aA.length ce) (.slice Ag u.globals.length cg)) u.procedures.length ⟨0, _, _, _, _, _, _, _, by omega, FrU.mk' rfl rfl rfl rfl rfl rfl rfl rfl rfl rfl rfl rfl rfl, HS3.o⟩ ?_;clear g0 fg0 fr;rintro gk a wr ⟨j, H, rv, v7, v8, v10, v11, v12, hg, hf, hs⟩ J K' hJ hK;obtain ⟨fr, rfl⟩ := hf.opn;clear hf;have hj : j ≤ u.procedures.length := by omega
 obtain ⟨M, hM⟩ : ∃ z, z = (u.procedures.take j).map (rtU N u) := ⟨_, rfl⟩;rw [← hM] at hs;have HM := zh hM;obtain ⟨Ar, cr, rfl, -⟩ := id hs.rr;have HSr := zh hs;have HL := zh (show Zb w1 wr from HL2.o.trans hs.bel);have HBk := zB HL HB;clear hM hs;have g0 := cz3 HBk.o;have fg0 := fz HBk.o
 by_cases hlt : j < u.procedures.length
 ·have hlt' : (j : Int) < (u.procedures.length : Int) := by omega
  have HOQ := zh (Zcg (Zex HOC.o.ok hlt));have HPR := zh (HOC.o.pr j hlt).2;have HUr := zh (HU.o.later (HLb.o.trans HL.o));obtain ⟨pb, po, Ap, Al, Ab, kp, kl, kb, eA, hat⟩ := HUr.o.proc hlt;cases eA;have hlp := hat.lp;have hll := hat.ll;obtain ⟨q, hv_⟩ : ∃ z, z = u.procedures[j] := ⟨_, rfl⟩;rw [← hv_] at hat hlp hll;have HV_ := zh hv_;have HAT := zh hat;have d0 := hat.c0;have d1 := hat.c1;have d2 := hat.c2;have d3 := hat.c3;have d4 := hat.c4;have d5 := hat.c5;have d6 := hat.c6;have d7 := hat.c7;have d8 := hat.c8;clear hat hv_;obtain ⟨w4, hla, HRB, hw4⟩ := aN wr (.cells #[.string q.name, .slice Ap q.params.length kp, .slice Al q.locals.length kl, .int .i64 q.body.kind, .string q.body.text, .int .i64 q.body.aB, .int .i64 q.body.line, .slice Ab q.body.kids.length kb, .int .i64 q.line] 106);replace HRB := zh HRB;have HA4 := zh hla;have HL4 := zh (Zb.trans HL.o hla);have HW4 := zh hw4;have HB4 := yC hla HBk;obtain ⟨QB, hRB⟩ : ∃ z, wr.heap.size = z := ⟨_, rfl⟩;rw [hRB] at HRB;have HRE := zh hRB;clear hla hw4 hRB;go_upto_region 8 with (fail);rw [HW4.o, HRE.o];clear d0 d1 d2 d3 d4 d5 d6 d7 d8;rw [← HV_.o] at HOQ HPR;clear g0 fg0;have g0 := cz3 HB4.o;have fg0 := fz HB4.o;go_wp2_with fail;refine (Zlp N F w4 u _ _ _ k1 k2 k3 (HU.o.later (HLb.o.trans HL4.o)) (HT.o.below HL4.o) HOC.o.ok j hlt).mono ?_;rintro e w5 ⟨v5, rfl, hr5, hl5⟩;obtain ⟨L, hL⟩ : ∃ z, z = Zbn u u.procedures[j] := ⟨_, rfl⟩;rw [← hL] at hr5;obtain ⟨An, cn, rfl, -, -⟩ := hr5.form
  have HLE := zh hL;have HN5 := zh hr5;have HL5 := zh hl5;have HB5 := yC hl5 HB4;have HQ5 := yC hl5 HRB;rw [show Zbn u q = L by rw [HLE.o, HV_.o]] at HPR;clear hL hr5 hl5;clear g0 fg0;have g0 := cz3 HB5.o;have fg0 := fz HB5.o;go_upto_region 10 with (fail);obtain ⟨w6, LB, hl, hn, h1, h2⟩ := al w5 (.cells #[.slice A1 u.aA.length k1, .slice A2 u.globals.length k2, .slice (some ⟨pb, po, none⟩) u.procedures.length k3, .int .i64 j, .int .i64 L.length, .int .i64 0] TLw);rw [h1, h2];have HLW6 := zh hn;have HLW6E := zh h2;have HL6 := zh hl;clear hl hn h1 h2;clear g0 fg0;have HQ6 := zB HL6 HQ5;have r0 := cz9 HQ6.o;have fr0 := fz HQ6.o;go_upto_region 11 with (fail);obtain ⟨w7, RX, hl, hn, h1, h2⟩ := al w6 (.cells #[.string q.name, .int .i64 q.params.length, .slice An L.length cn, .int .i64 0, .int .i64 0, .int .i64 0, .int .i64 0, .string ⟨#[]⟩, .slice none 0 0] TRt);rw [h1, h2];have HRX7 := zh hn;have HRX7E := zh h2;have HL7 := zh hl;clear hl hn h1 h2;clear r0 fr0;have HQ7 := zB HL7 HQ6;have HLA7 := zh (show Zb w4 w7 from HL5.o.trans (HL6.o.trans HL7.o));have HLW7 := zB HL7 HLW6;have hszs : w.heap.size ≤ w4.heap.size ∧ w4.heap.size ≤ w5.heap.size ∧ w5.heap.size = LB ∧ LB < RX ∧ RX < w7.heap.size ∧ QB < w4.heap.size ∧ wr.heap.size = QB := ⟨(HLb.o.trans HL4.o).size, HL5.o.size, HLW6E.o, by have := Za HLW6.o; have := HRX7E.o; omega, Za HRX7.o, Za HRB.o, HRE.o⟩;have HSZS := zh hszs
  have HLI := zh (show LwI (⟨N, F, u, A1, A2, some ⟨pb, po, none⟩, k1, k2, k3, j, L⟩ : Zaz) LB 0 w7 from ⟨HLW7.o, HU.o.later (HLb.o.trans (HL4.o.trans HLA7.o)), HT.o.below (HL4.o.trans HLA7.o), fun b hb => by have := HU.o.flt b hb; omega, by have := HSPL.o; omega, HOC.o.ok, ⟨hlt, HLE.o⟩⟩);have HLC := zh (show LoC (⟨N, F, u, A1, A2, some ⟨pb, po, none⟩, k1, k2, k3, j, L⟩ : Zaz) N q.body 0 from ⟨HOQ.o.2.2.2.2.1, Zld u L (N + 1) q.body (q.params ++ q.locals) (fun s hs => by rw [HLE.o, ← HV_.o]; exact hs), by have := HPR.o; omega, by have := HPR.o; show L.length ≤ 1000; omega⟩);clear hszs;obtain ⟨C, hC⟩ : ∃ z, z = low u L (N + 1) q.body ((L.length + 0 : Nat) : Int) := ⟨_, rfl⟩;have HC := zh hC;have r0 := cz9 HQ7.o;have fr0 := fz HQ7.o;go_wp2_with fail;refine (Zlt N (⟨N, F, u, A1, A2, some ⟨pb, po, none⟩, k1, k2, k3, j, L⟩ : Zaz) LB 0 w7 q.body Ab kb HLI.o (HAT.o.ev.later (HA4.o.trans HLA7.o)) HLC.o).mono ?_;rintro e w8 hp;obtain ⟨Ac, qc, rfl, hcv⟩ := hp.core;rw [show low ((⟨N, F, u, A1, A2, some ⟨pb, po, none⟩, k1, k2, k3, j, L⟩ : Zaz)).u ((⟨N, F, u, A1, A2, some ⟨pb, po, none⟩, k1, k2, k3, j, L⟩ : Zaz)).L (N + 1) q.body ((((⟨N, F, u, A1, A2, some ⟨pb, po, none⟩, k1, k2, k3, j, L⟩ : Zaz)).L.length + 0 : Nat) : Int) = C from hC.symm] at hcv ⊢;have HCV := zh hcv;have HT8 := zh hp.tn;have HS8 := zh hp.st;have HQ8 := zh (hp.tn.has HQ7.o (by have := HSZS.o; omega));have HR8 := zh (hp.tn.has HRX7.o (by have := HSZS.o; omega));clear hp hcv hC
  clear r0 fr0;have x0 := cz9 HR8.o;have fx0 := fz HR8.o;go_upto_region 12 with (fail);clear x0 fx0;obtain ⟨w9, h9⟩ : ∃ z, ((((((w8.setCell ⟨RX, 3, none⟩ (.int .i64 C.kind)).setCell ⟨RX, 4, none⟩ (.int .i64 C.op)).setCell ⟨RX, 5, none⟩ (.int .i64 C.aB)).setCell ⟨RX, 6, none⟩ (.int .i64 C.line)).setCell ⟨RX, 7, none⟩ (.string C.text)).setCell ⟨RX, 8, none⟩ (.slice Ac C.kids.length qc)) = z := ⟨_, rfl⟩;have HR9 := zh (show w9.heap[RX]? = some (.cells #[.string q.name, .int .i64 q.params.length, .slice An L.length cn, .int .i64 C.kind, .int .i64 C.op, .int .i64 C.aB, .int .i64 C.line, .string C.text, .slice Ac C.kids.length qc] TRt (0, 0)) by rw [← h9]; exact Z0 (Z0 (Z0 (Z0 (Z0 (Z0 HR8.o _) _) _) _) _) _);have HT9 := zh (show Tn (fun b => b = RX) w8 w9 by rw [← h9]; exact (((((((Tn.refl (fun b => b = RX) w8).set rfl _ _).set rfl _ _).set rfl _ _).set rfl _ _).set rfl _ _).set rfl _ _));rw [h9];clear h9;have HT79 := zh (show Tn (fun b => b = LB ∨ b = RX) w7 w9 from HT8.o.trans HT9.o (fun _ h => .inl h) (fun _ _ h => .inr h));have HQ9 := zh (HT9.o.has HQ8.o (by have := HSZS.o; omega));have HL49 := zh (show Zb w4 w9 from Below.trans HLA7.o (Zde HT79.o.keep HT79.o.below (fun b hb => by have := HSZS.o; omega) HLA7.o.size));have HN9 := zh (show Zax w4 w9 L (.slice An L.length cn) from ⟨HN5.o.row.same fun b e => by
   have h1 := HN5.o.own e;have h2 := HSZS.o;exact (HT79.o.keep.same b (by omega) (by have := (HL6.o.trans HL7.o).size; omega)).trans ((HL6.o.trans HL7.o).block b h1.2), HN5.o.small⟩)
  have HLB9 := zh (HT9.o.has HS8.o.blk (by have := HSZS.o; omega));have HOWN := zh (fun b (e : (Value.slice An L.length cn).ownBlock = some b) => HN5.o.own e)
  go_upto_block 2 with (fail)
  refine @Z8 _ luLp ?R2 _ _ _ _ ?h2 ?k2
  case h2 =>
   refine Zux w4 w9 UB ZB LB RX (0 + csX q.body) q.name q.params.length C (.slice Ac C.kids.length qc) (.slice An L.length cn) L (.slice A1 u.aA.length k1) (.slice A2 u.globals.length k2) (.slice (some ⟨pb, po, none⟩) u.procedures.length k3) (.int .i64 j) (.int .i64 L.length) (.pointer (some ⟨OB, 0, none⟩)) (.int .i64 j) (.pointer (some ⟨QB, 0, none⟩)) (.slice (some ⟨pb, po, none⟩) u.procedures.length k3) (.int .i64 u.procedures.length) (.int .i64 j) HR9 HN9 HLB9 HL49 (zh ⟨by have := HSZS.o; omega, by have := HSZS.o; omega, fun e => by have := HOWN.o _ e; have := HSZS.o; omega, fun e => by have := HOWN.o _ e; have := HSZS.o; omega⟩) (zh (by have := HPR.o; omega)) (zh ?hf2)
   case hf2 => exact FrU.mk' rfl rfl rfl rfl rfl rfl rfl rfl rfl rfl rfl rfl rfl
  case k2 =>
  rintro a' y ⟨hf, sv2, hrx, hnr, hng⟩;obtain ⟨fr2, rfl⟩ := hf.opn;rw [Nat.zero_add] at hnr;obtain ⟨SL, hSL⟩ : ∃ z, z = L ++ List.replicate (csX q.body) (⟨#[]⟩ : ByteArray) := ⟨_, rfl⟩;rw [← hSL] at hnr;have HSL := zh hSL;obtain ⟨As, cs, rfl, -, -⟩ := hnr.form;have HRXy := zh hrx;have HNy := zh hnr;have HNG := zh hng;have HLy := zh (show Zb wr y from HA4.o.trans hng.la);have HSy := zh (HSr.o.later HLy.o);have HQy := zh ((hng.kp.same QB ⟨by have := HSZS.o; omega, fun e => by have := HOWN.o _ e; have := HSZS.o; omega⟩ (Za HQ9.o)).trans HQ9.o);clear hf hrx hnr hng hSL;have o0 := cz4 HSy.o.ob;have fo0 := fz HSy.o.ob;have x0 := cz9 HRXy.o;have fx0 := fz HRXy.o;obtain ⟨iS, hiS, hz0, hz1, hz2⟩ := info_parts Zus;have hX2 : Zb y (y.alloc (.cells #[.string q.name, .int .i64 q.params.length, .slice As SL.length cs, .int .i64 C.kind, .int .i64 C.op, .int .i64 C.aB, .int .i64 C.line, .string C.text, .slice Ac C.kids.length qc] TRt)) := (Zb.refl _).alloc _;have HX2 := zh hX2;have HROW2 := zh (HSy.o.rr.later Zez.is hX2);have HCVy := zh (show CV (Iv w7.heap.size w8.heap.size) y C (.slice Ac C.kids.length qc) from (HCV.o.keep (fun _ h => h) (HT9.o.keeps fun b hb e => by have := hb.1; have := HSZS.o; omega)).keep (fun _ h => h) (HNG.o.kp.mono fun b hb => ⟨by have := hb.1; have := HSZS.o; omega, fun e => by have := HOWN.o _ e; have := hb.1; have := HSZS.o; omega⟩));have HOWS := zh (show ∀ b, (Value.slice As SL.length cs).ownBlock = some b → ((w4.heap.size ≤ b ∧ b < w5.heap.size) ∨ w9.heap.size ≤ b) ∧ b < y.heap.size from fun b e => by
   refine ⟨?_, (HNy.o.own e).2⟩
   rcases HNG.o.nw with h1 | ⟨B, hB, h1⟩
   ·exact .inl (HOWN.o _ (h1 ▸ e))
   ·rw [h1] at e; cases e; exact .inr hB)
  have HRT := zh (show rtU N u q = ⟨q.name, (q.params.length : Nat), SL, C⟩ by
   unfold rtU;rw [show Zbn u q = L by rw [HLE.o, HV_.o], ← HSL.o, HC.o]
   rfl)
  have hdis : ∀ b, (Value.slice As SL.length cs).ownBlock = some b → ¬ Iv w7.heap.size w8.heap.size b := fun b hb hk => by
   have h1 := HOWS.o b hb;have h2 := hk.1;have h3 := hk.2;have h4 := HSZS.o;have h5 := HT9.o.size;have h6 := (HL6.o.trans HL7.o).size
   omega
  have hel : Zb4 Zbe (fun b => (Value.slice As SL.length cs).ownBlock = some b ∨ Iv w7.heap.size w8.heap.size b) y ⟨q.name, (q.params.length : Nat), SL, C⟩ [.string q.name, .int .i64 q.params.length, .slice As SL.length cs, .int .i64 C.kind, .int .i64 C.op, .int .i64 C.aB, .int .i64 C.line, .string C.text, .slice Ac C.kids.length qc] := Zlj HAT.o.nm (by unfold Zy; omega) HNy.o.spO HCVy.o (fun b hb => ⟨.inl hb, hdis b hb⟩) (fun b hb => .inr hb);rw [← HRT.o] at hel;have HEL := zh (Zez.is.keep hel (fun _ h => h) (Zc.later hX2));clear hdis hel;have HNO := zh (show ∀ b, ((Value.slice As SL.length cs).ownBlock = some b ∨ Iv w7.heap.size w8.heap.size b) → ¬ H b from fun b hb hh => by
   have h1 := (HSr.o.d b (.inl hh)).2.1;have h4 := HSZS.o;have h5 := HT79.o.size
   rcases hb with hb | hb
   ·have := HOWS.o b hb; have := HL49.o.size; omega
   ·have := hb.1; omega)
  have hml : M.length ≤ 134217728 := by rw [HM.o]; have := (Za9 HOC.o.ok).2.2; simp; omega
  obtain ⟨M2, hM2⟩ : ∃ z, z = M ++ [rtU N u q] := ⟨_, rfl⟩;have HM2 := zh hM2;clear hX2 hM2
  repeat (go_not_at_region 17; first | (go_says (at_builtin; refine Za4 Zez rfl _ _ 35 rfl TRt iS (.agg #[.string ⟨#[]⟩, .int .i64 0, .slice none 0 0, .int .i64 0, .int .i64 0, .int .i64 0, .int .i64 0, .string ⟨#[]⟩, .slice none 0 0]) 120 Tryz.underlying35 hiS hz0 hz1 hz2 rfl rfl HROW2.o ⟨y.heap.size, 0, none⟩ 1 rfl (rtU N u q) [.string q.name, .int .i64 q.params.length, .slice As SL.length cs, .int .i64 C.kind, .int .i64 C.op, .int .i64 C.aB, .int .i64 C.line, .string C.text, .slice Ac C.kids.length qc] (Zg5 y _ TRt) (Zy5 _ _ _ _ _ _ _ _ _ rfl rfl rfl rfl rfl rfl rfl rfl rfl) HEL.o HNO.o hml (by decide) ?_; intro v2 Y hrow hkp hb0; rw [← HM2.o] at hrow; obtain ⟨A2', c2, rfl, -⟩ := id hrow; have HRW := zh hrow; have HKP := zh hkp; have HB0 := zh hb0; have hcy := (hkp.same OB (fun hh => (HSr.o.d OB (.inl hh)).2.2 rfl) (Nat.lt_of_lt_of_le (Za HSy.o.ob) HX2.o.size)).trans ((HX2.o.block _ (Za HSy.o.ob)).trans HSy.o.ob); clear hrow hkp hb0 x0 fx0 o0 fo0; have o0 := cz4 hcy; have fo0 := fz hcy; clear hcy)) | go_values | go_skip | go_guarded | go_step | go_upon | go_back)
  clear o0 fo0;have hps := HSr.o.pushH (HLy.o.trans HX2.o) (a := rtU N u q) (E := fun b => (Value.slice As SL.length cs).ownBlock = some b ∨ Iv w7.heap.size w8.heap.size b) (fun b hb => by
   have h4 := HSZS.o;have h5 := HT79.o.size;have h6 := HNG.o.kp.size;have h7 := HX2.o.size;have h8 := HT9.o.size
   rcases hb with hb | hb
   ·have := HOWS.o b hb; have := HL49.o.size; omega
   ·have := hb.1; have := hb.2; omega) (HM2.o ▸ HRW.o) HKP.o HB0.o
  rw [← HM2.o] at hps;have HQY := zh (show (Y.setCell ⟨OB, 0, none⟩ (.slice A2' M2.length c2)).heap[QB]? = some (.cells #[.string q.name, .slice Ap q.params.length kp, .slice Al q.locals.length kl, .int .i64 q.body.kind, .string q.body.text, .int .i64 q.body.aB, .int .i64 q.body.line, .slice Ab q.body.kids.length kb, .int .i64 q.line] 106 (0, 0)) from (Below.heap_setCell _ _ _ _ (show QB ≠ OB by have := (Za HSr.o.ob); have := HSZS.o; omega)).trans ((HKP.o.same QB (fun hh => by have := (HSr.o.d QB (.inl hh)).2.1; have := HSZS.o; omega) (Nat.lt_of_lt_of_le (Za HQy.o) HX2.o.size)).trans ((HX2.o.block _ (Za HQy.o)).trans HQy.o)));obtain ⟨y2, hy2⟩ : ∃ z, Y.setCell ⟨OB, 0, none⟩ (.slice A2' M2.length c2) = z := ⟨_, rfl⟩;rw [hy2] at hps HQY ⊢;have HPS := zh hps;clear hps hy2;have r0 := cz9 HQY.o;have fr0 := fz HQY.o;obtain ⟨b, hb⟩ : ∃ t : Bool, (q.name.toList == [109, 97, 105, 110]) = t := ⟨_, rfl⟩;have HBN := zh (show (bl q.name = [109, 97, 105, 110]) ↔ b = true by rw [← hb, beq_iff_eq, Zas]);have HMS := zh (show M2 = (u.procedures.take (j + 1)).map (rtU N u) by rw [HM2.o, HM.o, Zlg hlt, HV_.o])
  cases b with
  | true =>
   have o0 := cz4 HPS.o.ob;have fo0 := fz HPS.o.ob;go_wp2_with fail;refine Handed.intro (gk - 1) (by omega) (hJ _ _ _ ⟨j + 1, _, _, _, _, _, _, _, by omega, FrU.mk' rfl rfl rfl rfl rfl rfl rfl rfl rfl rfl rfl rfl (congrArg some (congrArg (Value.int .i64) (by first | rfl | (rw [IntWalk.wrap64_in _ (by omega)]; rfl)))), (HPS.o.main (j : Int)).eqs HMS.o (Zqu hlt (by rw [← HV_.o]; exact HBN.o.2 (by simp))).symm⟩)
  | false =>
   go_wp2_with fail;refine Handed.intro (gk - 1) (by omega) (hJ _ _ _ ⟨j + 1, _, _, _, _, _, _, _, by omega, FrU.mk' rfl rfl rfl rfl rfl rfl rfl rfl rfl rfl rfl rfl (congrArg some (congrArg (Value.int .i64) (by first | rfl | (rw [IntWalk.wrap64_in _ (by omega)]; rfl)))), HPS.o.eqs HMS.o (Zui hlt (by rw [← HV_.o]; exact fun h => by have := HBN.o.1 h; cases this)).symm⟩)
 ·obtain rfl : j = u.procedures.length := by omega
  rw [List.take_length] at HM;have HZr := zh ((Below.block HL.o _ (Za HZ.o)).trans HZ.o);have hm64 : Zy (mnU u u.procedures.length) := by have := Zni u u.procedures.length; unfold Zy; omega
  have HD := zh (HSr.o.done hm64 (HLb.o.trans HL2.o) HZB.o.1 (Nat.lt_of_lt_of_le HZB.o.2 HL2.o.size) true);clear hm64;have o0 := cz4 HSr.o.ob;have fo0 := fz HSr.o.ob;have z0 := cz4 HZr.o;have fz0 := fz HZr.o;go_wp2_with fail;have hd := HD.o;simp only [Zb3, Nat.zero_add, Nat.reduceAdd] at hd;rw [show Rr = (⟨M, u.aA, u.globals, mnU u u.procedures.length⟩, true) by rw [HR.o, HM.o]; unfold lwR Zv8; rw [if_pos HOC.o, List.take_length]];exact bodyPost_ret (v := .tuple #[.agg #[.slice Ar M.length cr, .slice Ae u.aA.length ce, .slice Ag u.globals.length cg, .int .i64 (mnU u u.procedures.length)], .bool true]) (by simp [results, Tryz.results17, go_sem, z0, fz0]) rfl hd
section
def FrV (UB ZB : Nat) (v6 v7 v8 v9 v10 v11 v12 v13 v14 : Value) (a : Act) : Prop := Fr 107 [(1, .pointer (some ⟨UB, 0, none⟩)), (2, .pointer (some ⟨ZB, 0, none⟩)), (3, .bool false), (6, v6), (7, v7), (8, v8), (9, v9), (10, v10), (11, v11), (12, v12), (13, v13), (14, v14)] a
section
variable {UB ZB : Nat} {v6 v7 v8 v9 v10 v11 v12 v13 v14 : Value} {a : Act}
theorem FrV.opn (h : FrV UB ZB v6 v7 v8 v9 v10 v11 v12 v13 v14 a) : ∃ f : Nat → Value, a = ⟨#[f 0, .pointer (some ⟨UB, 0, none⟩), .pointer (some ⟨ZB, 0, none⟩), .bool false, f 4, f 5, v6, v7, v8, v9, v10, v11, v12, v13, v14, f 15, f 16, f 17, f 18, f 19, f 20, f 21, f 22, f 23, f 24, f 25, f 26, f 27, f 28, f 29, f 30, f 31, f 32, f 33, f 34, f 35, f 36, f 37, f 38, f 39, f 40, f 41, f 42, f 43, f 44, f 45, f 46, f 47, f 48, f 49, f 50, f 51, f 52, f 53, f 54, f 55, f 56, f 57, f 58, f 59, f 60, f 61, f 62, f 63, f 64, f 65, f 66, f 67, f 68, f 69, f 70, f 71, f 72, f 73, f 74, f 75, f 76, f 77, f 78, f 79, f 80, f 81, f 82, f 83, f 84, f 85, f 86, f 87, f 88, f 89, f 90, f 91, f 92, f 93, f 94, f 95, f 96, f 97, f 98, f 99, f 100, f 101, f 102, f 103, f 104, f 105, f 106], []⟩ := by
 obtain ⟨f, e, hf⟩ := Fr.lit h;obtain ⟨h1, h2, h3, h6, h7, h8, h9, h10, h11, h12, h13, h14, -⟩ := h.has;refine ⟨f, e.trans ?_⟩;have k1 := Zi h1 (hf 1 (by omega));have k2 := Zi h2 (hf 2 (by omega));have k3 := Zi h3 (hf 3 (by omega));have k6 := Zi h6 (hf 6 (by omega));have k7 := Zi h7 (hf 7 (by omega));have k8 := Zi h8 (hf 8 (by omega));have k9 := Zi h9 (hf 9 (by omega));have k10 := Zi h10 (hf 10 (by omega));have k11 := Zi h11 (hf 11 (by omega));have k12 := Zi h12 (hf 12 (by omega));have k13 := Zi h13 (hf 13 (by omega));have k14 := Zi h14 (hf 14 (by omega));rw [← k1];rw [← k2];rw [← k3];rw [← k6];rw [← k7];rw [← k8];rw [← k9];rw [← k10];rw [← k11];rw [← k12];rw [← k13];rw [← k14]
 rfl
theorem FrV.mk' {A : Array Value} (hs : A.size = 107) (h1 : A[1]? = some (.pointer (some ⟨UB, 0, none⟩))) (h2 : A[2]? = some (.pointer (some ⟨ZB, 0, none⟩))) (h3 : A[3]? = some (.bool false)) (h6 : A[6]? = some (v6)) (h7 : A[7]? = some (v7)) (h8 : A[8]? = some (v8)) (h9 : A[9]? = some (v9)) (h10 : A[10]? = some (v10)) (h11 : A[11]? = some (v11)) (h12 : A[12]? = some (v12)) (h13 : A[13]? = some (v13)) (h14 : A[14]? = some (v14)) : FrV UB ZB v6 v7 v8 v9 v10 v11 v12 v13 v14 ⟨A, []⟩ := ⟨hs, rfl, h1, h2, h3, h6, h7, h8, h9, h10, h11, h12, h13, h14, trivial⟩
end
noncomputable def luNx : Code := cL (cR (cR (cR (cR (cR (cB (cL (cR (cB (cB (cR (cL (cR (cR (cR (cR (cR (Zal Tryz.f15))))))))))))))))))
noncomputable def luRl : Code := cR (cL (cR (cR (cR (cR (Zal Tryz.f15))))))
theorem Zvf {a : Act} (wn x0 : World) (UB ZB LB n T : Nat) (sv : Value) (ns : List ByteArray) (u0 u1 u2 u3 v6 v7 v8 v9 v10 v11 v13 : Value)
  (HN : Hd (Zax wn x0 ns sv)) (HLB : Hd (x0.heap[LB]? = some (.cells #[u0, u1, u2, u3, .int .i64 T] TLs (0, 0)))) (HL : Hd (Zb wn x0)) (HG : Hd (sv.ownBlock ≠ some LB ∧ ns.length + n = T)) (HNN : Hd (ns.length + n ≤ 24)) (HF : Hd (FrV UB ZB v6 v7 v8 v9 v10 v11 (.pointer (some ⟨LB, 0, none⟩)) v13 (sv) a)) :
  luNx.wp Tryz.prog (Zc0 fun a' y => ∃ sv2, FrV UB ZB v6 v7 v8 v9 v10 v11 (.pointer (some ⟨LB, 0, none⟩)) v13 (sv2) a' ∧ Zax wn y (ns ++ List.replicate n ⟨#[]⟩) sv2 ∧ NmG wn x0 x0.heap.size sv y sv2) a x0 := by
 obtain ⟨iS, hiS, hz0, hz1, hz2⟩ := info_parts Zd2;have HF0 := HF;obtain ⟨fr, rfl⟩ := HF.o.opn;clear HF
 conv => arg 2; whnf
 go_wp2_with fail;refine wp_loop_ghost_k (fun g a x => ∃ (i : Nat) (sv2 : Value), g + i = n ∧ FrV UB ZB v6 v7 v8 v9 v10 v11 (.pointer (some ⟨LB, 0, none⟩)) v13 (sv2) a ∧ Zax wn x (ns ++ List.replicate i ⟨#[]⟩) sv2 ∧ NmG wn x0 x0.heap.size sv x sv2) n ⟨0, sv, by omega, HF0.o, by simpa using HN.o, NmG.refl HL.o⟩ ?_;clear HF0 fr;rintro gk a wr ⟨i, sv2, hg, hf, hnr, hng⟩ J K' hJ hK;obtain ⟨M, hM⟩ : ∃ z, z = ns ++ List.replicate i (⟨#[]⟩ : ByteArray) := ⟨_, rfl⟩;rw [← hM] at hnr;have HML := zh (show M.length = ns.length + i by rw [hM]; simp);have HM := zh hM;clear hM;obtain ⟨Av, cv, rfl, -, -⟩ := hnr.form;obtain ⟨fr, rfl⟩ := hf.opn;have HNR := zh hnr;have HNG := zh hng;have HLr := zh ((hng.kp.same LB ⟨by have := Za HLB.o; omega, HG.o.1⟩ (Za HLB.o)).trans HLB.o);clear hf hnr hng;have b0 := Z1 HLr.o;have fb0 := fz HLr.o
 by_cases hlt : i < n
 ·have hlt' : (M.length : Int) < (T : Int) := by have := HML.o; have := HG.o.2; omega
  have hlen : M.length + 1 ≤ 2097152 := by have := HML.o; have := HNN.o; omega
  obtain ⟨M2, hM2⟩ : ∃ z, z = M ++ [(⟨#[]⟩ : ByteArray)] := ⟨_, rfl⟩;have HM2 := zh hM2;clear hM2;have HX := zh (show Zb wr (wr.alloc (.cells #[.string ⟨#[]⟩] Zc3)) from (Zb.refl _).alloc _);have HNX := zh (HNR.o.later HX.o)
  go_wp2_with (at_builtin; go_loud (refine Zai (w0 := wn) rfl _ _ 24 rfl iS Tryz.underlying24 hiS hz0 hz1 hz2 rfl HNX.o (HNG.o.la.trans HX.o) rfl (Zd1 wr (by decide)) (by simpa using hlen) ?_; intro v2 Y hrow hgr; rw [← HM2.o] at hrow; obtain ⟨A2, c2, rfl, -, -⟩ := hrow.form; have HROW := zh hrow; have HGR := zh hgr; clear hrow hgr b0 fb0))
  refine Handed.intro (gk - 1) (by omega) (hJ _ _ _ ⟨i + 1, _, by omega, FrV.mk' rfl rfl rfl rfl rfl rfl rfl rfl rfl rfl rfl rfl rfl, ?_, HNG.o.grow HX.o HGR.o fun b e => (HNR.o.own e).1⟩);rw [List.replicate_succ', ← List.append_assoc, ← HM.o, ← HM2.o];exact HROW.o
 ·obtain rfl : i = n := by omega
  have hn : ¬ (M.length : Int) < (T : Int) := by have := HML.o; have := HG.o.2; omega
  go_wp2_with fail;exact ⟨_, FrV.mk' rfl rfl rfl rfl rfl rfl rfl rfl rfl rfl rfl rfl rfl, HM.o ▸ HNR.o, HNG.o⟩
end
theorem LuS.eqr {w0 w : World} {OB : Nat} {rts : List Zbi} {recs recs' : List Z3} {gls : List ByteArray} {mn : Int} {H R U : Nat → Prop} {rv ev gv : Value} (h : LuS w0 w OB rts recs gls mn H R U rv ev gv) (e : recs = recs') : LuS w0 w OB rts recs' gls mn H R U rv ev gv := by subst e; exact h
theorem Zwt {w : World} {B : Nat} {l : List Value} {T : TypeId} (h : w.heap[B]? = some (.cells l.toArray T (0, 0))) : ∀ j u, l[j]? = some u → w.cell? ((⟨B, 0, none⟩ : Addr).add j) = some u := fun j u hj => by
 rw [show (⟨B, 0, none⟩ : Addr).add j = ⟨B, j, none⟩ by unfold Addr.add; split <;> simp_all, cell_of_row _ _ _ _ _ _ h]
 simpa using hj
theorem UV.line {N : Nat} {F : Nat → Prop} {w : World} {u : Zt} {A1 A2 A3 : Option Addr} {k1 k2 k3 : Nat} (h : UV N F w u A1 A2 A3 k1 k2 k3) {i : Nat} (hi : i < u.aA.length) : Zy u.aA[i].line := by
 obtain ⟨_, _, _, _, _, hel⟩ := h.rc;obtain ⟨_, _, _, _, _, _, ⟨_, _, _, _, h2⟩, _⟩ := hel i hi;exact h2
theorem Zzj (a b c : Value) (h0 : a.oneCell' = true) (h1 : b.oneCell' = true) (h2 : c.oneCell' = true) : ∀ u ∈ [a, b, c], u.oneCell' = true := by
 intro u hu;simp only [List.mem_cons, List.not_mem_nil, or_false] at hu
 rcases hu with rfl | rfl | rfl <;> assumption
theorem Zvg {a : Act} (N : Nat) (F : Nat → Prop) (u : Zt) (A1 A2 A3 : Option Addr) (k1 k2 k3 : Nat) (w2 x0 : World) (UB ZB OB : Nat) (U : Nat → Prop) (gv v8 v9 v10 v11 v12 v13 v14 : Value) (HU : Hd (UV N F w2 u A1 A2 A3 k1 k2 k3)) (HB : Hd (w2.heap[UB]? = some (.cells #[.slice A1 u.aA.length k1, .slice A2 u.globals.length k2, .slice A3 u.procedures.length k3] 52 (0, 0)))) (hszr : Zp Zk u.aA ≤ 2097152) (HS : Hd (LuS w2 x0 OB [] [] u.globals 0 (fun _ => False) (fun _ => False) U (.slice none 0 0) (.slice none 0 0) gv)) (HF : Hd (FrV UB ZB (.pointer (some ⟨OB, 0, none⟩)) (.int .i64 0) (v8) v9 v10 v11 v12 v13 v14 a)) :
  luRl.wp Tryz.prog (Zc0 fun a' y => (∃ v7 v8, FrV UB ZB (.pointer (some ⟨OB, 0, none⟩)) (v7) (v8) v9 v10 v11 v12 v13 v14 a') ∧ ∃ R ev, LuS w2 y OB [] u.aA u.globals 0 (fun _ => False) R U (.slice none 0 0) ev gv) a x0 := by
 obtain ⟨iS, hiS, hz0, hz1, hz2⟩ := info_parts Zem;obtain ⟨iR, hiR, hr0, hr1, hr2⟩ := info_parts Zew;have hn1 := HU.o.len.1;have hrl : u.aA.length ≤ 2097152 := by unfold Zp at hszr; omega
 have HSZ := zh hszr;have HF0 := HF;obtain ⟨fr, rfl⟩ := HF.o.opn;clear HF hszr
 conv => arg 2; whnf
 go_wp2_with fail;refine wp_loop_ghost_k (fun g a x => ∃ (j : Nat) (R : Nat → Prop) (ev v8 : Value), g + j = u.aA.length ∧ FrV UB ZB (.pointer (some ⟨OB, 0, none⟩)) (.int .i64 j) (v8) v9 v10 v11 v12 v13 v14 a ∧ LuS w2 x OB [] (u.aA.take j) u.globals 0 (fun _ => False) R U (.slice none 0 0) ev gv) u.aA.length ⟨0, _, _, _, by omega, HF0.o, by simpa using HS.o⟩ ?_;clear HF0 fr;rintro gk a wr ⟨j, R, ev, v8, hg, hf, hs⟩ J K' hJ hK;obtain ⟨fr, rfl⟩ := hf.opn;have hj : j ≤ u.aA.length := by omega
 obtain ⟨M, hM⟩ : ∃ z, z = u.aA.take j := ⟨_, rfl⟩;rw [← hM] at hs;have HM := zh hM;obtain ⟨Ae, ce, rfl, -⟩ := id hs.re;have HSr := zh hs;have HLr := zh (show Zb w2 wr from hs.bel);have HBr := zh ((Below.block hs.bel _ (Za HB.o)).trans HB.o);clear hf hM hs;have g0 := cz3 HBr.o;have fg0 := fz HBr.o
 by_cases hlt : j < u.aA.length
 ·have hlt' : (j : Int) < (u.aA.length : Int) := by omega
  have hln := HU.o.line hlt;obtain ⟨pb, po, As, ks, eA, hat⟩ := (HU.o.later HLr.o).rct hlt;cases eA;have hfl : u.aA[j].fields.length ≤ 2097152 := by
   have h1 := Zd9 Zk u.aA u.aA[j] (List.getElem_mem hlt);have h2 : Zk u.aA[j] = u.aA[j].name.size + (u.aA[j].fields.length + Za2 ByteArray.size u.aA[j].fields) := rfl;have h3 : u.aA.length + Za2 Zk u.aA ≤ 2097152 := HSZ.o
   omega
  obtain ⟨r, hv_⟩ : ∃ z, z = u.aA[j] := ⟨_, rfl⟩;rw [← hv_] at hat hfl hln;have HV_ := zh hv_;have HAT := zh hat;have HLN := zh hln;have d0 := hat.c0;have d1 := hat.c1;have d2 := hat.c2;clear hat hv_ hln;go_upto_region 9 with (fail);obtain ⟨w4, RB, hl, hn, h1, h2⟩ := al wr (.cells #[.string r.name, .slice As r.fields.length ks, .int .i64 r.line] TRe);rw [h1, h2];have HRB := zh hn;have HRBE := zh h2;have HL4 := zh hl;clear hl hn h1 h2;clear d0 d1 d2 g0 fg0;refine Zx [12, 13, 14] [] (by kernel_rfl) (fun W hW => ?_);have hlW : Zb w4 W := by rw [hW]; exact (Zb.refl _).drew
  have HLW := zh hlW;have HOW := zh (HSr.o.later (HL4.o.trans hlW)).ob;have HRW := yC hlW HRB;clear hlW hW;refine uU 0 40 ?_;simp only [yN];refine uU 1 41 (hy := fun x hx => by have hxo := (hx.block _ (Za HOW.o)).trans HOW.o; have hxr := (hx.block _ (Za HRW.o)).trans HRW.o; have o0 := cz4 hxo; have fo0 := fz hxo; have r0 := cz3 hxr; have fr0 := fz hxr; go_simp <;> with_reducible rfl) ?_;simp only [yN];refine uU 2 42 ?_;simp only [yN];refine uU 3 43 (hy := fun x hx => by have hxo := (hx.block _ (Za HOW.o)).trans HOW.o; have hxr := (hx.block _ (Za HRW.o)).trans HRW.o; have o0 := cz4 hxo; have fo0 := fz hxo; have r0 := cz3 hxr; have fr0 := fz hxr; go_simp <;> with_reducible rfl) ?_;simp only [yN];refine uU 5 45 ?_;simp only [yN];refine uU 6 46 (hy := fun x hx => by have hxo := (hx.block _ (Za HOW.o)).trans HOW.o; have hxr := (hx.block _ (Za HRW.o)).trans HRW.o; have o0 := cz4 hxo; have fo0 := fz hxo; have r0 := cz3 hxr; have fr0 := fz hxr; go_simp <;> with_reducible rfl) ?_;simp only [yN];refine uU 8 48 ?_;simp only [yN];refine uU 9 49 (hy := fun x hx => by have hxo := (hx.block _ (Za HOW.o)).trans HOW.o; have hxr := (hx.block _ (Za HRW.o)).trans HRW.o; have o0 := cz4 hxo; have fo0 := fz hxo; have r0 := cz3 hxr; have fr0 := fz hxr; go_simp <;> with_reducible rfl) ?_;simp only [yN];refine Z5 4 (by kernel_rfl) rfl rfl ?_
  go_wp2_with fail;obtain ⟨y1, B4, hl, hn, h1, h2⟩ := al W (.cells #[] 9);rw [h1, h2];have H4 := zh hn;have H4E := zh h2;have HL14 := zh hl;clear hl hn h1 h2;refine ⟨HL14.o, ?_⟩;refine Z5 7 (by kernel_rfl) rfl rfl ?_;refine Zcs Zfi (by decide) rfl _ _ 24 rfl 9 iS (.string ⟨#[]⟩) 16 Tryz.underlying24 hiS hz0 hz1 hz2 rfl rfl H4.o rfl (HAT.o.fl.later Zg (HL4.o.trans (HLW.o.trans HL14.o))) hfl (by decide) ?_;intro v6 y2 hr6 hl6;obtain ⟨A6, c6, rfl, -⟩ := id hr6;have HR6 := zh hr6;have HL6 := zh hl6;clear hr6 hl6;go_wp2_with fail;refine ⟨HL6.o, ?_⟩;refine uU 10 50 ?_;simp only [yN];refine Z5 11 (by kernel_rfl) rfl rfl ?_;go_wp2_with fail;obtain ⟨y3, B11, hl, hn, h1, h2⟩ := al y2 (.cells #[.string r.name, .slice A6 r.fields.length c6, .int .i64 r.line] TRe);rw [h1, h2];have H11 := zh hn;have H11E := zh h2;have HL11 := zh hl;clear hl hn h1 h2;refine ⟨HL11.o, ?_⟩;refine Z6 [_, _, _] (by kernel_rfl) rfl rfl ?_;simp only [gA, gB, gC];have HLA := zh (show Zb wr y3 from HL4.o.trans (HLW.o.trans (HL14.o.trans (HL6.o.trans HL11.o))));have HSy := zh (HSr.o.later HLA.o);have HROW2 := zh HSy.o.re;have hszs : wr.heap.size ≤ y1.heap.size ∧ y1.heap.size ≤ y2.heap.size ∧ y2.heap.size = B11 ∧ y2.heap.size ≤ y3.heap.size := ⟨(HL4.o.trans (HLW.o.trans HL14.o)).size, HL6.o.size, H11E.o, HL11.o.size⟩;have HSZS := zh hszs;have hel : Zac (fun b => y1.heap.size ≤ b ∧ b < y2.heap.size) y3 r [.string r.name, .slice A6 r.fields.length c6, .int .i64 r.line] := ⟨fun _ => 0, _, rfl, HAT.o.nm, (HR6.o.trim Zj).keep Zg (fun b hb => ⟨hb, rfl⟩) (Zc.later HL11.o), HLN.o⟩
  have HEL := zh hel;have HNO := zh (show ∀ b, (y1.heap.size ≤ b ∧ b < y2.heap.size) → ¬ R b from fun b hb hh => by have h1 := (HSr.o.d b (.inr (.inl hh))).2.1; have := HSZS.o; omega);have hml : M.length ≤ 134217728 := by rw [HM.o]; simp; omega
  obtain ⟨M2, hM2⟩ : ∃ z, z = M ++ [r] := ⟨_, rfl⟩;have HM2 := zh hM2;clear hM2 hszs hel;have o0 := cz4 HSy.o.ob;have fo0 := fz HSy.o.ob
  repeat (go_not_at_region 7; first | (go_says (at_builtin; refine Za4 Zh rfl _ _ 29 rfl TRe iR (.agg #[.string ⟨#[]⟩, .slice none 0 0, .int .i64 0]) 48 Tryz.underlying29 hiR hr0 hr1 hr2 rfl rfl HROW2.o ⟨B11, 0, none⟩ 1 rfl r [.string r.name, .slice A6 r.fields.length c6, .int .i64 r.line] (Zwt H11.o) (Zzj _ _ _ rfl rfl rfl) HEL.o HNO.o hml (by decide) ?_; intro v2 Y hrow hkp hb0; rw [← HM2.o] at hrow; obtain ⟨A2', c2, rfl, -⟩ := id hrow; have HRW' := zh hrow; have HKP := zh hkp; have HB0 := zh hb0; have hcy := (hkp.same OB (fun hh => (HSr.o.d OB (.inr (.inl hh))).2.2 rfl) (Za HSy.o.ob)).trans HSy.o.ob; clear hrow hkp hb0 o0 fo0; have o0 := cz4 hcy; have fo0 := fz hcy; clear hcy)) | go_values | go_skip | go_guarded | go_step | go_upon | go_back)
  clear o0 fo0;have hps := HSr.o.pushR HLA.o (a := r) (E := fun b => y1.heap.size ≤ b ∧ b < y2.heap.size) (fun b hb => by have := HSZS.o; omega) (HM2.o ▸ HRW'.o) HKP.o HB0.o;rw [← HM2.o] at hps;have HPS := zh hps;clear hps;go_wp2_with fail;refine Handed.intro (gk - 1) (by omega) (hJ _ _ _ ⟨j + 1, _, _, _, by omega, FrV.mk' rfl rfl rfl rfl rfl (congrArg some (congrArg (Value.int .i64) (by first | rfl | (rw [IntWalk.wrap64_in _ (by omega)]; rfl)))) rfl rfl rfl rfl rfl rfl rfl, HPS.o.eqr (by rw [HM2.o, HM.o, List.take_succ_eq_append_getElem hlt, HV_.o])⟩)
 ·obtain rfl : j = u.aA.length := by omega
  have hn : ¬ (u.aA.length : Int) < (u.aA.length : Int) := by omega
  rw [List.take_length] at HM;go_wp2_with fail;exact ⟨⟨_, _, FrV.mk' rfl rfl rfl rfl rfl rfl rfl rfl rfl rfl rfl rfl rfl⟩, _, _, HSr.o.eqr HM.o⟩
theorem Zhc (N : Nat) (F : Nat → Prop) (w : World) (u : Zt) (A1 A2 A3 : Option Addr) (k1 k2 k3 : Nat) (s : ByteArray) (hu : UV N F w u A1 A2 A3 k1 k2 k3) : Calls Tryz.prog 144 #[.agg #[.slice A1 u.aA.length k1, .slice A2 u.globals.length k2, .slice A3 u.procedures.length k3], .string s] w fun e w' => e = .returned (.tuple #[.int .i64 (Zb1 u s).1, .int .i64 (Zb1 u s).2]) ∧ Below w.heap.size w w' := by
 have HU := zh hu;obtain ⟨hn1, hn2, hn3⟩ := hu.len;obtain ⟨wb, hlwb, HB, hwb⟩ := aN w (.cells #[.slice A1 u.aA.length k1, .slice A2 u.globals.length k2, .slice A3 u.procedures.length k3] 52);replace HB := zh HB;have HLb := zh hlwb;clear hlwb hu;obtain ⟨R, hR⟩ : ∃ z, z = (Zb1 u s).1 := ⟨_, rfl⟩;obtain ⟨Q, hQ⟩ : ∃ z, z = (Zb1 u s).2 := ⟨_, rfl⟩;rw [← hR, ← hQ];have HR := zh hR;have HQ := zh hQ;clear hR hQ;have g0 := cz3 HB.o;have fg0 := fz HB.o;go_enter Tryz.func144, Tryz.ntmps144;go_wp2_with fail
 go_loopw [6] (fun iv wr => ∃ j : Nat, j ≤ u.aA.length ∧ iv = .int .i64 j ∧ Hd (∀ k (h : k < u.aA.length), k < j → u.aA[k].name ≠ s) ∧ Zb wb wr) (fun iv _ => u.aA.length - (intOf iv).toNat)
 case atStart => exact ⟨0, Nat.zero_le _, rfl, zh (fun k _ h => by omega), Zb.refl _⟩
 case round =>
  obtain ⟨j, hj, rfl, HJ1, hl⟩ := hrel;have HL := zh hl;clear hl;clear g0 fg0;have HBk := zB HL HB;have g0 := cz3 HBk.o;have fg0 := fz HBk.o
  by_cases hlt : j < u.aA.length
  ·have hlt' : (j : Int) < (u.aA.length : Int) := by omega
   have HUr := zh (HU.o.later (HLb.o.trans HL.o));obtain ⟨pb, po, As, ks, eA, hat⟩ := HUr.o.rct hlt;cases eA;have hfl := hat.len;have HST := zh (fun (h : u.aA[j].name ≠ s) => show ∀ k (h : k < u.aA.length), k < j + 1 → u.aA[k].name ≠ s from fun k hk h2 => by
    rcases Nat.lt_or_ge k j with h3 | h3
    ·exact HJ1.o k hk h3
    ·obtain rfl : k = j := by omega
     exact h)
   have HHIT := zh (fun (h : u.aA[j].name = s) => Zoh hlt h HJ1.o);obtain ⟨r, hv_⟩ : ∃ z, z = u.aA[j] := ⟨_, rfl⟩;rw [← hv_] at hat HHIT HST;have HAT := zh hat;have d0 := hat.c0;have d1 := hat.c1;have d2 := hat.c2;clear hat hv_
   by_cases he : r.name = s
   ·have hh := HHIT.o he;obtain rfl : R = _ := HR.o.trans (congrArg Prod.fst hh);obtain rfl : Q = _ := HQ.o.trans (congrArg Prod.snd hh);have v1 : (r.name.toList == s.toList) = true := by rw [he]; simp
    clear hh he;go_wp2_with fail
    go_ret2
    exact ⟨rfl, HLb.o.trans HL.o⟩
   ·have v1 : (r.name.toList == s.toList) = false := by rw [nH]; exact fun h => he (Zdy h)
    have HST2 := zh (HST.o he);clear he;go_wp2_with fail
    go_roundw
    case rel => exact ⟨j + 1, by omega, by go_num, HST2, HL.o⟩
    case measure => simp [intOf]; omega
  ·obtain rfl : j = u.aA.length := by omega
   have F1 := zh (show Zak (Zba u) s = -1 from Zgg fun k hk => HJ1.o k hk hk);clear hlt;go_wp2_with fail;refine (Zbv u.globals _ s F _ (HU.o.later (HLb.o.trans HL.o)).gl).mono ?_;rintro e w6 ⟨rfl, hw⟩;subst hw;obtain ⟨z, hz⟩ : ∃ z, z = Zak u.globals s := ⟨_, rfl⟩;rw [← hz];have HZ := zh hz;clear hz
   by_cases h0 : 0 ≤ z
   ·have hh := Zoi F1.o HZ.o.symm h0;obtain rfl : R = _ := HR.o.trans (congrArg Prod.fst hh);obtain rfl : Q = _ := HQ.o.trans (congrArg Prod.snd hh);have v1 : decide (0 ≤ Q) = true := nT h0;clear hh h0;go_wp2_with fail
    go_ret2
    exact ⟨rfl, HLb.o.trans HL.o⟩
   ·have F2 := zh (show Zak u.globals s < 0 by rw [← HZ.o]; omega);have v1 : decide (0 ≤ z) = false := nU h0;clear h0;go_wp2_with fail
    go_loopw [8] (fun iv wr => ∃ j : Nat, j ≤ u.procedures.length ∧ iv = .int .i64 j ∧ Hd (∀ k (h : k < u.procedures.length), k < j → u.procedures[k].name ≠ s) ∧ Zb wb wr) (fun iv _ => u.procedures.length - (intOf iv).toNat)
    case atStart => exact ⟨0, Nat.zero_le _, rfl, zh (fun k _ h => by omega), HL.o⟩
    case round =>
     obtain ⟨j, hj, rfl, HJ3, hl⟩ := hrel;have HL := zh hl;clear hl;clear g0 fg0;have HBk := zB HL HB;have g0 := cz3 HBk.o;have fg0 := fz HBk.o
     by_cases hlt : j < u.procedures.length
     ·have hlt' : (j : Int) < (u.procedures.length : Int) := by omega
      have HUr := zh (HU.o.later (HLb.o.trans HL.o));obtain ⟨pb, po, Ap, Al, Ab, kp, kl, kb, eA, hat⟩ := HUr.o.proc hlt;cases eA;have hlp := hat.lp;have hll := hat.ll;have HST := zh (fun (h : u.procedures[j].name ≠ s) => show ∀ k (h : k < u.procedures.length), k < j + 1 → u.procedures[k].name ≠ s from fun k hk h2 => by
       rcases Nat.lt_or_ge k j with h3 | h3
       ·exact HJ3.o k hk h3
       ·obtain rfl : k = j := by omega
        exact h)
      have HHIT := zh (fun (h : u.procedures[j].name = s) => Zoj F1.o F2.o hlt h HJ3.o);obtain ⟨q, hv_⟩ : ∃ z, z = u.procedures[j] := ⟨_, rfl⟩;rw [← hv_] at hat HHIT HST;have HAT := zh hat;have d0 := hat.c0;have d1 := hat.c1;have d2 := hat.c2;have d3 := hat.c3;have d4 := hat.c4;have d5 := hat.c5;have d6 := hat.c6;have d7 := hat.c7;have d8 := hat.c8;clear hat hv_
      by_cases he : q.name = s
      ·have hh := HHIT.o he;obtain rfl : R = _ := HR.o.trans (congrArg Prod.fst hh);obtain rfl : Q = _ := HQ.o.trans (congrArg Prod.snd hh);have v1 : (q.name.toList == s.toList) = true := by rw [he]; simp
       clear hh he;go_wp2_with fail
       go_ret2
       exact ⟨rfl, HLb.o.trans HL.o⟩
      ·have v1 : (q.name.toList == s.toList) = false := by rw [nH]; exact fun h => he (Zdy h)
       have HST2 := zh (HST.o he);clear he;go_wp2_with fail
       go_roundw
       case rel => exact ⟨j + 1, by omega, by go_num, HST2, HL.o⟩
       case measure => simp [intOf]; omega
     ·obtain rfl : j = u.procedures.length := by omega
      have F3 := zh (show Zak (Zdd u) s = -1 from Zgg fun k hk => HJ3.o k hk hk);clear hlt;go_wp2_with fail;refine (Zgn _).mono ?_;rintro e w5 ⟨rfl, hw⟩;have HL5 := zh (HL.o.trans (show Zb _ w5 by rw [hw]; exact (Zb.refl _).alloc _));have HC := zh (show Zq Zah 1 _ w5 (Zav Zd0) _ by rw [hw]; exact Zdf _ Zd0 (by decide) (by decide));clear hw;go_wp2_with fail;refine (Zbv (Zav Zd0) _ s _ _ HC.o).mono ?_;rintro e w6 ⟨rfl, hw⟩;obtain rfl : w5 = w6 := hw.symm;obtain ⟨z, hz⟩ : ∃ z, z = fnN s := ⟨_, rfl⟩;rw [show Zak (Zav Zd0) s = z from hz.symm];have HZ := zh hz;clear hw hz
      by_cases h0 : 0 ≤ z
      ·have hh := Zok F1.o F2.o F3.o HZ.o.symm h0;obtain rfl : R = _ := HR.o.trans (congrArg Prod.fst hh);obtain rfl : Q = _ := HQ.o.trans (congrArg Prod.snd hh);have v1 : decide (0 ≤ Q) = true := nT h0;clear hh h0;go_wp2_with fail
       go_ret2
       exact ⟨rfl, HLb.o.trans HL5.o⟩
      ·have hh := Zqp F1.o F2.o F3.o (by rw [← HZ.o]; omega);obtain rfl : R = _ := HR.o.trans (congrArg Prod.fst hh);obtain rfl : Q = _ := HQ.o.trans (congrArg Prod.snd hh);have v1 : decide (0 ≤ z) = false := nU h0;clear hh h0;go_wp2_with fail
       go_ret2
       exact ⟨rfl, HLb.o.trans HL5.o⟩
theorem Zqg (w : World) : Calls Tryz.prog 145 #[] w fun e w' => e = .returned (.slice (some ⟨w.heap.size, 0, none⟩) 11 11) ∧ w' = w.alloc (Zau Zen) := by
 go_enter Tryz.func145, Tryz.ntmps145
 go_wp2
 go_ret;exact ⟨rfl, rfl⟩
theorem Zmj (w : World) : Calls Tryz.prog 146 #[] w fun e w' => e = .returned (.slice (some ⟨w.heap.size, 0, none⟩) 44 44) ∧ w' = w.alloc (Zau Zg4) := by
 go_enter Tryz.func146, Tryz.ntmps146
 go_wp2
 go_ret;exact ⟨rfl, rfl⟩
theorem Zrp {fn : Func} {t : Nat} {tmps : Array Value} {w x : World} {RB n q : Nat} {A : Option Addr} {cur : Array Value} (hres : fn.results = #[.cell t Z7]) (ht : tmps.getD t undef = .pointer (some ⟨RB, 0, none⟩)) (hb : x.heap[RB]? = some (.cells cur Z7 (0, 0))) (hs : cur.size = 6) (hl : Zb w x) (C : Zf) (hg : w.heap.size ≤ RB) :
  bodyPost Tryz.prog fn (fun e w' => e = .returned (C.val (.slice A n q)) ∧ Zb w w') .ret ⟨tmps, []⟩ ((((((x.setCell ⟨RB, 0, none⟩ (.int .i64 C.kind)).setCell ⟨RB, 1, none⟩ (.int .i64 C.op)).setCell ⟨RB, 2, none⟩ (.int .i64 C.aB)).setCell ⟨RB, 3, none⟩ (.int .i64 C.line)).setCell ⟨RB, 4, none⟩ (.string C.text)).setCell ⟨RB, 5, none⟩ (.slice A n q)) :=
 bodyPost_ret (Zo6 hres ht (Zwe hb hs _ _ _ _ _ _)) rfl ⟨rfl, (((((hl.setCell hg _).setCell hg _).setCell hg _).setCell hg _).setCell hg _).setCell hg _⟩
theorem Zc5 (op line : Int) (Ak : Option Addr) (nk qk : Nat) (w : World) : Calls Tryz.prog 98 #[.int .i64 op, .int .i64 line, .slice Ak nk qk] w fun e w' => e = .returned (.agg #[.int .i64 11, .int .i64 op, .int .i64 0, .int .i64 line, .string ⟨#[]⟩, .slice Ak nk qk]) ∧ Zb w w' := by
 go_enter Tryz.func98, Tryz.ntmps98;go_wp2_with fail;exact bodyPost_ret (v := (cO op line []).val (.slice Ak nk qk)) (by simp [results, Tryz.results98, go_sem, Zf.val, cO]) rfl ⟨rfl, (Zb.refl _).alloc _⟩
theorem Zrq (N : Nat) (F : Nat → Prop) (w : World) (u : Zt) (A1 A2 A3 : Option Addr) (k1 k2 k3 : Nat) (hu : UV N F w u A1 A2 A3 k1 k2 k3) (L : List ByteArray) (v : Value) (G : Nat → Prop) (hr : Zq Zah 1 G w L v) (hl : L.length ≤ 1000) (h1 : u.aA.length ≤ 1000) (h2 : u.globals.length ≤ 1000) (h3 : u.procedures.length ≤ 1000) (s : ByteArray) (line : Int) : Calls Tryz.prog 96 #[.agg #[.slice A1 u.aA.length k1, .slice A2 u.globals.length k2, .slice A3 u.procedures.length k3], v, .string s, .int .i64 line] w fun e w' => e = .returned (.agg #[.int .i64 ((Zdb u L s).1 + 4), .int .i64 0, .int .i64 (Zdb u L s).2, .int .i64 line, .string ⟨#[]⟩, .slice none 0 0]) ∧ Zb w w' := by
 have HU := zh hu;obtain ⟨hn1, hn2, hn3⟩ := hu.len;obtain ⟨wb, hlwb, HB, hwb⟩ := aN w (.cells #[.slice A1 u.aA.length k1, .slice A2 u.globals.length k2, .slice A3 u.procedures.length k3] 52);replace HB := zh HB;have HLb := zh hlwb;clear hlwb hu;obtain ⟨wc, hlc, hrb, hwc⟩ := aN wb (.cells #[.int .i64 0, .int .i64 0, .int .i64 0, .int .i64 0, .string ⟨#[]⟩, .slice none 0 0] Z7);obtain ⟨RB, hRB⟩ : ∃ z, wb.heap.size = z := ⟨_, rfl⟩;rw [hRB] at hrb;have HLc := zh (HLb.o.trans hlc);have HGR := zh (show w.heap.size ≤ RB by have := HLb.o.size; omega);have HRB := zh hrb;have HUB := yC hlc HB;have HLI := zh (Zot u s h1 h2 h3);have HST := zh (⟨hwb, hwc, hRB⟩ : _ ∧ _ ∧ _);have HRO := zh (hr.later Zg HLc.o);obtain ⟨R, hR⟩ : ∃ z, z = (Zdb u L s).1 := ⟨_, rfl⟩;obtain ⟨Q, hQ⟩ : ∃ z, z = (Zdb u L s).2 := ⟨_, rfl⟩;rw [← hR, ← hQ];have HR := zh hR;have HQ := zh hQ;clear hR hQ hr hl h1 h2 h3 hlc hrb hwb hwc hRB;have g0 := cz3 HUB.o;have fg0 := fz HUB.o;have r0 := cz6 HRB.o;have fr0 := fz HRB.o;go_enter Tryz.func96, Tryz.ntmps96;obtain ⟨hwb, hwc, hRB⟩ := HST.o;go_upto_region 1 with (fail);clear hwb hwc hRB;go_wp2_with fail;refine (Zbv L v s _ _ HRO.o).mono ?_;rintro e w2 ⟨rfl, hw⟩;obtain rfl : wc = w2 := hw.symm;obtain ⟨z, hz⟩ : ∃ z, z = Zak L s := ⟨_, rfl⟩;rw [← hz];have HZ := zh hz;clear hw hz
 by_cases h0 : 0 ≤ z
 ·have hh := Zqq (u := u) HZ.o.symm h0;obtain rfl : R = _ := HR.o.trans (congrArg Prod.fst hh);obtain rfl : Q = _ := HQ.o.trans (congrArg Prod.snd hh);have v1 : decide (0 ≤ Q) = true := nT h0;clear hh h0;go_wp2_with fail;exact Zrp (by rfl) (by rfl) HRB.o rfl HLc.o (cM 5 Q line) HGR.o
 ·have hh := Zoq (u := u) (show Zak L s < 0 by rw [← HZ.o]; omega);have HR2 := zh (show (Zb1 u s).1 = R from (HR.o.trans (congrArg Prod.fst hh)).symm);have HQ2 := zh (show (Zb1 u s).2 = Q from (HQ.o.trans (congrArg Prod.snd hh)).symm);have v1 : decide (0 ≤ z) = false := nU h0;clear hh h0;go_wp2_with fail;refine (Zhc N F wc u A1 A2 A3 k1 k2 k3 s (HU.o.later HLc.o)).mono ?_;rintro e w5 ⟨rfl, hb⟩;have HL5 := zh (HLc.o.trans hb);have HB5 := yC hb HRB;rw [HR2.o, HQ2.o];have HLJ := zh (show (R = 0 ∨ R = 2 ∨ R = 3 ∨ R = 4 ∨ R = 5) from HR2.o ▸ HLI.o.2.2);clear hb v1 r0 fr0;have r0 := cz6 HB5.o;have fr0 := fz HB5.o;have v3 : wrap64 (4 + R) = R + 4 := by rw [IntWalk.wrap64_in _ (by have := HLJ.o; omega)]; omega
  go_wp2_with fail;exact Zrp (by rfl) (by rfl) HB5.o rfl HL5.o (cM (R + 4) Q line) HGR.o
theorem Zwu (s : ByteArray) (line : Int) (w : World) (hk : Zrw s = true) : Calls Tryz.prog 97 #[.string s, .int .i64 line] w fun e w' => e = .returned (.agg #[.int .i64 (kwC s line).kind, .int .i64 (kwC s line).op, .int .i64 (kwC s line).aB, .int .i64 (kwC s line).line, .string (kwC s line).text, .slice none (kwC s line).kids.length 0]) ∧ Zb w w' := by
 have hi : bl s ∈ Zm6 := by simpa [Zrw] using hk
 obtain ⟨t⟩ := s;obtain ⟨l, rfl⟩ : ∃ l : List UInt8, t = l.toArray := ⟨t.toList, by simp⟩;simp only [Zm6, bl, List.mem_cons, List.not_mem_nil, or_false] at hi
 rcases hi with rfl | rfl | rfl | rfl | rfl | rfl | rfl | rfl
 all_goals (clear hk)
 all_goals (go_enter Tryz.func97, Tryz.ntmps97; go_wp2_with fail)
 all_goals exact bodyPost_ret (v := .agg #[.int .i64 (kwC _ line).kind, .int .i64 (kwC _ line).op, .int .i64 (kwC _ line).aB, .int .i64 (kwC _ line).line, .string (kwC _ line).text, .slice none (kwC _ line).kids.length 0]) (by simp [results, Tryz.results97, go_sem]; exact ⟨rfl, rfl, rfl, rfl, rfl, rfl⟩) rfl ⟨rfl, (Zb.refl _).alloc _⟩
theorem Zx9 (s : ByteArray) {line : Int} (hl : Zy line) (F : Nat → Prop) (w : World) : CV F w (kwC s line) (.slice none (kwC s line).kids.length 0) := by
 unfold kwC
 repeat' split
 all_goals first
  | exact CV.cn F w (by decide) (by decide) hl
  | exact CV.cm F w (by decide) (by decide) (Zbr (by decide) (by decide)) hl
  | exact CV.ct F w (by decide) (by decide) hl (by decide)
theorem Zwv (s : ByteArray) (w : World) : Calls Tryz.prog 99 #[.string s] w fun e w' => e = .returned (.int .i64 (unN s)) ∧ Zb w w' := by
 have HC := zh (Zbv (Zav Zen) _ s _ _ (Zdf w Zen (by decide) (by decide)));have hlm := Zdm (Zav Zen) s;rw [show (Zav Zen).length = 11 by simp [Zav]; rfl] at hlm;unfold unN;obtain ⟨z, hz⟩ : ∃ z, z = Zak (Zav Zen) s := ⟨_, rfl⟩;rw [← hz] at HC hlm ⊢;clear hz;have v2 : wrap64 (1 + z) = 1 + z := IntWalk.wrap64_in _ (by omega);have HW := zh (Zqg w);go_enter Tryz.func99, Tryz.ntmps99;go_wp2_with fail;refine HW.o.mono ?_;rintro e w' ⟨rfl, hw⟩;subst hw;go_wp2_with fail;refine HC.o.mono ?_;rintro e w' ⟨rfl, hw⟩;subst hw;go_wp2_with fail;go_ret;exact ⟨rfl, (Zb.refl _).alloc _⟩
section
def Zya (n : Nat) : Prop := ∀ (E : Zaz) (G : Nat → Prop) (AL : Option Addr) (kl LB cs : Nat) (w : World) (c : Ze) (A : Option Addr) (k : Nat), LwS E G AL kl LB cs w → (∀ b, G b → b < w.heap.size) → okU (E.N + 1) E.u = true → EV n E.F w c A k → LoC E n c cs → Calls Tryz.prog 55 #[.pointer (some ⟨LB, 0, none⟩), .agg #[.int .i64 c.kind, .string c.text, .int .i64 c.aB, .int .i64 c.line, .slice A c.kids.length k]] w (LoP (LwS E G AL kl LB) LB w (low E.u E.L (n + 1) c ((E.L.length + cs : Nat) : Int)) (cs + csX c))
structure LsB (E : Zaz) (G : Nat → Prop) (AL : Option Addr) (kl LB cs : Nat) (c : Ze) (A : Option Addr) (k : Nat) (EB RB UB NB SB : Nat) (m : Int) (w x : World) : Prop where
 eb : x.heap[EB]? = some (.cells #[.int .i64 c.kind, .string c.text, .int .i64 c.aB, .int .i64 c.line, .slice A c.kids.length k] 104 (0, 0))
 rb : x.heap[RB]? = some (.cells #[.int .i64 0, .int .i64 0, .int .i64 0, .int .i64 0, .string ⟨#[]⟩, .slice none 0 0] Z7 (0, 0))
 ub : x.heap[UB]? = some (.cells #[.int .i64 4, .int .i64 0, .int .i64 0, .int .i64 c.line, .string ⟨#[]⟩, .slice none 0 0] Z7 (0, 0))
 nb : x.heap[NB]? = some (.cells #[.int .i64 28, .int .i64 0, .int .i64 0, .int .i64 c.line, .string ⟨#[]⟩, .slice none 0 0] Z7 (0, 0))
 sb : x.heap[SB]? = some (.cells #[.int .i64 5, .int .i64 0, .int .i64 m, .int .i64 c.line, .string ⟨#[]⟩, .slice none 0 0] Z7 (0, 0))
 tn : Tn (fun b => b = LB) w x
 bs : LwS E G AL kl LB cs w
 lg : ∀ b, G b → b < w.heap.size
 ge : w.heap.size ≤ EB ∧ w.heap.size ≤ RB ∧ w.heap.size ≤ UB ∧ w.heap.size ≤ NB ∧ w.heap.size ≤ SB
theorem LwS.next {E : Zaz} {G : Nat → Prop} {AL : Option Addr} {kl LB cs : Nat} {w : World} {m : Int} (h : LwS E G AL kl LB cs w) (hm : m = ((E.L.length + cs : Nat) : Int)) : LwS E G AL kl LB (cs + 1) (w.setCell ⟨LB, 4, none⟩ (.int .i64 (m + 1))) := by
 have hk : Tn (fun b => b = LB) w (w.setCell ⟨LB, 4, none⟩ (.int .i64 (m + 1))) := (Tn.refl (fun b => b = LB) w).set rfl _ _;refine ⟨?_, h.un.keep (hk.keeps h.nF), h.lo.keep Zg (fun _ h => h) (hk.keeps h.nG), h.nF, h.nG⟩;subst hm;exact Z0 (o := 4) h.blk (.int .i64 ((E.L.length + cs : Nat) + 1))
structure Kd (F : Nat → Prop) (w : World) (K : List Zf) (line : Int) (Ak : Option Addr) (D0 D1 : Zf) (A0 A1 : Option Addr) (q0 q1 : Nat) (K0 K1 : Nat → Prop) : Prop where
 e0 : kdC K line 0 = D0
 e1 : kdC K line 1 = D1
 c0 : CV K0 w D0 (.slice A0 D0.kids.length q0)
 c1 : CV K1 w D1 (.slice A1 D1.kids.length q1)
 f0 : ∀ y, K0 y → F y
 f1 : ∀ y, K1 y → F y
 dj : ∀ y, K0 y → ¬ K1 y
 n0 : K.length = 0 → D0 = cN 4 line ∧ A0 = none ∧ q0 = 0
 n1 : K.length ≤ 1 → D1 = cN 4 line ∧ A1 = none ∧ q1 = 0
 p0 : 0 < K.length → ∃ b cur, Ak = some ⟨b, 0, none⟩ ∧ w.heap[b]? = some (.cells cur Z7 (0, 0)) ∧ ∀ j v, (D0.cells (.slice A0 D0.kids.length q0))[j]? = some v → cur[0 * 6 + j]? = some v
 p1 : 1 < K.length → ∃ b cur, Ak = some ⟨b, 0, none⟩ ∧ w.heap[b]? = some (.cells cur Z7 (0, 0)) ∧ ∀ j v, (D1.cells (.slice A1 D1.kids.length q1))[j]? = some v → cur[1 * 6 + j]? = some v
theorem Kd.of {F : Nat → Prop} {w : World} {K : List Zf} {line : Int} {Ak : Option Addr} {qk : Nat} (h : Zz Zbe 6 Z7 F w K (.slice Ak K.length qk)) (hl : Zy line) : ∃ D0 D1 A0 A1 q0 q1 K0 K1, Kd F w K line Ak D0 D1 A0 A1 q0 q1 K0 K1 := by
 have z : ∀ i, K.length ≤ i → kdC K line i = cN 4 line := fun i hi => Znd (by omega);have cz : CV (fun _ => False) w (cN 4 line) (.slice none 0 0) := CV.cn _ _ (by decide) (by decide) hl
 by_cases h0 : K.length = 0
 ·exact ⟨cN 4 line, cN 4 line, none, none, 0, 0, _, _, z 0 (by omega), z 1 (by omega), cz, cz, fun _ h => h.elim, fun _ h => h.elim, fun _ h => h.elim, fun _ => ⟨rfl, rfl, rfl⟩, fun _ => ⟨rfl, rfl, rfl⟩, fun h => by omega, fun h => by omega⟩
 obtain ⟨b, cur, tag, rfl, hF, hb, hk⟩ := h.kid (by omega);obtain ⟨v0, hv0, hc0⟩ := hk 0 (by omega);obtain ⟨A0, q0, rfl, -, -⟩ := hv0.form
 by_cases h1 : K.length = 1
 ·exact ⟨K[0], cN 4 line, A0, none, q0, 0, _, _, Zgi (by omega), z 1 (by omega), hv0, cz, fun _ h => h.1.1, fun _ h => h.elim, fun _ _ h => h, fun h => by omega, fun _ => ⟨rfl, rfl, rfl⟩, fun _ => ⟨b, cur, rfl, hb, hc0⟩, fun h => by omega⟩
 obtain ⟨v1, hv1, hc1⟩ := hk 1 (by omega);obtain ⟨A1, q1, rfl, -, -⟩ := hv1.form;exact ⟨K[0], K[1], A0, A1, q0, q1, _, _, Zgi (by omega), Zgi (by omega), hv0, hv1, fun _ h => h.1.1, fun _ h => h.1.1, fun _ h h' => by have := h.2; have := h'.2; omega, fun h => by omega, fun h => by omega, fun _ => ⟨b, cur, rfl, hb, hc0⟩, fun _ => ⟨b, cur, rfl, hb, hc1⟩⟩
section
variable {E : Zaz} {G : Nat → Prop} {AL : Option Addr} {kl LB cs : Nat} {c : Ze} {A : Option Addr} {k : Nat} {EB RB UB NB SB : Nat} {m : Int} {w x y : World}
theorem LsB.keep {P : Nat → Prop} (h : LsB E G AL kl LB cs c A k EB RB UB NB SB m w x) (hk : Tn P x y) (hP : ∀ b, P b → b = LB ∨ (w.heap.size ≤ b ∧ b ≠ EB ∧ b ≠ RB ∧ b ≠ UB ∧ b ≠ NB ∧ b ≠ SB)) : LsB E G AL kl LB cs c A k EB RB UB NB SB m w y := by
 have h0 := Za h.bs.blk;have hg := h.ge;refine ⟨hk.has h.eb ?_, hk.has h.rb ?_, hk.has h.ub ?_, hk.has h.nb ?_, hk.has h.sb ?_, h.tn.trans hk (fun _ h => h) (fun b hb hp => ?_), h.bs, h.lg, h.ge⟩
 all_goals first
  | (intro hp; rcases hP _ hp with h | h <;> omega)
  | (rcases hP _ hp with h | h; exact h; omega)
theorem LsB.later (h : LsB E G AL kl LB cs c A k EB RB UB NB SB m w x) (hk : Zb x y) : LsB E G AL kl LB cs c A k EB RB UB NB SB m w y := h.keep (Tn.later (P := fun _ => False) hk) (fun _ (h : False) => h.elim)
theorem LsB.lb (h : LsB E G AL kl LB cs c A k EB RB UB NB SB m w x) (hk : Tn (fun b => b = LB) x y) : LsB E G AL kl LB cs c A k EB RB UB NB SB m w y := h.keep hk fun _ h => .inl h
theorem LsB.ev {n : Nat} (h : LsB E G AL kl LB cs c A k EB RB UB NB SB m w x) (hv : EV n E.F w c A k) : EV n E.F x c A k := hv.keep (fun _ h => h) (h.tn.keeps h.bs.nF)
theorem LsB.put {j : Nat} (h : LsB E G AL kl LB cs c A k EB RB UB NB SB m w x) (hs : LwS E G AL kl LB j x) {C : Zf} {A' : Option Addr} {q : Nat} {F : Nat → Prop} (hC : CV F x C (.slice A' C.kids.length q)) (hF : ∀ b, F b → w.heap.size ≤ b ∧ b ≠ RB) :
  LoR (LwS E G AL kl LB) LB RB w C j ((((((x.setCell ⟨RB, 0, none⟩ (.int .i64 C.kind)).setCell ⟨RB, 1, none⟩ (.int .i64 C.op)).setCell ⟨RB, 2, none⟩ (.int .i64 C.aB)).setCell ⟨RB, 3, none⟩ (.int .i64 C.line)).setCell ⟨RB, 4, none⟩ (.string C.text)).setCell ⟨RB, 5, none⟩ (.slice A' C.kids.length q)) :=
 LoR.put (LwS.put hs h.bs h.lg h.ge.2.1) h.rb rfl hC hF (h.tn.mono fun b _ hb => .inl hb)
end
structure LsD (E : Zaz) (G : Nat → Prop) (AL : Option Addr) (kl LB cs : Nat) (c : Ze) (A : Option Addr) (k : Nat) (EB RB UB NB SB : Nat) (m : Int) (K : List Zf) (Ak : Option Addr) (qk a0 t : Nat) (FB GB RO RT : Nat) (D0 D1 : Zf) (A0 A1 : Option Addr) (q0 q1 : Nat) (K0 K1 : Nat → Prop) (w x : World) : Prop where
 hb : LsB E G AL kl LB cs c A k EB RB UB NB SB m w x
 lo : EB < a0 ∧ RB < a0 ∧ UB < a0 ∧ NB < a0 ∧ SB < a0 ∧ LB < a0 ∧ w.heap.size ≤ a0
 st : LwS E G AL kl LB (cs + csX c) x
 kr : Zz Zbe 6 Z7 (Iv a0 t) x K (.slice Ak K.length qk)
 kd : Kd (Iv a0 t) x K c.line Ak D0 D1 A0 A1 q0 q1 K0 K1
 fb : x.heap[FB]? = some (.cells #[.int .i64 D1.kind, .int .i64 D1.op, .int .i64 D1.aB, .int .i64 D1.line, .string D1.text, .slice A1 D1.kids.length q1] Z7 (0, 0))
 gb : x.heap[GB]? = some (.cells #[.int .i64 D0.kind, .int .i64 D0.op, .int .i64 D0.aB, .int .i64 D0.line, .string D0.text, .slice A0 D0.kids.length q0] Z7 (0, 0))
 ro : x.heap[RO]? = some (.cells #[.int .i64 D0.kind, .int .i64 D0.op, .int .i64 D0.aB, .int .i64 D0.line, .string D0.text, .slice A0 D0.kids.length q0] Z7 (0, 0))
 ob : x.heap[RO + 1]? = some (.cells #[.int .i64 0, .int .i64 0, .int .i64 0, .int .i64 c.line, .string ⟨#[]⟩, .slice (some ⟨RO, 0, none⟩) 1 1] Z7 (0, 0))
 rt : x.heap[RT]? = some (.cells #[.int .i64 D0.kind, .int .i64 D0.op, .int .i64 D0.aB, .int .i64 D0.line, .string D0.text, .slice A0 D0.kids.length q0, .int .i64 D1.kind, .int .i64 D1.op, .int .i64 D1.aB, .int .i64 D1.line, .string D1.text, .slice A1 D1.kids.length q1] Z7 (0, 0))
 tb : x.heap[RT + 1]? = some (.cells #[.int .i64 0, .int .i64 0, .int .i64 0, .int .i64 c.line, .string ⟨#[]⟩, .slice (some ⟨RT, 0, none⟩) 2 2] Z7 (0, 0))
 or : a0 ≤ t ∧ t ≤ RO ∧ RO + 1 < RT ∧ t ≤ FB ∧ t ≤ GB
section
variable {E : Zaz} {G : Nat → Prop} {AL : Option Addr} {kl LB cs : Nat} {c : Ze} {A : Option Addr} {k : Nat} {EB RB UB NB SB : Nat} {m : Int} {K : List Zf} {Ak : Option Addr} {qk a0 t FB GB RO RT : Nat} {D0 D1 : Zf} {A0 A1 : Option Addr} {q0 q1 : Nat} {K0 K1 : Nat → Prop} {w x y : World}
theorem Kd.later {F : Nat → Prop} {line : Int} (h : Kd F x K line Ak D0 D1 A0 A1 q0 q1 K0 K1) (hl : Zb x y) : Kd F y K line Ak D0 D1 A0 A1 q0 q1 K0 K1 :=
 ⟨h.e0, h.e1, h.c0.later hl, h.c1.later hl, h.f0, h.f1, h.dj, h.n0, h.n1, fun hp => by obtain ⟨b, cur, e, hb, hc⟩ := h.p0 hp; exact ⟨b, cur, e, (hl.block _ (Za hb)).trans hb, hc⟩, fun hp => by obtain ⟨b, cur, e, hb, hc⟩ := h.p1 hp; exact ⟨b, cur, e, (hl.block _ (Za hb)).trans hb, hc⟩⟩
theorem Zvi {l : Int} (h : K.length = 1) (e : kdC K l 0 = D0) : K = [D0] := by
 match K, h with
 | [d], _ => rw [← e]; rfl
theorem Zqh {l : Int} (h : K.length = 2) (e : kdC K l 0 = D0) (e' : kdC K l 1 = D1) : K = [D0, D1] := by
 match K, h with
 | [d, d'], _ => rw [← e, ← e']; rfl
theorem Zww {s : ByteArray} (h : bl s = [38]) : bnN s = 73 := by unfold bnN; rw [h]; decide
theorem LsD.fp (h : LsD E G AL kl LB cs c A k EB RB UB NB SB m K Ak qk a0 t FB GB RO RT D0 D1 A0 A1 q0 q1 K0 K1 w x) {B : Nat} (hB : x.heap.size ≤ B) : ∀ b, K0 b ∨ b = B → w.heap.size ≤ b ∧ b ≠ RB := fun b hb => by
 have := h.lo;have := Za h.ro;have := h.or
 rcases hb with hb | hb
 ·have := (h.kd.f0 b hb).1; omega
 ·omega
theorem LsD.ne0 (h : LsD E G AL kl LB cs c A k EB RB UB NB SB m K Ak qk a0 t FB GB RO RT D0 D1 A0 A1 q0 q1 K0 K1 w x) {B : Nat} (hB : x.heap.size ≤ B) : ∀ b, K0 b → (K0 b ∨ b = B) ∧ b ≠ B := fun b hb => ⟨.inl hb, by have := (h.kd.f0 b hb).2; have := Za h.ro; have := h.or; omega⟩
section
variable (h : LsD E G AL kl LB cs c A k EB RB UB NB SB m K Ak qk a0 t FB GB RO RT D0 D1 A0 A1 q0 q1 K0 K1 w x) (hl : Zb x y) {B : Nat} (hB : x.heap.size ≤ B) {C1 C2 : Zf} {v1 v2 : Value}
include h hl hB
theorem LsD.rowA (hb : y.heap[B]? = some (.cells (D0.cells (.slice A0 D0.kids.length q0) ++ C1.cells v1).toArray Z7 (0, 0))) (h1 : CV (fun _ => False) y C1 v1) : Zz Zbe 6 Z7 (fun b => K0 b ∨ b = B) y [D0, C1] (.slice (some ⟨B, 0, none⟩) 2 2) :=
 Znf hb (h.kd.c0.later hl) h1 (.inr rfl) (h.ne0 hB) (fun _ h => h.elim) fun _ _ h => h
theorem LsD.rowB (hb : y.heap[B]? = some (.cells (C1.cells v1 ++ D0.cells (.slice A0 D0.kids.length q0)).toArray Z7 (0, 0))) (h1 : CV (fun _ => False) y C1 v1) : Zz Zbe 6 Z7 (fun b => K0 b ∨ b = B) y [C1, D0] (.slice (some ⟨B, 0, none⟩) 2 2) :=
 Znf hb h1 (h.kd.c0.later hl) (.inr rfl) (fun _ h => h.elim) (h.ne0 hB) fun _ h => h.elim
theorem LsD.rowC (hb : y.heap[B]? = some (.cells (D0.cells (.slice A0 D0.kids.length q0) ++ (C1.cells v1 ++ C2.cells v2)).toArray Z7 (0, 0))) (h1 : CV (fun _ => False) y C1 v1) (h2 : CV (fun _ => False) y C2 v2) : Zz Zbe 6 Z7 (fun b => K0 b ∨ b = B) y [D0, C1, C2] (.slice (some ⟨B, 0, none⟩) 3 3) :=
 Zsf hb (h.kd.c0.later hl) h1 h2 (.inr rfl) (h.ne0 hB) (fun _ h => h.elim) (fun _ h => h.elim) (fun _ _ h => h) (fun _ _ h => h) fun _ h => h.elim
end
theorem LsD.setB (h : LsD E G AL kl LB cs c A k EB RB UB NB SB m K Ak qk a0 t FB GB RO RT D0 D1 A0 A1 q0 q1 K0 K1 w x) (B : Nat) (hB : B = RO + 1 ∨ B = RT + 1) (u : Value) : LsB E G AL kl LB cs c A k EB RB UB NB SB m w (x.setCell ⟨B, 0, none⟩ u) ∧ LwS E G AL kl LB (cs + csX c) (x.setCell ⟨B, 0, none⟩ u) ∧ (B = RO + 1 → Zz Zbe 6 Z7 (fun b => a0 ≤ b) (x.setCell ⟨B, 0, none⟩ u) [D0] (.slice (some ⟨RO, 0, none⟩) 1 1)) ∧ (B = RT + 1 → Zz Zbe 6 Z7 (fun b => a0 ≤ b) (x.setCell ⟨B, 0, none⟩ u) [D0, D1] (.slice (some ⟨RT, 0, none⟩) 2 2)) := by
 have ho := h.or;have hl := h.lo;have hk : Tn (fun b => b = B) x (x.setCell ⟨B, 0, none⟩ u) := (Tn.refl (fun b => b = B) x).set rfl _ _;have c0 := h.kd.c0.keep (G := K0) (fun _ h => h) (hk.keeps fun b hb e => by have := h.kd.f0 b hb; have := this.2; omega);have c1 := h.kd.c1.keep (G := K1) (fun _ h => h) (hk.keeps fun b hb e => by have := h.kd.f1 b hb; have := this.2; omega);have hs := hk.keep;refine ⟨h.hb.keep hk fun b hb => .inr (by omega), h.st.keep hk fun b hb => ⟨by omega, fun hF => by have := h.hb.bs.un.flt b hF; omega, fun hG => by have := h.hb.lg b hG; omega⟩, fun e => ?_, fun e => ?_⟩
 ·exact Zx2 (hk.has h.ro (by omega)) c0 (by omega) fun y hy => by have := h.kd.f0 y hy; have h1 := this.1; have h2 := this.2; exact ⟨h1, by omega⟩
 ·exact Znf (hk.has h.rt (by omega)) c0 c1 (by omega) (fun y hy => by have := h.kd.f0 y hy; have h1 := this.1; have h2 := this.2; exact ⟨h1, by omega⟩) (fun y hy => by have := h.kd.f1 y hy; have h1 := this.1; have h2 := this.2; exact ⟨h1, by omega⟩) h.kd.dj
end
def Zf1 (LB EB RB UB NB SB : Nat) (Ak : Option Addr) (nk qk FB GB RO RT : Nat) (kd : Int) (v15 v17 v18 : Value) (a : Act) : Prop := Fr 390 [(0, .pointer (some ⟨LB, 0, none⟩)), (3, .pointer (some ⟨EB, 0, none⟩)), (4, .pointer (some ⟨RB, 0, none⟩)), (5, .pointer (some ⟨UB, 0, none⟩)), (6, .pointer (some ⟨NB, 0, none⟩)), (7, .pointer (some ⟨SB, 0, none⟩)), (8, .slice Ak nk qk), (10, .pointer (some ⟨FB, 0, none⟩)), (11, .pointer (some ⟨GB, 0, none⟩)), (12, .pointer (some ⟨RO + 1, 0, none⟩)), (13, .pointer (some ⟨RT + 1, 0, none⟩)), (15, v15), (17, v17), (18, v18), (87, .int .i64 kd)] a
section
variable {LB EB RB UB NB SB : Nat} {Ak : Option Addr} {nk qk FB GB RO RT : Nat} {kd : Int} {v15 v17 v18 : Value} {a : Act}
theorem Zf1.opn (h : Zf1 LB EB RB UB NB SB Ak nk qk FB GB RO RT kd v15 v17 v18 a) : ∃ f : Nat → Value, a = ⟨#[.pointer (some ⟨LB, 0, none⟩), f 1, f 2, .pointer (some ⟨EB, 0, none⟩), .pointer (some ⟨RB, 0, none⟩), .pointer (some ⟨UB, 0, none⟩), .pointer (some ⟨NB, 0, none⟩), .pointer (some ⟨SB, 0, none⟩), .slice Ak nk qk, f 9, .pointer (some ⟨FB, 0, none⟩), .pointer (some ⟨GB, 0, none⟩), .pointer (some ⟨RO + 1, 0, none⟩), .pointer (some ⟨RT + 1, 0, none⟩), f 14, v15, f 16, v17, v18, f 19, f 20, f 21, f 22, f 23, f 24, f 25, f 26, f 27, f 28, f 29, f 30, f 31, f 32, f 33, f 34, f 35, f 36, f 37, f 38, f 39, f 40, f 41, f 42, f 43, f 44, f 45, f 46, f 47, f 48, f 49, f 50, f 51, f 52, f 53, f 54, f 55, f 56, f 57, f 58, f 59, f 60, f 61, f 62, f 63, f 64, f 65, f 66, f 67, f 68, f 69, f 70, f 71, f 72, f 73, f 74, f 75, f 76, f 77, f 78, f 79, f 80, f 81, f 82, f 83, f 84, f 85, f 86, .int .i64 kd, f 88, f 89, f 90, f 91, f 92, f 93, f 94, f 95, f 96, f 97, f 98, f 99, f 100, f 101, f 102, f 103, f 104, f 105, f 106, f 107, f 108, f 109, f 110, f 111, f 112, f 113, f 114, f 115, f 116, f 117, f 118, f 119, f 120, f 121, f 122, f 123, f 124, f 125, f 126, f 127, f 128, f 129, f 130, f 131, f 132, f 133, f 134, f 135, f 136, f 137, f 138, f 139, f 140, f 141, f 142, f 143, f 144, f 145, f 146, f 147, f 148, f 149, f 150, f 151, f 152, f 153, f 154, f 155, f 156, f 157, f 158, f 159, f 160, f 161, f 162, f 163, f 164, f 165, f 166, f 167, f 168, f 169, f 170, f 171, f 172, f 173, f 174, f 175, f 176, f 177, f 178, f 179, f 180, f 181, f 182, f 183, f 184, f 185, f 186, f 187, f 188, f 189, f 190, f 191, f 192, f 193, f 194, f 195, f 196, f 197, f 198, f 199, f 200, f 201, f 202, f 203, f 204, f 205, f 206, f 207, f 208, f 209, f 210, f 211, f 212, f 213, f 214, f 215, f 216, f 217, f 218, f 219, f 220, f 221, f 222, f 223, f 224, f 225, f 226, f 227, f 228, f 229, f 230, f 231, f 232, f 233, f 234, f 235, f 236, f 237, f 238, f 239, f 240, f 241, f 242, f 243, f 244, f 245, f 246, f 247, f 248, f 249, f 250, f 251, f 252, f 253, f 254, f 255, f 256, f 257, f 258, f 259, f 260, f 261, f 262, f 263, f 264, f 265, f 266, f 267, f 268, f 269, f 270, f 271, f 272, f 273, f 274, f 275, f 276, f 277, f 278, f 279, f 280, f 281, f 282, f 283, f 284, f 285, f 286, f 287, f 288, f 289, f 290, f 291, f 292, f 293, f 294, f 295, f 296, f 297, f 298, f 299, f 300, f 301, f 302, f 303, f 304, f 305, f 306, f 307, f 308, f 309, f 310, f 311, f 312, f 313, f 314, f 315, f 316, f 317, f 318, f 319, f 320, f 321, f 322, f 323, f 324, f 325, f 326, f 327, f 328, f 329, f 330, f 331, f 332, f 333, f 334, f 335, f 336, f 337, f 338, f 339, f 340, f 341, f 342, f 343, f 344, f 345, f 346, f 347, f 348, f 349, f 350, f 351, f 352, f 353, f 354, f 355, f 356, f 357, f 358, f 359, f 360, f 361, f 362, f 363, f 364, f 365, f 366, f 367, f 368, f 369, f 370, f 371, f 372, f 373, f 374, f 375, f 376, f 377, f 378, f 379, f 380, f 381, f 382, f 383, f 384, f 385, f 386, f 387, f 388, f 389], []⟩ := by
 obtain ⟨f, e, hf⟩ := Fr.lit h;obtain ⟨h0, h3, h4, h5, h6, h7, h8, h10, h11, h12, h13, h15, h17, h18, h87, -⟩ := h.has;refine ⟨f, e.trans ?_⟩;have k0 := Zi h0 (hf 0 (by omega));have k3 := Zi h3 (hf 3 (by omega));have k4 := Zi h4 (hf 4 (by omega));have k5 := Zi h5 (hf 5 (by omega));have k6 := Zi h6 (hf 6 (by omega));have k7 := Zi h7 (hf 7 (by omega));have k8 := Zi h8 (hf 8 (by omega));have k10 := Zi h10 (hf 10 (by omega));have k11 := Zi h11 (hf 11 (by omega));have k12 := Zi h12 (hf 12 (by omega));have k13 := Zi h13 (hf 13 (by omega));have k15 := Zi h15 (hf 15 (by omega));have k17 := Zi h17 (hf 17 (by omega));have k18 := Zi h18 (hf 18 (by omega));have k87 := Zi h87 (hf 87 (by omega));rw [← k0];rw [← k3];rw [← k4];rw [← k5];rw [← k6];rw [← k7];rw [← k8];rw [← k10];rw [← k11];rw [← k12];rw [← k13];rw [← k15];rw [← k17];rw [← k18];rw [← k87]
 rfl
theorem Zf1.mk' {A : Array Value} (hs : A.size = 390) (h0 : A[0]? = some (.pointer (some ⟨LB, 0, none⟩))) (h3 : A[3]? = some (.pointer (some ⟨EB, 0, none⟩))) (h4 : A[4]? = some (.pointer (some ⟨RB, 0, none⟩))) (h5 : A[5]? = some (.pointer (some ⟨UB, 0, none⟩))) (h6 : A[6]? = some (.pointer (some ⟨NB, 0, none⟩))) (h7 : A[7]? = some (.pointer (some ⟨SB, 0, none⟩))) (h8 : A[8]? = some (.slice Ak nk qk)) (h10 : A[10]? = some (.pointer (some ⟨FB, 0, none⟩))) (h11 : A[11]? = some (.pointer (some ⟨GB, 0, none⟩))) (h12 : A[12]? = some (.pointer (some ⟨RO + 1, 0, none⟩))) (h13 : A[13]? = some (.pointer (some ⟨RT + 1, 0, none⟩))) (h15 : A[15]? = some (v15)) (h17 : A[17]? = some (v17)) (h18 : A[18]? = some (v18)) (h87 : A[87]? = some (.int .i64 kd)) : Zf1 LB EB RB UB NB SB Ak nk qk FB GB RO RT kd v15 v17 v18 ⟨A, []⟩ := ⟨hs, rfl, h0, h3, h4, h5, h6, h7, h8, h10, h11, h12, h13, h15, h17, h18, h87, trivial⟩
end
def Zcq (RB : Nat) (a : Act) : Prop := Fr 390 [(4, .pointer (some ⟨RB, 0, none⟩))] a
section
variable {RB : Nat} {a : Act}
theorem Zcq.opn (h : Zcq RB a) : ∃ f : Nat → Value, a = ⟨#[f 0, f 1, f 2, f 3, .pointer (some ⟨RB, 0, none⟩), f 5, f 6, f 7, f 8, f 9, f 10, f 11, f 12, f 13, f 14, f 15, f 16, f 17, f 18, f 19, f 20, f 21, f 22, f 23, f 24, f 25, f 26, f 27, f 28, f 29, f 30, f 31, f 32, f 33, f 34, f 35, f 36, f 37, f 38, f 39, f 40, f 41, f 42, f 43, f 44, f 45, f 46, f 47, f 48, f 49, f 50, f 51, f 52, f 53, f 54, f 55, f 56, f 57, f 58, f 59, f 60, f 61, f 62, f 63, f 64, f 65, f 66, f 67, f 68, f 69, f 70, f 71, f 72, f 73, f 74, f 75, f 76, f 77, f 78, f 79, f 80, f 81, f 82, f 83, f 84, f 85, f 86, f 87, f 88, f 89, f 90, f 91, f 92, f 93, f 94, f 95, f 96, f 97, f 98, f 99, f 100, f 101, f 102, f 103, f 104, f 105, f 106, f 107, f 108, f 109, f 110, f 111, f 112, f 113, f 114, f 115, f 116, f 117, f 118, f 119, f 120, f 121, f 122, f 123, f 124, f 125, f 126, f 127, f 128, f 129, f 130, f 131, f 132, f 133, f 134, f 135, f 136, f 137, f 138, f 139, f 140, f 141, f 142, f 143, f 144, f 145, f 146, f 147, f 148, f 149, f 150, f 151, f 152, f 153, f 154, f 155, f 156, f 157, f 158, f 159, f 160, f 161, f 162, f 163, f 164, f 165, f 166, f 167, f 168, f 169, f 170, f 171, f 172, f 173, f 174, f 175, f 176, f 177, f 178, f 179, f 180, f 181, f 182, f 183, f 184, f 185, f 186, f 187, f 188, f 189, f 190, f 191, f 192, f 193, f 194, f 195, f 196, f 197, f 198, f 199, f 200, f 201, f 202, f 203, f 204, f 205, f 206, f 207, f 208, f 209, f 210, f 211, f 212, f 213, f 214, f 215, f 216, f 217, f 218, f 219, f 220, f 221, f 222, f 223, f 224, f 225, f 226, f 227, f 228, f 229, f 230, f 231, f 232, f 233, f 234, f 235, f 236, f 237, f 238, f 239, f 240, f 241, f 242, f 243, f 244, f 245, f 246, f 247, f 248, f 249, f 250, f 251, f 252, f 253, f 254, f 255, f 256, f 257, f 258, f 259, f 260, f 261, f 262, f 263, f 264, f 265, f 266, f 267, f 268, f 269, f 270, f 271, f 272, f 273, f 274, f 275, f 276, f 277, f 278, f 279, f 280, f 281, f 282, f 283, f 284, f 285, f 286, f 287, f 288, f 289, f 290, f 291, f 292, f 293, f 294, f 295, f 296, f 297, f 298, f 299, f 300, f 301, f 302, f 303, f 304, f 305, f 306, f 307, f 308, f 309, f 310, f 311, f 312, f 313, f 314, f 315, f 316, f 317, f 318, f 319, f 320, f 321, f 322, f 323, f 324, f 325, f 326, f 327, f 328, f 329, f 330, f 331, f 332, f 333, f 334, f 335, f 336, f 337, f 338, f 339, f 340, f 341, f 342, f 343, f 344, f 345, f 346, f 347, f 348, f 349, f 350, f 351, f 352, f 353, f 354, f 355, f 356, f 357, f 358, f 359, f 360, f 361, f 362, f 363, f 364, f 365, f 366, f 367, f 368, f 369, f 370, f 371, f 372, f 373, f 374, f 375, f 376, f 377, f 378, f 379, f 380, f 381, f 382, f 383, f 384, f 385, f 386, f 387, f 388, f 389], []⟩ := by
 obtain ⟨f, e, hf⟩ := Fr.lit h;obtain ⟨h4, -⟩ := h.has;refine ⟨f, e.trans ?_⟩;have k4 := Zi h4 (hf 4 (by omega));rw [← k4]
 rfl
theorem Zcq.mk' {A : Array Value} (hs : A.size = 390) (h4 : A[4]? = some (.pointer (some ⟨RB, 0, none⟩))) : Zcq RB ⟨A, []⟩ := ⟨hs, rfl, h4, trivial⟩
end
noncomputable def shSw : Code := cR (cL (cR (cR (cR (cR (cR (cR (cR (cR (cR (cR (cR (cR (cR (Zal Tryz.f55)))))))))))))))
end
section
structure ChS (E : Zaz) (G : Nat → Prop) (AL : Option Addr) (kl LB cs : Nat) (c : Ze) (A : Option Addr) (k : Nat) (EB RB UB NB SB : Nat) (m : Int) (K : List Zf) (kb : Nat) (cur : Array Value) (tag : Nat → Nat) (a0 t TX : Nat) (w x : World) : Prop where
 hb : LsB E G AL kl LB cs c A k EB RB UB NB SB m w x
 st : LwS E G AL kl LB (cs + csX c) x
 kr : x.heap[kb]? = some (.cells cur Z7 (0, 0))
 kd : ∀ i (h : i < K.length), ∃ v, CV (fun y => (Iv a0 t y ∧ y ≠ kb) ∧ tag y = i) x K[i] v ∧ ∀ j u, (K[i].cells v)[j]? = some u → cur[i * 6 + j]? = some u
 lo : EB < a0 ∧ RB < a0 ∧ UB < a0 ∧ NB < a0 ∧ SB < a0 ∧ LB < a0 ∧ w.heap.size ≤ a0
 or : a0 ≤ kb ∧ kb < t ∧ t ≤ TX
section
variable {E : Zaz} {G : Nat → Prop} {AL : Option Addr} {kl LB cs : Nat} {c : Ze} {A : Option Addr} {k : Nat} {EB RB UB NB SB : Nat} {m : Int} {K : List Zf} {kb : Nat} {cur : Array Value} {tag : Nat → Nat} {a0 t TX : Nat} {w x y z : World}
theorem ChS.keep {P : Nat → Prop} (h : ChS E G AL kl LB cs c A k EB RB UB NB SB m K kb cur tag a0 t TX w x) (hk : Tn P x y) (hP : ∀ b, P b → TX ≤ b) : ChS E G AL kl LB cs c A k EB RB UB NB SB m K kb cur tag a0 t TX w y := by
 have ho := h.or;have hl := h.lo;exact ⟨h.hb.keep hk fun b hb => .inr (by have := hP b hb; omega), h.st.keep hk fun b hb => ⟨by have := hP b hb; omega, fun hF => by have := h.hb.bs.un.flt b hF; have := hP b hb; omega, fun hG => by have := h.hb.lg b hG; have := hP b hb; omega⟩, hk.has h.kr fun hp => by have := hP _ hp; omega, fun i hi => by
  obtain ⟨v, hv, hc⟩ := h.kd i hi;exact ⟨v, hv.keep (fun _ h => h) (hk.keeps fun b hb hp => by have := hP _ hp; have := hb.1.1.2; omega), hc⟩, h.lo, h.or⟩
theorem ChS.later (h : ChS E G AL kl LB cs c A k EB RB UB NB SB m K kb cur tag a0 t TX w x) (hl : Zb x y) : ChS E G AL kl LB cs c A k EB RB UB NB SB m K kb cur tag a0 t TX w y := h.keep (Tn.later (P := fun _ => False) hl) fun _ h => h.elim
structure TeP (F : Nat → Prop) (m line : Int) (op : Int) (D : Zf) (x : World) (B : Nat) (y : World) : Prop where
 la : Zb x y
 ge : x.heap.size ≤ B
 o : ∃ B9, x.heap.size ≤ B9 ∧ B9 < y.heap.size ∧ B9 ≠ B ∧ y.heap[B]? = some (.cells ((cO op line [cM 5 m line, D]).cells (.slice (some ⟨B9, 0, none⟩) 2 2)).toArray Z7 (0, 0)) ∧ CV (fun z => F z ∨ z = B9) y (cO op line [cM 5 m line, D]) (.slice (some ⟨B9, 0, none⟩) 2 2)
theorem TeP.of {F : Nat → Prop} {op line : Int} {D : Zf} {Av : Option Addr} {qv B B9 : Nat} {cu : Array Value} (hv : CV F x D (.slice Av D.kids.length qv)) (hF : ∀ b, F b → b < x.heap.size) (hm : Zy m) (hl64 : Zy line) (ho : 0 ≤ op ∧ op ≤ 1000) (hl : Zb x z) (hb : z.heap[B]? = some (.cells cu Z7 (0, 0))) (hs : cu.size = 6) (h9 : z.heap[B9]? = some (.cells #[.int .i64 5, .int .i64 0, .int .i64 m, .int .i64 line, .string ⟨#[]⟩, .slice none 0 0, .int .i64 D.kind, .int .i64 D.op, .int .i64 D.aB, .int .i64 D.line, .string D.text, .slice Av D.kids.length qv] Z7 (0, 0))) (g : x.heap.size ≤ B) (g9 : x.heap.size ≤ B9) (hne : B9 ≠ B) :
  TeP F m line op D x B ((((((z.setCell ⟨B, 0, none⟩ (.int .i64 11)).setCell ⟨B, 1, none⟩ (.int .i64 op)).setCell ⟨B, 2, none⟩ (.int .i64 0)).setCell ⟨B, 3, none⟩ (.int .i64 line)).setCell ⟨B, 4, none⟩ (.string ⟨#[]⟩)).setCell ⟨B, 5, none⟩ (.slice (some ⟨B9, 0, none⟩) 2 2)) := by
 have hk := Tn.put6 (Tn.refl (fun b => b = B) z) rfl (.int .i64 11) (.int .i64 op) (.int .i64 0) (.int .i64 line) (.string ⟨#[]⟩) (.slice (some ⟨B9, 0, none⟩) 2 2);have r2 : Zz Zbe 6 Z7 (fun y => F y ∨ y = B9) z [cM 5 m line, D] (.slice (some ⟨B9, 0, none⟩) 2 2) :=
  Znf (K0 := fun _ => False) (v0 := .slice none 0 0) h9 (CV.cm _ _ (by decide) (by decide) hm hl64) (hv.later hl) (.inr rfl) (fun _ h => h.elim) (fun y hy => ⟨.inl hy, fun e => by have := hF y hy; omega⟩) (fun _ h => h.elim)
 refine ⟨(((((hl.setCell g _).setCell g _).setCell g _).setCell g _).setCell g _).setCell g _, g, B9, g9, Nat.lt_of_lt_of_le (Za h9) hk.size, hne, Zwe hb hs _ _ _ _ _ _, (CV.co r2 ho.1 ho.2 hl64).keep (fun _ h => h) (hk.keeps fun y hy e => ?_)⟩;subst e
 rcases hy with h | h
 ·have := hF _ h; omega
 ·exact hne h.symm
end
noncomputable def shTe : Code := cL (cB (cL (cR (cB (cB (cR (cL (cR (cR (cR (cT (cR (cE (cR (cE (cR (cE (cR (cE (cR (cE (cR (cE (cR (cE (cR (cE (cR (cE (cR (cE (cR (cE (cR (cE (cR (cE (cR (cE (cR (cE (cR (cE (cR (cE (cR (cB (cR (cL (cR (cR (cR (cR (cR (cR (cR (cR (cR (cR (cR (cR (cR (Zal Tryz.f55)))))))))))))))))))))))))))))))))))))))))))))))))))))))))))))))
noncomputable def shLp : Code := cR (cL (cR (cR (cR (cT (cR (cE (cR (cE (cR (cE (cR (cE (cR (cE (cR (cE (cR (cE (cR (cE (cR (cE (cR (cE (cR (cE (cR (cE (cR (cE (cR (cE (cR (cE (cR (cE (cR (cE (cR (cB (cR (cL (cR (cR (cR (cR (cR (cR (cR (cR (cR (cR (cR (cR (cR (Zal Tryz.f55)))))))))))))))))))))))))))))))))))))))))))))))))))))))))
end
theorem Zyb {s : ByteArray} (hk : Zd7 s = true) (h0 : bl s ≠ [38]) (h1 : bl s ≠ [63]) (h2 : bl s ≠ [124]) (h3 : bl s ≠ [92]) : bnN s = if bl s = [63, 63] then 75 else if bl s = [46, 124] then 76 else if bl s = [45, 62] then 77 else if bl s = [61, 62] then 78 else if 2 < s.size ∧ (s.extract (s.size - 2) s.size).toList = [58, 61] then 220 + Zak (Zav Zg4) (s.extract 0 (s.size - 2)) else 20 + Zak (Zav Zg4) s := by
 have hi : bl s ∈ Zjc := by simpa [Zd7] using hk
 clear hk;obtain ⟨t⟩ := s;obtain ⟨l, rfl⟩ : ∃ l : List UInt8, t = l.toArray := ⟨t.toList, by simp⟩;simp only [Zjc, bl, List.mem_cons, List.not_mem_nil, or_false] at hi h0 h1 h2 h3
 rcases hi with rfl | rfl | rfl | rfl | rfl | rfl | rfl | rfl | rfl | rfl | rfl | rfl | rfl | rfl | rfl | rfl | rfl | rfl | rfl | rfl | rfl | rfl | rfl | rfl | rfl | rfl | rfl | rfl | rfl | rfl | rfl | rfl | rfl | rfl | rfl | rfl | rfl | rfl | rfl | rfl | rfl | rfl | rfl | rfl | rfl | rfl | rfl | rfl
 all_goals first | exact absurd rfl h0 | exact absurd rfl h1 | exact absurd rfl h2 | exact absurd rfl h3 | decide +kernel
theorem Zwy (s : ByteArray) (w : World) (hz : s.size ≤ maxLen) (hk : Zd7 s = true) (h0 : bl s ≠ [38]) (h1 : bl s ≠ [63]) (h2 : bl s ≠ [124]) (h3 : bl s ≠ [92]) : Calls Tryz.prog 100 #[.string s] w fun e w' => e = .returned (.int .i64 (bnN s)) ∧ Zb w w' := by
 have HTB := zh (Zyb hk h0 h1 h2 h3);obtain ⟨R, hR⟩ : ∃ z, z = bnN s := ⟨_, rfl⟩;rw [← hR] at HTB ⊢;have HW := zh (fun w => Zmj w);have HC := zh (fun w x y (hl : Zb (w.alloc (Zau Zg4)) y) => Zbv (Zav Zg4) _ x _ y ((Zdf w Zg4 (by decide) (by decide)).later Zg hl));have HFL := zh (fun x => Zdm (Zav Zg4) x);have hsz : (s.size : Int) ≤ 9223372036854775807 := by unfold maxLen at hz; omega
 clear hR hk h0 h1 h2 h3 hz;obtain ⟨b0, e0⟩ : ∃ t : Bool, (s.toList == [63, 63]) = t := ⟨_, rfl⟩;have HB0 := zh (show (bl s = [63, 63]) ↔ b0 = true by rw [← e0, beq_iff_eq, Zas]);obtain ⟨b1, e1⟩ : ∃ t : Bool, (s.toList == [46, 124]) = t := ⟨_, rfl⟩;have HB1 := zh (show (bl s = [46, 124]) ↔ b1 = true by rw [← e1, beq_iff_eq, Zas]);obtain ⟨b2, e2⟩ : ∃ t : Bool, (s.toList == [45, 62]) = t := ⟨_, rfl⟩;have HB2 := zh (show (bl s = [45, 62]) ↔ b2 = true by rw [← e2, beq_iff_eq, Zas]);obtain ⟨b3, e3⟩ : ∃ t : Bool, (s.toList == [61, 62]) = t := ⟨_, rfl⟩;have HB3 := zh (show (bl s = [61, 62]) ↔ b3 = true by rw [← e3, beq_iff_eq, Zas]);go_enter Tryz.func100, Tryz.ntmps100
 cases b0 with
 | true =>
  go_wp2_with fail;go_ret;exact ⟨Zu (by rw [HTB.o, if_pos (HB0.o.2 (by simp))]), Zb.refl _⟩
 | false =>
 cases b1 with
 | true =>
  go_wp2_with fail;go_ret;exact ⟨Zu (by rw [HTB.o, if_neg (fun h => by have := HB0.o.1 h; cases this), if_pos (HB1.o.2 (by simp))]), Zb.refl _⟩
 | false =>
 cases b2 with
 | true =>
  go_wp2_with fail;go_ret;exact ⟨Zu (by rw [HTB.o, if_neg (fun h => by have := HB0.o.1 h; cases this), if_neg (fun h => by have := HB1.o.1 h; cases this), if_pos (HB2.o.2 (by simp))]), Zb.refl _⟩
 | false =>
 cases b3 with
 | true =>
  go_wp2_with fail;go_ret;exact ⟨Zu (by rw [HTB.o, if_neg (fun h => by have := HB0.o.1 h; cases this), if_neg (fun h => by have := HB1.o.1 h; cases this), if_neg (fun h => by have := HB2.o.1 h; cases this), if_pos (HB3.o.2 (by simp))]), Zb.refl _⟩
 | false =>
 have HT2 := zh HTB.o;rw [if_neg (fun h => by have := HB0.o.1 h; cases this), if_neg (fun h => by have := HB1.o.1 h; cases this), if_neg (fun h => by have := HB2.o.1 h; cases this), if_neg (fun h => by have := HB3.o.1 h; cases this)] at HT2;clear HTB;go_upto_region 9 with (fail);clear e0 e1 e2 e3;go_upto_region 10 with (fail)
 by_cases hn : 2 < s.size
 ·have v1 : decide ((2 : Int) < (s.size : Int)) = true := nT (by omega);obtain ⟨b, hb⟩ : ∃ z : Bool, ((s.extract (s.size - 2) s.size).toList == [58, 61]) = z := ⟨_, rfl⟩;have HB := zh (show ((s.extract (s.size - 2) s.size).toList = [58, 61]) ↔ b = true by rw [← hb, beq_iff_eq])
  cases b with
  | true =>
   go_upto_region 11 with (fail);clear hb v1;rw [if_pos ⟨hn, HB.o.2 (by simp)⟩] at HT2;have v2 : IntKind.i64.wrap ((s.size : Int) - 2) = ((s.size - 2 : Nat) : Int) := by rw [IntWalk.i64_in _ (by omega)]; omega
   refine Zx [5, 6, 7] [] (by kernel_rfl) (fun W hW => ?_);subst hW;refine uU 1 24 ?_;simp only [yN];refine uU 2 25 ?_;simp only [yN];refine uU 3 26 ?_;simp only [yN];refine uU 4 27 ?_;simp only [yN];refine Z5 0 (by kernel_rfl) rfl rfl ?_;go_wp2_with fail;refine (HW.o _).mono ?_;rintro e w' ⟨rfl, hw⟩;subst hw;go_wp2_with fail;refine ⟨(Zb.refl _).alloc _, ?_⟩;refine Z6 [_, _, _] (by kernel_rfl) rfl rfl ?_;simp only [gA, gB, gC];go_wp2_with fail;refine (HC.o w (s.extract 0 (s.size - 2)) _ (by first | exact Zb.refl _ | exact (Zb.refl _).drew)).mono ?_;rintro e w' ⟨rfl, hw⟩;subst hw;obtain ⟨z, hz⟩ : ∃ z, z = Zak (Zav Zg4) (s.extract 0 (s.size - 2)) := ⟨_, rfl⟩;have hl := HFL.o (s.extract 0 (s.size - 2));rw [← hz] at HT2 hl ⊢;rw [show (Zav Zg4).length = 44 by simp [Zav]; rfl] at hl;clear hz;go_wp2_with fail;go_ret;exact ⟨Zu (by first | exact HT2.o.symm | (rw [IntWalk.wrap64_in _ (by omega)]; exact HT2.o.symm)), by first | exact (Zb.refl _).alloc _ | exact ((Zb.refl _).alloc _).drew⟩
  | false =>
   go_upto_region 12 with (fail);clear hb v1;rw [if_neg (fun h => by have := HB.o.1 h.2; cases this)] at HT2;go_wp2_with fail;refine (HW.o _).mono ?_;rintro e w' ⟨rfl, hw⟩;subst hw;go_wp2_with fail;refine (HC.o w s _ (by first | exact Zb.refl _ | exact (Zb.refl _).drew)).mono ?_;rintro e w' ⟨rfl, hw⟩;subst hw;obtain ⟨z, hz⟩ : ∃ z, z = Zak (Zav Zg4) s := ⟨_, rfl⟩;have hl := HFL.o s;rw [← hz] at HT2 hl ⊢;rw [show (Zav Zg4).length = 44 by simp [Zav]; rfl] at hl;clear hz;go_wp2_with fail;go_ret;exact ⟨Zu (by first | exact HT2.o.symm | (rw [IntWalk.wrap64_in _ (by omega)]; exact HT2.o.symm)), by first | exact (Zb.refl _).alloc _ | exact ((Zb.refl _).alloc _).drew⟩
 ·have v1 : decide ((2 : Int) < (s.size : Int)) = false := nU (by omega);rw [if_neg (fun h => hn h.1)] at HT2;clear hn;go_upto_region 12 with (fail);clear v1;go_wp2_with fail;refine (HW.o _).mono ?_;rintro e w' ⟨rfl, hw⟩;subst hw;go_wp2_with fail;refine (HC.o w s _ (by first | exact Zb.refl _ | exact (Zb.refl _).drew)).mono ?_;rintro e w' ⟨rfl, hw⟩;subst hw;obtain ⟨z, hz⟩ : ∃ z, z = Zak (Zav Zg4) s := ⟨_, rfl⟩;have hl := HFL.o s;rw [← hz] at HT2 hl ⊢;rw [show (Zav Zg4).length = 44 by simp [Zav]; rfl] at hl;clear hz;go_wp2_with fail;go_ret;exact ⟨Zu (by first | exact HT2.o.symm | (rw [IntWalk.wrap64_in _ (by omega)]; exact HT2.o.symm)), by first | exact (Zb.refl _).alloc _ | exact ((Zb.refl _).alloc _).drew⟩
section
section
variable {P : Program} {ops : Array Oper} {Q : Exit → Act → World → Prop} {S : World → Prop}
theorem Zrr {i : Nat} {L U : List Nat} {o : Oper} {fuel : Nat} {listed : Array Bool} {a : Act} {w : World} (hu : U.contains i = false) (ho : ops[i]? = some o)
  (h : wpList P ops (Zgo Q S (fun a' w' => wpV P ops Q L U S fuel (listed.setIfInBounds i true) a' w')) [o] a w) :
  wpOp P ops Q i (fun a' w' => ((Zgf L U i = false → S w') ∧ (Zgz U i = true → w' = w)) ∧ Zdg P .any ops Q (Zgf L U) (Zgz U) S fuel (listed.setIfInBounds i true) a' w') a w := by
 unfold wpList at h;unfold wpOp;rw [ho];have hK : ∀ a' w', wpList P ops (Zgo Q S (fun a' w' => wpV P ops Q L U S fuel (listed.setIfInBounds i true) a' w')) [] a' w' →
   (((Zgf L U i = false → S w') ∧ (Zgz U i = true → w' = w)) ∧ Zdg P .any ops Q (Zgf L U) (Zgz U) S fuel (listed.setIfInBounds i true) a' w') := fun a' w' h' =>
  ⟨⟨fun _ => h'.1, fun h0 => (by unfold Zgz at h0; rw [hu] at h0; cases h0)⟩, h'.2⟩
 have hup : o.wp P a w (wpList P ops (Zgo Q S (fun a' w' => wpV P ops Q L U S fuel (listed.setIfInBounds i true) a' w')) []) (Zgo Q S (fun a' w' => wpV P ops Q L U S fuel (listed.setIfInBounds i true) a' w')) →
   o.wp P a w (wpList P ops (Zgo Q S (fun a' w' => wpV P ops Q L U S fuel (listed.setIfInBounds i true) a' w')) []) Q := fun h' => by
  unfold Oper.wp at *
  generalize (execOp a.eval o).run P w = r at *
  cases r with
  | ok n w' => cases n <;> exact h'
  | halt x w' => cases x <;> exact h'
 show if Region.wanted o (yielded ops a.tmps) = true then _ else _
 split
 ·rename_i hw;rw [if_pos hw] at h
  rcases h with h | ⟨h1, h2⟩
  ·exact .inl (Oper.wp_mono hK (hup h))
  ·exact .inr ⟨h1, h2⟩
 ·rename_i hw;rw [if_neg hw] at h;exact hK _ _ h
theorem Zrs (i j : Nat) {L U : List Nat} {oi oj : Oper} {fuel : Nat} {listed : Array Bool} {a : Act} {w : World} (hr : Region.ready .any ops listed = [i, j]) (hui : U.contains i = false) (huj : U.contains j = false) (hoi : ops[i]? = some oi) (hoj : ops[j]? = some oj)
  (h1 : wpList P ops (Zgo Q S (fun a' w' => wpV P ops Q L U S fuel (listed.setIfInBounds i true) a' w')) [oi] a w)
  (h2 : wpList P ops (Zgo Q S (fun a' w' => wpV P ops Q L U S fuel (listed.setIfInBounds j true) a' w')) [oj] a w) : wpV P ops Q L U S (fuel + 1) listed a w := by
 refine ⟨fun h0 => (by rw [hr] at h0; cases h0), fun k hk => ?_⟩;rw [hr] at hk;simp only [List.mem_cons, List.not_mem_nil, or_false] at hk
 rcases hk with rfl | rfl
 ·exact Zrr hui hoi h1
 ·exact Zrr huj hoj h2
end
end
theorem Zvj {a : Act} (E : Zaz) (G : Nat → Prop) (AL : Option Addr) (kl LB cs : Nat) (c : Ze) (A : Option Addr) (k : Nat) (EB RB UB NB SB : Nat) (m : Int) (K : List Zf) (kb : Nat) (cur : Array Value) (tag : Nat → Nat) (a0 t TX : Nat) (qk FB GB RO RT : Nat) (v18 : Value) (w x : World) (i : Nat) (D : Zf) (Av : Option Addr) (qv : Nat) (HB : Hd (ChS E G AL kl LB cs c A k EB RB UB NB SB m K kb cur tag a0 t TX w x)) (HI : Hd (i < K.length ∧ K.length ≤ 100)) (HV : Hd (CV (fun y => (Iv a0 t y ∧ y ≠ kb) ∧ tag y = i) x D (.slice Av D.kids.length qv))) (HCD : Hd (∀ j u, (D.cells (.slice Av D.kids.length qv))[j]? = some u → cur[i * 6 + j]? = some u)) (HKZ : Hd (t ≤ x.heap.size)) (HM : Hd (Zy m ∧ Zy c.line)) (HF : Hd (Zf1 LB EB RB UB NB SB (some ⟨kb, 0, none⟩) K.length qk FB GB RO RT c.kind (.pointer (some ⟨TX, 0, none⟩)) (.int .i64 i) (v18) a)) :
  shTe.wp Tryz.prog (Zc0 fun a' y => ∃ B, Zf1 LB EB RB UB NB SB (some ⟨kb, 0, none⟩) K.length qk FB GB RO RT c.kind (.pointer (some ⟨TX, 0, none⟩)) (.int .i64 i) (.pointer (some ⟨B, 0, none⟩)) a' ∧ TeP (fun y => (Iv a0 t y ∧ y ≠ kb) ∧ tag y = i) m c.line 46 D x B y) a x := by
 have hik : (i : Int) < (K.length : Int) := by have := HI.o; omega
 obtain ⟨fr, rfl⟩ := HF.o.opn;clear HF
 conv => arg 2; whnf
 refine Zap [10] [] (fun z => Zb x z) (by kernel_rfl) (fun W hW => ?_);have hlW : Zb x W := by rw [hW]; exact (Zb.refl _).drew
 have HS := zh hlW;clear hlW hW;refine uV 0 299 HS.o ?_;simp only [yN];refine uV 1 300 HS.o (hy := fun x hx => by have hxe := (hx.block _ (Za HB.o.hb.eb)).trans HB.o.hb.eb; have hxs := (hx.block _ (Za HB.o.hb.sb)).trans HB.o.hb.sb; have hxk := (hx.block _ (Za HB.o.kr)).trans HB.o.kr; have c0 := Z1 hxe; have fc0 := fz hxe; have s0 := cz6 hxs; have fs0 := fz hxs; obtain ⟨q0, q1, q2, q3, q4, q5⟩ := Zbl hxk HCD.o; go_simp <;> first | with_reducible rfl | rw [if_neg (by omega)] | rw [if_pos (by omega)]) ?_;simp only [yN];refine uV 2 301 HS.o (hy := fun x hx => by have hxe := (hx.block _ (Za HB.o.hb.eb)).trans HB.o.hb.eb; have hxs := (hx.block _ (Za HB.o.hb.sb)).trans HB.o.hb.sb; have hxk := (hx.block _ (Za HB.o.kr)).trans HB.o.kr; have c0 := Z1 hxe; have fc0 := fz hxe; have s0 := cz6 hxs; have fs0 := fz hxs; obtain ⟨q0, q1, q2, q3, q4, q5⟩ := Zbl hxk HCD.o; go_simp <;> first | with_reducible rfl | rw [if_neg (by omega)] | rw [if_pos (by omega)]) ?_;simp only [yN];refine uV 3 302 HS.o ?_;simp only [yN];refine uV 4 303 HS.o ?_;simp only [yN];refine uV 5 304 HS.o ?_;simp only [yN];refine uV 6 305 HS.o (hy := fun x hx => by have hxe := (hx.block _ (Za HB.o.hb.eb)).trans HB.o.hb.eb; have hxs := (hx.block _ (Za HB.o.hb.sb)).trans HB.o.hb.sb; have hxk := (hx.block _ (Za HB.o.kr)).trans HB.o.kr; have c0 := Z1 hxe; have fc0 := fz hxe; have s0 := cz6 hxs; have fs0 := fz hxs; obtain ⟨q0, q1, q2, q3, q4, q5⟩ := Zbl hxk HCD.o; go_simp <;> first | with_reducible rfl | rw [if_neg (by omega)] | rw [if_pos (by omega)]) ?_
 simp only [yN];refine Zrs 7 9 (by kernel_rfl) rfl rfl rfl rfl ?_ ?_
 ·go_wp2_with fail;obtain ⟨w9, B9, hl, hn, h1, h2⟩ := al W (.cells #[.int .i64 5, .int .i64 0, .int .i64 m, .int .i64 c.line, .string ⟨#[]⟩, .slice none 0 0, .int .i64 D.kind, .int .i64 D.op, .int .i64 D.aB, .int .i64 D.line, .string D.text, .slice Av D.kids.length qv] Z7);rw [h1, h2];have HN9 := zh hn;have HN9E := zh h2;have HL9 := zh hl;clear hl hn h1 h2;have HG9 := zh (show x.heap.size ≤ B9 from HN9E.o ▸ HS.o.size);have HS := zh (Zb.trans HS.o HL9.o);refine ⟨HS.o, ?_⟩;refine Zrs 8 9 (by kernel_rfl) rfl rfl rfl rfl ?_ ?_
  ·go_wp2_with fail;refine (Zc5 46 c.line (some ⟨B9, 0, none⟩) 2 2 w9).mono ?_;rintro e w10 ⟨rfl, hb⟩;have HL10 := zh (show Zb w9 w10 from hb);clear hb;go_wp2_with fail;have HS := zh (Zb.trans HS.o HL10.o);refine ⟨HS.o, ?_⟩;refine Zv 9 (by kernel_rfl) rfl rfl ?_;go_wp2_with fail;obtain ⟨w18, B, hl, hn, h1, h2⟩ := al w10 (.cells #[.int .i64 0, .int .i64 0, .int .i64 0, .int .i64 0, .string ⟨#[]⟩, .slice none 0 0] Z7);rw [h1, h2];have HN18 := zh hn;have HN18E := zh h2;have HL18 := zh hl;clear hl hn h1 h2;have HG18 := zh (show x.heap.size ≤ B from HN18E.o ▸ HS.o.size);have HS := zh (Zb.trans HS.o HL18.o);refine ⟨HS.o, ?_⟩;refine Zay [_] (by kernel_rfl) rfl rfl ?_;simp only [gA, gB, gC];have HQ := zh HN18.o;have e1 := HQ.o;have r0 := cz6 e1;have fr0 := fz e1;clear e1;go_wp2_with fail;exact ⟨B, Zf1.mk' rfl rfl rfl rfl rfl rfl rfl rfl rfl rfl rfl rfl rfl rfl rfl rfl, TeP.of HV.o (fun b hb => by have := hb.1.1.2; have := HKZ.o; omega) HM.o.1 HM.o.2 (by decide) HS.o HQ.o rfl ((HL18.o.block _ (Za (((HL10.o.block _ (Za (HN9.o))).trans (HN9.o))))).trans (((HL10.o.block _ (Za (HN9.o))).trans (HN9.o)))) HG18.o HG9.o (by have := Za HN9.o; have := HN18E.o; have h1 := HL9.o.size; have h2 := HL10.o.size; omega)⟩
  ·go_wp2_with fail;obtain ⟨w18, B, hl, hn, h1, h2⟩ := al w9 (.cells #[.int .i64 0, .int .i64 0, .int .i64 0, .int .i64 0, .string ⟨#[]⟩, .slice none 0 0] Z7);rw [h1, h2];have HN18 := zh hn;have HN18E := zh h2;have HL18 := zh hl;clear hl hn h1 h2;have HG18 := zh (show x.heap.size ≤ B from HN18E.o ▸ HS.o.size);have HS := zh (Zb.trans HS.o HL18.o);refine ⟨HS.o, ?_⟩;refine Zv 8 (by kernel_rfl) rfl rfl ?_;go_wp2_with fail;refine (Zc5 46 c.line (some ⟨B9, 0, none⟩) 2 2 w18).mono ?_;rintro e w10 ⟨rfl, hb⟩;have HL10 := zh (show Zb w18 w10 from hb);clear hb;go_wp2_with fail;have HS := zh (Zb.trans HS.o HL10.o);refine ⟨HS.o, ?_⟩;refine Zay [_] (by kernel_rfl) rfl rfl ?_;simp only [gA, gB, gC];have HQ := zh ((HL10.o.block _ (Za (HN18.o))).trans (HN18.o));have e1 := HQ.o;have r0 := cz6 e1;have fr0 := fz e1;clear e1;go_wp2_with fail;exact ⟨B, Zf1.mk' rfl rfl rfl rfl rfl rfl rfl rfl rfl rfl rfl rfl rfl rfl rfl rfl, TeP.of HV.o (fun b hb => by have := hb.1.1.2; have := HKZ.o; omega) HM.o.1 HM.o.2 (by decide) HS.o HQ.o rfl ((HL10.o.block _ (Za (((HL18.o.block _ (Za (HN9.o))).trans (HN9.o))))).trans (((HL18.o.block _ (Za (HN9.o))).trans (HN9.o)))) HG18.o HG9.o (by have := Za HN9.o; have := HN18E.o; have h1 := HL9.o.size; have h2 := HL10.o.size; omega)⟩
 ·go_wp2_with fail;obtain ⟨w18, B, hl, hn, h1, h2⟩ := al W (.cells #[.int .i64 0, .int .i64 0, .int .i64 0, .int .i64 0, .string ⟨#[]⟩, .slice none 0 0] Z7);rw [h1, h2];have HN18 := zh hn;have HN18E := zh h2;have HL18 := zh hl;clear hl hn h1 h2;have HG18 := zh (show x.heap.size ≤ B from HN18E.o ▸ HS.o.size);have HS := zh (Zb.trans HS.o HL18.o);refine ⟨HS.o, ?_⟩;refine Zv 7 (by kernel_rfl) rfl rfl ?_;go_wp2_with fail;obtain ⟨w9, B9, hl, hn, h1, h2⟩ := al w18 (.cells #[.int .i64 5, .int .i64 0, .int .i64 m, .int .i64 c.line, .string ⟨#[]⟩, .slice none 0 0, .int .i64 D.kind, .int .i64 D.op, .int .i64 D.aB, .int .i64 D.line, .string D.text, .slice Av D.kids.length qv] Z7);rw [h1, h2];have HN9 := zh hn;have HN9E := zh h2;have HL9 := zh hl;clear hl hn h1 h2;have HG9 := zh (show x.heap.size ≤ B9 from HN9E.o ▸ HS.o.size);have HS := zh (Zb.trans HS.o HL9.o);refine ⟨HS.o, ?_⟩;refine Zv 8 (by kernel_rfl) rfl rfl ?_;go_wp2_with fail;refine (Zc5 46 c.line (some ⟨B9, 0, none⟩) 2 2 w9).mono ?_;rintro e w10 ⟨rfl, hb⟩;have HL10 := zh (show Zb w9 w10 from hb);clear hb;go_wp2_with fail;have HS := zh (Zb.trans HS.o HL10.o);refine ⟨HS.o, ?_⟩;refine Zay [_] (by kernel_rfl) rfl rfl ?_;simp only [gA, gB, gC];have HQ := zh ((HL10.o.block _ (Za (((HL9.o.block _ (Za (HN18.o))).trans (HN18.o))))).trans (((HL9.o.block _ (Za (HN18.o))).trans (HN18.o))));have e1 := HQ.o;have r0 := cz6 e1;have fr0 := fz e1;clear e1;go_wp2_with fail
  exact ⟨B, Zf1.mk' rfl rfl rfl rfl rfl rfl rfl rfl rfl rfl rfl rfl rfl rfl rfl rfl, TeP.of HV.o (fun b hb => by have := hb.1.1.2; have := HKZ.o; omega) HM.o.1 HM.o.2 (by decide) HS.o HQ.o rfl ((HL10.o.block _ (Za (HN9.o))).trans (HN9.o)) HG18.o HG9.o (by have := Za HN18.o; have := HN9E.o; omega)⟩
theorem Zpg {a : Act} (E : Zaz) (G : Nat → Prop) (AL : Option Addr) (kl LB cs : Nat) (c : Ze) (A : Option Addr) (k : Nat) (EB RB UB NB SB : Nat) (m : Int) (K : List Zf) (kb : Nat) (cur : Array Value) (tag : Nat → Nat) (a0 t TX : Nat) (qk FB GB RO RT p : Nat) (rest : Zf) (v18 : Value) (w w5 : World) (HB : Hd (ChS E G AL kl LB cs c A k EB RB UB NB SB m K kb cur tag a0 t TX w w5)) (HTL : Hd (TX < w5.heap.size)) (HP : Hd (2 * p + 1 ≤ K.length ∧ p ≤ 100 ∧ K.length ≤ 100)) (HM : Hd (Zy m ∧ Zy c.line)) (HT : Hd (ChT kb tag (Iv a0 t) TX (2 * p + 1) w5 rest)) (HF : Hd (Zf1 LB EB RB UB NB SB (some ⟨kb, 0, none⟩) K.length qk FB GB RO RT c.kind (.pointer (some ⟨TX, 0, none⟩)) (.int .i64 (2 * (p : Int) - 1)) (v18) a)) :
  shLp.wp Tryz.prog (Zc0 fun a' x => (∃ X v18, Zf1 LB EB RB UB NB SB (some ⟨kb, 0, none⟩) K.length qk FB GB RO RT c.kind (.pointer (some ⟨TX, 0, none⟩)) (.int .i64 X) (v18) a') ∧ ChT kb tag (Iv a0 t) TX 1 x (chR (cM 5 m c.line) c.line K p rest p) ∧ Tn (fun b => b = TX) w5 x) a w5 := by
 have HF0 := HF;obtain ⟨fr, rfl⟩ := HF.o.opn;clear HF
 conv => arg 2; whnf
 go_wp2_with fail;refine wp_loop_ghost_k (fun g a x => ∃ (j : Nat) (X : Int) (v18 : Value), g + j = p ∧ X = 2 * ((p - j : Nat) : Int) - 1 ∧ Zf1 LB EB RB UB NB SB (some ⟨kb, 0, none⟩) K.length qk FB GB RO RT c.kind (.pointer (some ⟨TX, 0, none⟩)) (.int .i64 X) (v18) a ∧ ChT kb tag (Iv a0 t) TX (2 * (p - j) + 1) x (chR (cM 5 m c.line) c.line K p rest j) ∧ Tn (fun b => b = TX) w5 x) p ⟨0, _, _, by omega, rfl, HF0.o, HT.o, Tn.refl _ _⟩ ?_;clear HF0 fr HT v18;rintro gk a wr ⟨j, X, v18, hg, hX, hf, hct, htn⟩ J K' hJ hK;obtain ⟨fr, rfl⟩ := hf.opn;have HTN := zh htn;have HB5 := HB;have HB := zh (HB5.o.keep htn (fun b hb => by rw [hb]; exact Nat.le_refl _));clear hf htn HB5
 by_cases hlt : j < p
 ·have HPJ := zh (show j < p from hlt);obtain ⟨i, hi⟩ : ∃ i : Nat, i = 2 * (p - j) - 1 := ⟨_, rfl⟩;have hkl := HP.o;obtain rfl : X = ((i : Nat) : Int) := by rw [hX]; omega
  have HI := zh hi;have hib : i + 1 < K.length := by omega
  have hi1 : (1 : Int) ≤ (i : Int) := by omega
  have HIK := zh (⟨by omega, by omega⟩ : i < K.length ∧ K.length ≤ 100);have HIK1 := zh (show ((i + 1 : Nat) : Int) < (K.length : Int) by omega);have ta : IntKind.i64.wrap ((i : Int) + 1) = ((i + 1 : Nat) : Int) := by rw [IntWalk.i64_in _ (by omega)]; rfl
  have tb : wrap64 ((i : Int) - 2) = (i : Int) - 2 := IntWalk.wrap64_in _ (by omega);have HTAB := zh (⟨ta, tb⟩ : _ ∧ _);have HTLr := zh (show TX < wr.heap.size from Nat.lt_of_lt_of_le HTL.o HTN.o.size);clear hX hi ta tb hkl;obtain ⟨v, hv, hcv⟩ := HB.o.kd i (by omega);obtain ⟨Av, qv, rfl, -, -⟩ := hv.form;obtain ⟨D0, hD0⟩ : ∃ z, z = K[i]'(by omega) := ⟨_, rfl⟩;rw [← hD0] at hv hcv;have HD0 := zh hD0;have HVD0 := zh hv;have HCD0 := zh hcv;clear hv hcv hD0;obtain ⟨u, hu, hcu⟩ := HB.o.kd (i + 1) (by omega);obtain ⟨Au, qu, rfl, -, -⟩ := hu.form;obtain ⟨D1, hD1⟩ : ∃ z, z = K[(i + 1)]'(by omega) := ⟨_, rfl⟩;rw [← hD1] at hu hcu;have HD1 := zh hD1;have HVD1 := zh hu;have HCD1 := zh hcu;clear hu hcu hD1;obtain ⟨AT, qT, htb, hTC⟩ := hct.o;obtain ⟨C, hC⟩ : ∃ z, z = chR (cM 5 m c.line) c.line K p rest j := ⟨_, rfl⟩;rw [← hC] at htb hTC;have HC := zh hC;have HTB5 := zh htb;have HTC := zh hTC;clear htb hTC hC hct;go_upto_region 92 with (fail);clear hi1;refine @Z8 _ shTe ?R1 _ _ _ _ ?h1 ?k1
  case h1 =>
   refine Zvj E G AL kl LB cs c A k EB RB UB NB SB m K kb cur tag a0 t TX qk FB GB RO RT v18 w wr i D0 Av qv HB HIK HVD0 HCD0 (zh (by have := HB.o.or; have := HTLr.o; omega)) HM (zh ?hf1)
   case hf1 => exact Zf1.mk' rfl rfl rfl rfl rfl rfl rfl rfl rfl rfl rfl rfl rfl rfl rfl rfl
  case k1 =>
  rintro a' y1 ⟨B18, hf, hte⟩;obtain ⟨fr1, rfl⟩ := hf.opn;obtain ⟨B9, g9, l9, n9, hb18, hcv⟩ := hte.o;have HLA1 := zh hte.la;have HG18 := zh hte.ge;have HG9 := zh (⟨g9, l9, n9⟩ : _ ∧ _ ∧ _);have HS1 := zh (show y1.heap[B18]? = some (.cells #[.int .i64 11, .int .i64 46, .int .i64 0, .int .i64 c.line, .string ⟨#[]⟩, .slice (some ⟨B9, 0, none⟩) 2 2] Z7 (0, 0)) from hb18);have HCT1 := zh hcv;have HB1 := zh (HB.o.later hte.la);have HT1 := zh ((hte.la.block _ (Za HTB5.o)).trans HTB5.o);have HTC1 := zh (HTC.o.later hte.la);have HVD1y := zh (HVD1.o.later hte.la);clear hf hte g9 l9 n9 hb18 hcv;go_upto_region 93 with (fail);have hik1 := HIK1.o;have ta := HTAB.o.1;refine Zx [11] [] (by kernel_rfl) (fun W hW => ?_);have hlW : Zb y1 W := by rw [hW]; exact (Zb.refl _).drew
  have HLW := zh hlW;have HBW := zh (HB1.o.later hlW);have HTW := yC hlW HT1;have HSW := yC hlW HS1;clear hlW hW;refine uU 0 308 ?_;simp only [yN];refine uU 1 309 (hy := fun x hx => by have hxe := (hx.block _ (Za HBW.o.hb.eb)).trans HBW.o.hb.eb; have hxk := (hx.block _ (Za HBW.o.kr)).trans HBW.o.kr; have hxt := (hx.block _ (Za HTW.o)).trans HTW.o; unfold Zf.cells at hxt; have hxs := (hx.block _ (Za HSW.o)).trans HSW.o; obtain ⟨c0, c1, c2, c3, c4⟩ := Z1 hxe; have fc0 := fz hxe; have s0 := cz6 hxs; have fs0 := fz hxs; have t0 := cz6 hxt; have ft0 := fz hxt; obtain ⟨p0, p1, p2, p3, p4, p5⟩ := Zbl hxk HCD1.o; go_simp <;> with_reducible rfl) ?_;simp only [yN];refine uU 2 310 (hy := fun x hx => by have hxe := (hx.block _ (Za HBW.o.hb.eb)).trans HBW.o.hb.eb; have hxk := (hx.block _ (Za HBW.o.kr)).trans HBW.o.kr; have hxt := (hx.block _ (Za HTW.o)).trans HTW.o; unfold Zf.cells at hxt; have hxs := (hx.block _ (Za HSW.o)).trans HSW.o; obtain ⟨c0, c1, c2, c3, c4⟩ := Z1 hxe; have fc0 := fz hxe; have s0 := cz6 hxs; have fs0 := fz hxs; have t0 := cz6 hxt; have ft0 := fz hxt; obtain ⟨p0, p1, p2, p3, p4, p5⟩ := Zbl hxk HCD1.o; go_simp <;> with_reducible rfl) ?_;simp only [yN];refine uU 3 311 ?_;simp only [yN];refine uU 4 312 ?_;simp only [yN];refine uU 5 313 ?_;simp only [yN];refine uU 6 314 ?_;simp only [yN];refine uU 7 315 (hy := fun x hx => by have hxe := (hx.block _ (Za HBW.o.hb.eb)).trans HBW.o.hb.eb; have hxk := (hx.block _ (Za HBW.o.kr)).trans HBW.o.kr; have hxt := (hx.block _ (Za HTW.o)).trans HTW.o; unfold Zf.cells at hxt; have hxs := (hx.block _ (Za HSW.o)).trans HSW.o; obtain ⟨c0, c1, c2, c3, c4⟩ := Z1 hxe; have fc0 := fz hxe; have s0 := cz6 hxs; have fs0 := fz hxs; have t0 := cz6 hxt; have ft0 := fz hxt; obtain ⟨p0, p1, p2, p3, p4, p5⟩ := Zbl hxk HCD1.o; go_simp <;> with_reducible rfl) ?_
  simp only [yN];refine uU 8 316 (hy := fun x hx => by have hxe := (hx.block _ (Za HBW.o.hb.eb)).trans HBW.o.hb.eb; have hxk := (hx.block _ (Za HBW.o.kr)).trans HBW.o.kr; have hxt := (hx.block _ (Za HTW.o)).trans HTW.o; unfold Zf.cells at hxt; have hxs := (hx.block _ (Za HSW.o)).trans HSW.o; obtain ⟨c0, c1, c2, c3, c4⟩ := Z1 hxe; have fc0 := fz hxe; have s0 := cz6 hxs; have fs0 := fz hxs; have t0 := cz6 hxt; have ft0 := fz hxt; obtain ⟨p0, p1, p2, p3, p4, p5⟩ := Zbl hxk HCD1.o; go_simp <;> with_reducible rfl) ?_;simp only [yN];refine Z5 9 (by kernel_rfl) rfl rfl ?_;go_wp2_with fail;obtain ⟨w17, B17, hl, hn, h1, h2⟩ := al W (.cells #[.int .i64 11, .int .i64 46, .int .i64 0, .int .i64 c.line, .string ⟨#[]⟩, .slice (some ⟨B9, 0, none⟩) 2 2, .int .i64 D1.kind, .int .i64 D1.op, .int .i64 D1.aB, .int .i64 D1.line, .string D1.text, .slice Au D1.kids.length qu, .int .i64 C.kind, .int .i64 C.op, .int .i64 C.aB, .int .i64 C.line, .string C.text, .slice AT C.kids.length qT] Z7);rw [h1, h2];have HN17 := zh hn;have HN17E := zh h2;have HL17 := zh hl;clear hl hn h1 h2;refine ⟨HL17.o, ?_⟩;refine uU 10 318 ?_;simp only [yN];refine Z6 [_] (by kernel_rfl) rfl rfl ?_;simp only [gA, gB, gC];have HLA := zh (show Zb y1 w17 from HLW.o.trans HL17.o);have HT18 := zB HLA HT1;have e1 := HT18.o;unfold Zf.cells at e1;have t0 := cz6 e1;have ft0 := fz e1;clear e1 hik1 ta;have tb := HTAB.o.2
  go_wp2_with fail;have ho := HB.o.or;have hg18 := HG18.o;have hg9 := HG9.o;have htl := HTLr.o;have hw17 := HLW.o.size;have hE17 := HN17E.o;have hys := HLA1.o.size;have r3 : Zz Zbe 6 Z7 (fun y => ((Iv a0 t y ∧ y ≠ kb) ∧ i ≤ tag y) ∨ TX < y) w17 [cO 46 c.line [(cM 5 m c.line), D0], D1, C] (.slice (some ⟨B17, 0, none⟩) 3 3) := by
   refine Zsf (v0 := .slice (some ⟨B9, 0, none⟩) 2 2) HN17.o (HCT1.o.later HLA.o) (HVD1y.o.later HLA.o) ((HTC.o.trim.later HLA1.o).later HLA.o) (.inr (by omega)) (fun y hy => ?_) (fun y hy => ⟨.inl ⟨hy.1, by omega⟩, fun e => by have := hy.1.1.2; omega⟩) (fun y hy => ?_) (fun y hy hz => ?_) (fun y hy hz => ?_) (fun y hy hz => ?_)
   ·rcases hy with h | h
    ·exact ⟨.inl ⟨h.1, by omega⟩, fun e => by have := h.1.1.2; omega⟩
    ·exact ⟨.inr (by omega), by omega⟩
   ·obtain ⟨hy, hlt⟩ := hy
    rcases hy with h | h
    ·exact ⟨.inl ⟨h.1, by have := HI.o; omega⟩, by omega⟩
    ·exact ⟨.inr h, by omega⟩
   ·rcases hy with h | h
    ·omega
    ·have := hz.1.1.2; omega
   ·have hz2 := hz.2
    rcases hy with h | h
    ·rcases hz.1 with h2 | h2
     ·have := HI.o; have := HPJ.o; omega
     ·have := h.1.1.2; omega
    ·have := hz.2; omega
   ·rcases hz.1 with h2 | h2
    ·have := HI.o; have := HPJ.o; omega
    ·have := hy.1.1.2; omega
  have c3 := CV.ck (k := 17) (line := c.line) r3 (by decide) (by decide) HM.o.2;have hR : chR (cM 5 m c.line) c.line K p rest (j + 1) = cK 17 c.line [cO 46 c.line [(cM 5 m c.line), D0], D1, C] := by
   have e1 : K.getD (2 * (p - j) - 1) zC = D0 := by rw [← HI.o, List.getD_eq_getElem?_getD, List.getElem?_eq_getElem (by omega), HD0.o]; rfl
   have e2 : K.getD (2 * (p - j)) zC = D1 := by rw [show 2 * (p - j) = i + 1 by have := HI.o; have := HPJ.o; omega, List.getD_eq_getElem?_getD, List.getElem?_eq_getElem (by omega), HD1.o]; rfl
   rw [HC.o];show cK 17 c.line [cO 46 c.line [_, K.getD (2 * (p - j) - 1) zC], K.getD (2 * (p - j)) zC, _] = _;rw [e1, e2]
  refine Handed.intro (gk - 1) (by omega) (hJ _ _ _ ⟨j + 1, (i : Int) - 2, .pointer (some ⟨B18, 0, none⟩), by omega, by have := HI.o; have := HPJ.o; omega, ?_, ⟨_, _, Zwe HT18.o rfl _ _ _ _ _ _, ?_⟩, ?_⟩)
  ·exact Zf1.mk' rfl rfl rfl rfl rfl rfl rfl rfl rfl rfl rfl rfl rfl (by show some _ = some _; exact congrArg some (congrArg (Value.int .i64) tb)) rfl rfl
  ·rw [hR];exact c3.keep (fun y hy => by
    rcases hy with h | h
    ·exact .inl ⟨h.1, by have := HI.o; have := HPJ.o; omega⟩
    ·exact .inr h) ((Tn.put6 (Tn.refl (fun b => b = TX) w17) rfl _ _ _ _ _ _).keeps fun b hb hp => by
    subst hp
    rcases hb with h | h
    ·have := h.1.1.2; omega
    ·omega)
  ·exact Tn.put6 ((HTN.o.tr (Tn.later HLA1.o)).tr (Tn.later HLA.o)) rfl _ _ _ _ _ _
 ·obtain rfl : j = p := by omega
  have hn : ¬ (1 : Int) ≤ X := by omega
  go_wp2_with fail;exact ⟨⟨_, _, Zf1.mk' rfl rfl rfl rfl rfl rfl rfl rfl rfl rfl rfl rfl rfl rfl rfl rfl⟩, by simpa using hct, HTN.o⟩
theorem Zvk {a : Act} (n : Nat) (E : Zaz) (G : Nat → Prop) (AL : Option Addr) (kl LB cs : Nat) (c : Ze) (A : Option Addr) (k : Nat) (EB RB UB NB SB : Nat) (m : Int) (K : List Zf) (Ak : Option Addr) (qk a0 t FB GB RO RT : Nat) (D0 D1 : Zf) (A0 A1 : Option Addr) (q0 q1 : Nat) (K0 K1 : Nat → Prop) (w x : World) (C : Zf) (v15 v17 v18 : Value) (HD : Hd (LsD E G AL kl LB cs c A k EB RB UB NB SB m K Ak qk a0 t FB GB RO RT D0 D1 A0 A1 q0 q1 K0 K1 w x)) (HLC : Hd (LoC E n c cs)) (HOK : Hd (okU (E.N + 1) E.u = true)) (HC64 : Hd (Zy c.line)) (HN64 : Hd (Zy c.aB)) (HTX : Hd (c.text.size ≤ maxLen)) (HM : Hd (m = ((E.L.length + cs : Nat) : Int))) (HKL : Hd (K.length = c.kids.length)) (HC : Hd (C = Zbd E.u E.L c m K)) (HF : Hd (Zf1 LB EB RB UB NB SB Ak K.length qk FB GB RO RT c.kind v15 v17 v18 a)) :
  shSw.wp Tryz.prog (Zkb (fun a' x' => (∃ v15 v17 v18, Zf1 LB EB RB UB NB SB Ak K.length qk FB GB RO RT c.kind v15 v17 v18 a') ∧ x' = x ∧ C = cO 73 c.line K) (fun a' y => Zcq RB a' ∧ LoR (LwS E G AL kl LB) LB RB w C (cs + csX c) y)) a x := by
 obtain ⟨fr, rfl⟩ := HF.o.opn;clear HF
 conv => arg 2; whnf
 by_cases h : c.kind = 1
 ·have tk : (c.kind == 1) = true := beq_iff_eq.2 h;have HH := zh h;clear h;have hcc := (Zu3 (u := E.u) (L := E.L) (m := m) (k := K) HH.o).symm;rw [← HC.o] at hcc;go_upto_region 21 with (fail);clear tk;have e1 := HD.o.hb.eb;obtain ⟨c0, c1, c2, c3, c4⟩ := Z1 e1;have fc0 := fz e1;clear e1;have e1 := HD.o.hb.rb;obtain ⟨r0, r1, r2, r3, r4, r5⟩ := cz6 e1;have fr0 := fz e1;clear e1;go_wp2_with fail;exact ⟨Zcq.mk' rfl rfl, hcc ▸ HD.o.hb.put HD.o.st (CV.cm (k := 1) (fun _ : Nat => False) x (by decide) (by decide) HN64.o HC64.o) (fun _ (h : False) => h.elim)⟩
 have tk : (c.kind == 1) = false := by simpa using h
 have HN1 := zh h;clear h;go_upto_region 22 with (fail);clear tk
 by_cases h : c.kind = 2
 ·have tk : (c.kind == 2) = true := beq_iff_eq.2 h;have HH := zh h;clear h;have hcc := (Zu4 (u := E.u) (L := E.L) (m := m) (k := K) HH.o).symm;rw [← HC.o] at hcc;go_upto_region 24 with (fail);have e1 := HD.o.hb.eb;obtain ⟨c0, c1, c2, c3, c4⟩ := Z1 e1;have fc0 := fz e1;clear e1;have e1 := HD.o.hb.rb;obtain ⟨r0, r1, r2, r3, r4, r5⟩ := cz6 e1;have fr0 := fz e1;clear e1;go_wp2_with fail;exact ⟨Zcq.mk' rfl rfl, (show tC c.kind c.line c.text = C by rw [HH.o]; exact hcc) ▸ HD.o.hb.put HD.o.st (CV.ct (k := c.kind) (fun _ : Nat => False) x (by rw [HH.o]; decide) (by rw [HH.o]; decide) HC64.o HTX.o) (fun _ (h : False) => h.elim)⟩
 have tk : (c.kind == 2) = false := by simpa using h
 have HN2 := zh h;clear h;go_upto_region 23 with (fail);clear tk
 by_cases h : c.kind = 3
 ·have tk : (c.kind == 3) = true := beq_iff_eq.2 h;have HH := zh h;clear h;have hcc := (Zu5 (u := E.u) (L := E.L) (m := m) (k := K) HH.o).symm;rw [← HC.o] at hcc;go_upto_region 24 with (fail);have e1 := HD.o.hb.eb;obtain ⟨c0, c1, c2, c3, c4⟩ := Z1 e1;have fc0 := fz e1;clear e1;have e1 := HD.o.hb.rb;obtain ⟨r0, r1, r2, r3, r4, r5⟩ := cz6 e1;have fr0 := fz e1;clear e1;go_wp2_with fail;exact ⟨Zcq.mk' rfl rfl, (show tC c.kind c.line c.text = C by rw [HH.o]; exact hcc) ▸ HD.o.hb.put HD.o.st (CV.ct (k := c.kind) (fun _ : Nat => False) x (by rw [HH.o]; decide) (by rw [HH.o]; decide) HC64.o HTX.o) (fun _ (h : False) => h.elim)⟩
 have tk : (c.kind == 3) = false := by simpa using h
 have HN3 := zh h;clear h;go_upto_region 25 with (fail);clear tk
 by_cases h : c.kind = 4
 ·have tk : (c.kind == 4) = true := beq_iff_eq.2 h;have HH := zh h;clear h;have hcc := (Zu6 (u := E.u) (L := E.L) (m := m) (k := K) HH.o).symm;rw [← HC.o] at hcc;have hlim := Zlf E.u E.L c.text (by have := Za9 HOK.o; omega) (by have := Za9 HOK.o; omega) (by have := Za9 HOK.o; omega) HLC.o.ln (HLC.o.nm.1 (.inl HH.o));obtain ⟨R, hR⟩ : ∃ z, z = (Zdb E.u E.L c.text).1 := ⟨_, rfl⟩;obtain ⟨Q, hQ⟩ : ∃ z, z = (Zdb E.u E.L c.text).2 := ⟨_, rfl⟩;replace hcc : cM (R + 4) Q c.line = C := by rw [hR, hQ]; exact hcc
  rw [← hR, ← hQ] at hlim;have HR := zh hR;have HQ := zh hQ;have HLIM := zh hlim;clear hR hQ hlim;go_upto_region 26 with (fail);clear tk;refine Zx [12, 13] [] (by kernel_rfl) (fun W hW => ?_);have hlW : Zb x W := by rw [hW]; exact (Zb.refl _).drew
  have HLW := zh hlW;have HEW := zh ((hlW.block _ (Za HD.o.hb.eb)).trans HD.o.hb.eb);have HBW := zh ((hlW.block _ (Za HD.o.st.blk)).trans HD.o.st.blk);clear hlW hW;refine uU 0 107 ?_;simp only [yN];refine uU 1 108 ?_;simp only [yN];refine uU 2 109 ?_;simp only [yN];refine uU 3 110 (hy := fun x hx => by have hxb := (hx.block _ (Za HBW.o)).trans HBW.o; obtain ⟨b0, b1, b2, b3, b4⟩ := Z1 hxb; have fb0 := fz hxb; have hxe := (hx.block _ (Za HEW.o)).trans HEW.o; obtain ⟨c0, c1, c2, c3, c4⟩ := Z1 hxe; have fc0 := fz hxe; go_simp <;> with_reducible rfl) ?_;simp only [yN];refine uU 4 111 ?_;simp only [yN];refine uU 5 112 ?_;simp only [yN];refine uU 6 113 ?_;simp only [yN];refine uU 7 114 (hy := fun x hx => by have hxb := (hx.block _ (Za HBW.o)).trans HBW.o; obtain ⟨b0, b1, b2, b3, b4⟩ := Z1 hxb; have fb0 := fz hxb; have hxe := (hx.block _ (Za HEW.o)).trans HEW.o; obtain ⟨c0, c1, c2, c3, c4⟩ := Z1 hxe; have fc0 := fz hxe; go_simp <;> with_reducible rfl) ?_;simp only [yN];refine uU 8 115 ?_;simp only [yN];refine uU 9 116 (hy := fun x hx => by have hxb := (hx.block _ (Za HBW.o)).trans HBW.o; obtain ⟨b0, b1, b2, b3, b4⟩ := Z1 hxb; have fb0 := fz hxb; have hxe := (hx.block _ (Za HEW.o)).trans HEW.o; obtain ⟨c0, c1, c2, c3, c4⟩ := Z1 hxe; have fc0 := fz hxe; go_simp <;> with_reducible rfl) ?_;simp only [yN];refine uU 10 117 ?_;simp only [yN];refine uU 11 118 (hy := fun x hx => by have hxb := (hx.block _ (Za HBW.o)).trans HBW.o; obtain ⟨b0, b1, b2, b3, b4⟩ := Z1 hxb; have fb0 := fz hxb; have hxe := (hx.block _ (Za HEW.o)).trans HEW.o; obtain ⟨c0, c1, c2, c3, c4⟩ := Z1 hxe; have fc0 := fz hxe; go_simp <;> with_reducible rfl) ?_
  simp only [yN];refine Z6 [_, _] (by kernel_rfl) rfl rfl ?_;simp only [gA, gB, gC];go_wp2_with fail;refine (Zrq E.N E.F W E.u E.A1 E.A2 E.A3 E.k1 E.k2 E.k3 (HD.o.st.un.later HLW.o) E.L _ G (HD.o.st.lo.later Zg HLW.o) HLC.o.ln (by have := Za9 HOK.o; omega) (by have := Za9 HOK.o; omega) (by have := Za9 HOK.o; omega) c.text c.line).mono ?_;rintro e y ⟨rfl, hb⟩;rw [← HR.o, ← HQ.o];have HLy := zh (show Zb x y from HLW.o.trans hb);clear hb;have e1 := (HD.o.hb.later HLy.o).rb;obtain ⟨r0, r1, r2, r3, r4, r5⟩ := cz6 e1;have fr0 := fz e1;clear e1;go_wp2_with fail;exact ⟨Zcq.mk' rfl rfl, hcc ▸ (HD.o.hb.later HLy.o).put (HD.o.st.later HLy.o) (CV.cm (k := R + 4) (fun _ : Nat => False) y (by have := HLIM.o; omega) (by have := HLIM.o; omega) (Zbr HLIM.o.1 (by have := HLIM.o; omega)) HC64.o) (fun _ (h : False) => h.elim)⟩
 have tk : (c.kind == 4) = false := by simpa using h
 have HN4 := zh h;clear h;go_upto_region 27 with (fail);clear tk
 by_cases h : c.kind = 5
 ·have tk : (c.kind == 5) = true := beq_iff_eq.2 h;have HH := zh h;clear h;have hcc := (Zu7 (u := E.u) (L := E.L) (m := m) (k := K) HH.o).symm;rw [← HC.o] at hcc;have HKW := zh (show Zrw c.text = true by have := (Zfp HLC.o.hd).2.2.2.2; rw [HH.o] at this; exact this);have HCC := zh hcc;clear hcc;go_upto_region 28 with (fail);clear tk;have e1 := HD.o.hb.eb;obtain ⟨c0, c1, c2, c3, c4⟩ := Z1 e1;have fc0 := fz e1;clear e1;go_wp2_with fail;refine (Zwu c.text c.line x HKW.o).mono ?_;rintro e y ⟨rfl, hb⟩;rw [HCC.o];have HLy := zh (show Zb x y from hb);clear hb c0 fc0 c1 c2 c3 c4;have e1 := (HD.o.hb.later HLy.o).rb;obtain ⟨r0, r1, r2, r3, r4, r5⟩ := cz6 e1;have fr0 := fz e1;clear e1;go_wp2_with fail;exact ⟨Zcq.mk' rfl rfl, (HD.o.hb.later HLy.o).put (HD.o.st.later HLy.o) (HCC.o ▸ Zx9 c.text HC64.o (fun _ : Nat => False) y) (fun _ (h : False) => h.elim)⟩
 have tk : (c.kind == 5) = false := by simpa using h
 have HN5 := zh h;clear h;go_upto_region 29 with (fail);clear tk
 by_cases h : c.kind = 6
 ·have tk : (c.kind == 6) = true := beq_iff_eq.2 h;have HH := zh h;clear h;have hcc := (Zu8 (u := E.u) (L := E.L) (m := m) (k := K) HH.o).symm;rw [← HC.o] at hcc;go_upto_region 30 with (fail);clear tk;have e1 := HD.o.hb.eb;obtain ⟨c0, c1, c2, c3, c4⟩ := Z1 e1;have fc0 := fz e1;clear e1;go_wp2_with fail;refine (Zc5 74 c.line Ak K.length qk x).mono ?_;rintro e y ⟨rfl, hb⟩;have HLy := zh (show Zb x y from hb);clear hb c0 fc0 c1 c2 c3 c4;have e1 := (HD.o.hb.later HLy.o).rb;obtain ⟨r0, r1, r2, r3, r4, r5⟩ := cz6 e1;have fr0 := fz e1;clear e1;go_wp2_with fail;exact ⟨Zcq.mk' rfl rfl, hcc ▸ (HD.o.hb.later HLy.o).put (HD.o.st.later HLy.o) (CV.co (op := 74) (HD.o.kr.later Zs.is HLy.o) (by decide) (by decide) HC64.o) (fun b hb => by have := hb.1; have := HD.o.lo; omega)⟩
 have tk : (c.kind == 6) = false := by simpa using h
 have HN6 := zh h;clear h;go_upto_region 31 with (fail);clear tk
 by_cases h : c.kind = 7
 ·have tk : (c.kind == 7) = true := beq_iff_eq.2 h;have HH := zh h;clear h;have hcc := (Zu9 (u := E.u) (L := E.L) (m := m) (k := K) HH.o).symm;rw [← HC.o] at hcc;have HKN := zh (show K.length = 1 by have h1 := HKL.o; have h2 := HLC.o.lo (i := 1) HH.o (by decide); have h3 := HLC.o.hi (i := 1) HH.o (by decide); omega);obtain ⟨b0, e0⟩ : ∃ t : Bool, (c.text.toList == [124]) = t := ⟨_, rfl⟩;have HB0 := zh (show (bl c.text = [124]) ↔ b0 = true by rw [← e0, beq_iff_eq, Zas]);obtain ⟨b1, e1⟩ : ∃ t : Bool, (c.text.toList == [64]) = t := ⟨_, rfl⟩;have HB1 := zh (show (bl c.text = [64]) ↔ b1 = true by rw [← e1, beq_iff_eq, Zas]);go_upto_region 32 with (fail);clear tk;have e1 := HD.o.hb.eb;obtain ⟨c0, c1, c2, c3, c4⟩ := Z1 e1;have fc0 := fz e1;clear e1
  cases b0 with
  | true =>
   rw [if_pos (HB0.o.2 rfl)] at hcc;rw [Zvi HKN.o HD.o.kd.e0] at hcc;have e1 := HD.o.ob;have o0 := cz6 e1;have fo0 := fz e1;clear e1;go_upto_region 34 with (fail);clear o0 fo0;obtain ⟨h2, h3, h4, h5⟩ := HD.o.setB (RO + 1) (.inl rfl) (.int .i64 14);have hob : (x.setCell ⟨RO + 1, 0, none⟩ (.int .i64 14)).heap[RO + 1]? = some (.cells #[.int .i64 14, .int .i64 0, .int .i64 0, .int .i64 c.line, .string ⟨#[]⟩, .slice (some ⟨RO, 0, none⟩) 1 1] Z7 (0, 0)) := Z0 (o := 0) HD.o.ob _;obtain ⟨y, h1⟩ : ∃ z, x.setCell ⟨RO + 1, 0, none⟩ (.int .i64 14) = z := ⟨_, rfl⟩;rw [h1] at h2 h3 h4 h5 hob ⊢;have HY2 := zh h2;have HY3 := zh h3;have HY4 := zh (h4 rfl);have e2 := HY2.o.rb;clear h1 h2 h3 h4 h5;have o0 := cz6 hob;have fo0 := fz hob;obtain ⟨r0, r1, r2, r3, r4, r5⟩ := cz6 e2;have fr0 := fz e2;clear hob e2;clear e0 e1;go_wp2_with fail;exact ⟨Zcq.mk' rfl rfl, hcc ▸ HY2.o.put HY3.o (CV.ck (k := 14) HY4.o (by decide) (by decide) HC64.o) (fun b hb => by have := HD.o.lo; omega)⟩
  | false =>
  cases b1 with
  | true =>
   rw [if_neg (fun h => by have := HB0.o.1 h; cases this), if_pos (HB1.o.2 rfl)] at hcc;rw [Zvi HKN.o HD.o.kd.e0] at hcc;have e1 := HD.o.ob;have o0 := cz6 e1;have fo0 := fz e1;clear e1;go_upto_region 37 with (fail);clear o0 fo0;obtain ⟨h2, h3, h4, h5⟩ := HD.o.setB (RO + 1) (.inl rfl) (.int .i64 27);have hob : (x.setCell ⟨RO + 1, 0, none⟩ (.int .i64 27)).heap[RO + 1]? = some (.cells #[.int .i64 27, .int .i64 0, .int .i64 0, .int .i64 c.line, .string ⟨#[]⟩, .slice (some ⟨RO, 0, none⟩) 1 1] Z7 (0, 0)) := Z0 (o := 0) HD.o.ob _;obtain ⟨y, h1⟩ : ∃ z, x.setCell ⟨RO + 1, 0, none⟩ (.int .i64 27) = z := ⟨_, rfl⟩;rw [h1] at h2 h3 h4 h5 hob ⊢;have HY2 := zh h2;have HY3 := zh h3;have HY4 := zh (h4 rfl);have e2 := HY2.o.rb;clear h1 h2 h3 h4 h5;have o0 := cz6 hob;have fo0 := fz hob;obtain ⟨r0, r1, r2, r3, r4, r5⟩ := cz6 e2;have fr0 := fz e2;clear hob e2;clear e0 e1;go_wp2_with fail;exact ⟨Zcq.mk' rfl rfl, hcc ▸ HY2.o.put HY3.o (CV.ck (k := 27) HY4.o (by decide) (by decide) HC64.o) (fun b hb => by have := HD.o.lo; omega)⟩
  | false =>
   rw [if_neg (fun h => by have := HB0.o.1 h; cases this), if_neg (fun h => by have := HB1.o.1 h; cases this)] at hcc;go_upto_region 38 with (fail);clear e0 e1 c0 fc0 c1 c2 c3 c4;obtain ⟨U, hU⟩ : ∃ z, z = unN c.text := ⟨_, rfl⟩;rw [← hU] at hcc;have HU := zh hU;have HUB := zh (show 0 ≤ U ∧ U ≤ 1000 by rw [hU]; have := Zdm (Zav Zen) c.text; rw [show (Zav Zen).length = 11 by simp [Zav]; rfl] at this; unfold unN; omega);clear hU;refine Zx [6, 7] [] (by kernel_rfl) (fun W hW => ?_);have hlW : Zb x W := by rw [hW]; exact (Zb.refl _).drew
   have HLW := zh hlW;have HEW := zh ((hlW.block _ (Za HD.o.hb.eb)).trans HD.o.hb.eb);clear hlW hW;refine uU 0 145 ?_;simp only [yN];refine uU 1 146 (hy := fun x hx => by have hxe := (hx.block _ (Za HEW.o)).trans HEW.o; obtain ⟨c0, c1, c2, c3, c4⟩ := Z1 hxe; have fc0 := fz hxe; go_simp <;> with_reducible rfl) ?_;simp only [yN];refine uU 3 148 ?_;simp only [yN];refine uU 4 149 (hy := fun x hx => by have hxe := (hx.block _ (Za HEW.o)).trans HEW.o; obtain ⟨c0, c1, c2, c3, c4⟩ := Z1 hxe; have fc0 := fz hxe; go_simp <;> with_reducible rfl) ?_;simp only [yN];refine uU 5 150 ?_;simp only [yN];refine Z5 2 (by kernel_rfl) rfl rfl ?_;go_wp2_with fail;refine (Zwv c.text W).mono ?_;rintro e y1 ⟨rfl, hb⟩;rw [← HU.o];have HWy := zh (show Zb W y1 from hb);clear hb;go_wp2_with fail;refine ⟨HWy.o, ?_⟩;refine Z6 [_, _] (by kernel_rfl) rfl rfl ?_;simp only [gA, gB, gC];go_wp2_with fail;refine (Zc5 U c.line Ak K.length qk y1).mono ?_;rintro e y ⟨rfl, hb⟩;have HLy := zh (show Zb x y from HLW.o.trans (HWy.o.trans hb));clear hb;have e1 := (HD.o.hb.later HLy.o).rb;obtain ⟨r0, r1, r2, r3, r4, r5⟩ := cz6 e1;have fr0 := fz e1;clear e1;go_wp2_with fail;exact ⟨Zcq.mk' rfl rfl, hcc ▸ (HD.o.hb.later HLy.o).put (HD.o.st.later HLy.o) (CV.co (op := U) (HD.o.kr.later Zs.is HLy.o) (by have := HUB.o; omega) (by have := HUB.o; omega) HC64.o) (fun b hb => by have := hb.1; have := HD.o.lo; omega)⟩
 have tk : (c.kind == 7) = false := by simpa using h
 have HN7 := zh h;clear h;go_upto_region 39 with (fail);clear tk
 by_cases h : c.kind = 8
 ·have tk : (c.kind == 8) = true := beq_iff_eq.2 h;have HH := zh h;clear h;have hcc := (Zva (u := E.u) (L := E.L) (m := m) (k := K) HH.o).symm;rw [← HC.o] at hcc;have HKN := zh (show K.length = 2 by have h1 := HKL.o; have h2 := HLC.o.lo (i := 2) HH.o (by decide); have h3 := HLC.o.hi (i := 2) HH.o (by decide); omega);have HISB := zh (show Zd7 c.text = true by have := (Zfp HLC.o.hd).2.2.2.2; rw [HH.o] at this; exact this);obtain ⟨b0, e0⟩ : ∃ t : Bool, (c.text.toList == [38]) = t := ⟨_, rfl⟩;have HB0 := zh (show (bl c.text = [38]) ↔ b0 = true by rw [← e0, beq_iff_eq, Zas]);obtain ⟨b1, e1⟩ : ∃ t : Bool, (c.text.toList == [63]) = t := ⟨_, rfl⟩;have HB1 := zh (show (bl c.text = [63]) ↔ b1 = true by rw [← e1, beq_iff_eq, Zas]);obtain ⟨b2, e2⟩ : ∃ t : Bool, (c.text.toList == [124]) = t := ⟨_, rfl⟩;have HB2 := zh (show (bl c.text = [124]) ↔ b2 = true by rw [← e2, beq_iff_eq, Zas]);obtain ⟨b3, e3⟩ : ∃ t : Bool, (c.text.toList == [92]) = t := ⟨_, rfl⟩;have HB3 := zh (show (bl c.text = [92]) ↔ b3 = true by rw [← e3, beq_iff_eq, Zas]);go_upto_region 40 with (fail);clear tk;have e1 := HD.o.hb.eb;obtain ⟨c0, c1, c2, c3, c4⟩ := Z1 e1;have fc0 := fz e1;clear e1
  cases b0 with
  | true =>
   have HA := zh (HB0.o.2 rfl);rw [if_neg (by rw [HA.o]; decide), if_neg (by rw [HA.o]; decide), if_neg (by rw [HA.o]; decide), Zww HA.o] at hcc;go_upto_region 42 with (fail);clear e0 e1 e2 e3 c0 fc0 c1 c2 c3 c4;have e1 := HD.o.hb.eb;obtain ⟨c0, c1, c2, c3, c4⟩ := Z1 e1;have fc0 := fz e1;clear e1;go_wp2_with fail;refine (Zc5 73 c.line Ak K.length qk x).mono ?_;rintro e y ⟨rfl, hb⟩;have HLy := zh (show Zb x y from hb);clear hb c0 fc0 c1 c2 c3 c4;have e1 := (HD.o.hb.later HLy.o).rb;obtain ⟨r0, r1, r2, r3, r4, r5⟩ := cz6 e1;have fr0 := fz e1;clear e1;go_wp2_with fail;exact ⟨Zcq.mk' rfl rfl, hcc ▸ (HD.o.hb.later HLy.o).put (HD.o.st.later HLy.o) (CV.co (op := 73) (HD.o.kr.later Zs.is HLy.o) (by decide) (by decide) HC64.o) (fun b hb => by have := hb.1; have := HD.o.lo; omega)⟩
  | false =>
  cases b1 with
  | true =>
   rw [if_pos (HB1.o.2 rfl)] at hcc;rw [Zqh HKN.o HD.o.kd.e0 HD.o.kd.e1] at hcc;have e1 := HD.o.tb;have o0 := cz6 e1;have fo0 := fz e1;clear e1;go_upto_region 45 with (fail);clear o0 fo0;obtain ⟨h2, h3, h4, h5⟩ := HD.o.setB (RT + 1) (.inr rfl) (.int .i64 22);have hob : (x.setCell ⟨RT + 1, 0, none⟩ (.int .i64 22)).heap[RT + 1]? = some (.cells #[.int .i64 22, .int .i64 0, .int .i64 0, .int .i64 c.line, .string ⟨#[]⟩, .slice (some ⟨RT, 0, none⟩) 2 2] Z7 (0, 0)) := Z0 (o := 0) HD.o.tb _;obtain ⟨y, h1⟩ : ∃ z, x.setCell ⟨RT + 1, 0, none⟩ (.int .i64 22) = z := ⟨_, rfl⟩;rw [h1] at h2 h3 h4 h5 hob ⊢;have HY2 := zh h2;have HY3 := zh h3;have HY4 := zh (h5 rfl);have e2 := HY2.o.rb;clear h1 h2 h3 h4 h5;have o0 := cz6 hob;have fo0 := fz hob;obtain ⟨r0, r1, r2, r3, r4, r5⟩ := cz6 e2;have fr0 := fz e2;clear hob e2;clear e0 e1 e2 e3;go_wp2_with fail;exact ⟨Zcq.mk' rfl rfl, hcc ▸ HY2.o.put HY3.o (CV.ck (k := 22) HY4.o (by decide) (by decide) HC64.o) (fun b hb => by have := HD.o.lo; omega)⟩
  | false =>
  cases b2 with
  | true =>
   rw [if_neg (fun h => by have := HB1.o.1 h; cases this), if_pos (HB2.o.2 rfl)] at hcc;rw [Zqh HKN.o HD.o.kd.e0 HD.o.kd.e1] at hcc;have e1 := HD.o.tb;have o0 := cz6 e1;have fo0 := fz e1;clear e1;go_upto_region 48 with (fail);clear o0 fo0;obtain ⟨h2, h3, h4, h5⟩ := HD.o.setB (RT + 1) (.inr rfl) (.int .i64 13);have hob : (x.setCell ⟨RT + 1, 0, none⟩ (.int .i64 13)).heap[RT + 1]? = some (.cells #[.int .i64 13, .int .i64 0, .int .i64 0, .int .i64 c.line, .string ⟨#[]⟩, .slice (some ⟨RT, 0, none⟩) 2 2] Z7 (0, 0)) := Z0 (o := 0) HD.o.tb _;obtain ⟨y, h1⟩ : ∃ z, x.setCell ⟨RT + 1, 0, none⟩ (.int .i64 13) = z := ⟨_, rfl⟩;rw [h1] at h2 h3 h4 h5 hob ⊢;have HY2 := zh h2;have HY3 := zh h3;have HY4 := zh (h5 rfl);have e2 := HY2.o.rb;clear h1 h2 h3 h4 h5;have o0 := cz6 hob;have fo0 := fz hob;obtain ⟨r0, r1, r2, r3, r4, r5⟩ := cz6 e2;have fr0 := fz e2;clear hob e2;clear e0 e1 e2 e3;go_wp2_with fail;exact ⟨Zcq.mk' rfl rfl, hcc ▸ HY2.o.put HY3.o (CV.ck (k := 13) HY4.o (by decide) (by decide) HC64.o) (fun b hb => by have := HD.o.lo; omega)⟩
  | false =>
  cases b3 with
  | true =>
   rw [if_neg (fun h => by have := HB1.o.1 h; cases this), if_neg (fun h => by have := HB2.o.1 h; cases this), if_pos (HB3.o.2 rfl)] at hcc;rw [Zqh HKN.o HD.o.kd.e0 HD.o.kd.e1] at hcc;have e1 := HD.o.tb;have o0 := cz6 e1;have fo0 := fz e1;clear e1;go_upto_region 51 with (fail);clear o0 fo0;obtain ⟨h2, h3, h4, h5⟩ := HD.o.setB (RT + 1) (.inr rfl) (.int .i64 15);have hob : (x.setCell ⟨RT + 1, 0, none⟩ (.int .i64 15)).heap[RT + 1]? = some (.cells #[.int .i64 15, .int .i64 0, .int .i64 0, .int .i64 c.line, .string ⟨#[]⟩, .slice (some ⟨RT, 0, none⟩) 2 2] Z7 (0, 0)) := Z0 (o := 0) HD.o.tb _;obtain ⟨y, h1⟩ : ∃ z, x.setCell ⟨RT + 1, 0, none⟩ (.int .i64 15) = z := ⟨_, rfl⟩;rw [h1] at h2 h3 h4 h5 hob ⊢;have HY2 := zh h2;have HY3 := zh h3;have HY4 := zh (h5 rfl);have e2 := HY2.o.rb;clear h1 h2 h3 h4 h5;have o0 := cz6 hob;have fo0 := fz hob;obtain ⟨r0, r1, r2, r3, r4, r5⟩ := cz6 e2;have fr0 := fz e2;clear hob e2;clear e0 e1 e2 e3;go_wp2_with fail;exact ⟨Zcq.mk' rfl rfl, hcc ▸ HY2.o.put HY3.o (CV.ck (k := 15) HY4.o (by decide) (by decide) HC64.o) (fun b hb => by have := HD.o.lo; omega)⟩
  | false =>
   rw [if_neg (fun h => by have := HB1.o.1 h; cases this), if_neg (fun h => by have := HB2.o.1 h; cases this), if_neg (fun h => by have := HB3.o.1 h; cases this)] at hcc;go_upto_region 52 with (fail);clear e0 e1 e2 e3 c0 fc0 c1 c2 c3 c4;have HBI := zh (⟨(fun h => by have := HB0.o.1 h; cases this), (fun h => by have := HB1.o.1 h; cases this), (fun h => by have := HB2.o.1 h; cases this), (fun h => by have := HB3.o.1 h; cases this)⟩ : bl c.text ≠ [38] ∧ bl c.text ≠ [63] ∧ bl c.text ≠ [124] ∧ bl c.text ≠ [92]);obtain ⟨U, hU⟩ : ∃ z, z = bnN c.text := ⟨_, rfl⟩;rw [← hU] at hcc;have HU := zh hU;have HUB := zh (show 0 ≤ U ∧ U ≤ 1000 by rw [hU]; obtain ⟨op, h1, h2, h3, -⟩ := Zne HISB.o HBI.o.2.2.1 HBI.o.2.2.2 HBI.o.2.1; omega);clear hU;refine Zx [6, 7] [] (by kernel_rfl) (fun W hW => ?_);have hlW : Zb x W := by rw [hW]; exact (Zb.refl _).drew
   have HLW := zh hlW;have HEW := zh ((hlW.block _ (Za HD.o.hb.eb)).trans HD.o.hb.eb);clear hlW hW;refine uU 0 174 ?_;simp only [yN];refine uU 1 175 (hy := fun x hx => by have hxe := (hx.block _ (Za HEW.o)).trans HEW.o; obtain ⟨c0, c1, c2, c3, c4⟩ := Z1 hxe; have fc0 := fz hxe; go_simp <;> with_reducible rfl) ?_;simp only [yN];refine uU 3 177 ?_;simp only [yN];refine uU 4 178 (hy := fun x hx => by have hxe := (hx.block _ (Za HEW.o)).trans HEW.o; obtain ⟨c0, c1, c2, c3, c4⟩ := Z1 hxe; have fc0 := fz hxe; go_simp <;> with_reducible rfl) ?_;simp only [yN];refine uU 5 179 ?_;simp only [yN];refine Z5 2 (by kernel_rfl) rfl rfl ?_;go_wp2_with fail;refine (Zwy c.text W HTX.o HISB.o HBI.o.1 HBI.o.2.1 HBI.o.2.2.1 HBI.o.2.2.2).mono ?_;rintro e y1 ⟨rfl, hb⟩;rw [← HU.o];have HWy := zh (show Zb W y1 from hb);clear hb;go_wp2_with fail;refine ⟨HWy.o, ?_⟩;refine Z6 [_, _] (by kernel_rfl) rfl rfl ?_;simp only [gA, gB, gC];go_wp2_with fail;refine (Zc5 U c.line Ak K.length qk y1).mono ?_;rintro e y ⟨rfl, hb⟩;have HLy := zh (show Zb x y from HLW.o.trans (HWy.o.trans hb));clear hb;have e1 := (HD.o.hb.later HLy.o).rb;obtain ⟨r0, r1, r2, r3, r4, r5⟩ := cz6 e1;have fr0 := fz e1;clear e1;go_wp2_with fail;exact ⟨Zcq.mk' rfl rfl, hcc ▸ (HD.o.hb.later HLy.o).put (HD.o.st.later HLy.o) (CV.co (op := U) (HD.o.kr.later Zs.is HLy.o) (by have := HUB.o; omega) (by have := HUB.o; omega) HC64.o) (fun b hb => by have := hb.1; have := HD.o.lo; omega)⟩
 have tk : (c.kind == 8) = false := by simpa using h
 have HN8 := zh h;clear h;go_upto_region 53 with (fail);clear tk
 by_cases h : c.kind = 9
 ·have tk : (c.kind == 9) = true := beq_iff_eq.2 h;have HH := zh h;clear h;have hcc := (Zvb (u := E.u) (L := E.L) (m := m) (k := K) HH.o).symm;rw [← HC.o] at hcc;obtain ⟨iS, hiS, hz0, hz1, hz2⟩ := info_parts Zjn
  by_cases h2 : K.length = 2
  ·have t1 : ((K.length : Int) == 2) = true := by rw [h2]; rfl
   rw [if_pos h2] at hcc;obtain ⟨K2, hK2⟩ : ∃ z, K ++ [cM 1 1 c.line] = z := ⟨_, rfl⟩;rw [hK2] at hcc;have HK2E := zh hK2;have hml : K.length ≤ 134217728 := by omega
   clear h2 hK2;go_upto_region 55 with (fail);clear tk t1;have e1 := HD.o.hb.eb;obtain ⟨c0, c1, c2, c3, c4⟩ := Z1 e1;have fc0 := fz e1;clear e1;have hX2 : Zb x (x.alloc (.cells #[.int .i64 1, .int .i64 0, .int .i64 1, .int .i64 c.line, .string ⟨#[]⟩, .slice none 0 0] Z7)) := (Zb.refl _).alloc _;have HX2 := zh hX2;have HROW2 := zh (HD.o.kr.later Zs.is hX2);have HEL := zh (show CV (fun _ => False) (x.alloc (.cells #[.int .i64 1, .int .i64 0, .int .i64 1, .int .i64 c.line, .string ⟨#[]⟩, .slice none 0 0] Z7)) (cM 1 1 c.line) (.slice none 0 0) from CV.cm (k := 1) (fun _ => False) _ (by decide) (by decide) (Zbr (by decide) (by decide)) HC64.o).cor;have HNO := zh (show ∀ y, (fun _ : Nat => False) y → ¬ Iv a0 t y from fun _ h => h.elim);clear hX2
   repeat (go_not_at_region 56; first | (go_says (at_builtin; refine Za4 Zs rfl _ _ 66 rfl Z7 iS (.agg #[.int .i64 0, .int .i64 0, .int .i64 0, .int .i64 0, .string ⟨#[]⟩, .slice none 0 0]) 72 Tryz.underlying66 hiS hz0 hz1 hz2 rfl rfl HROW2.o ⟨x.heap.size, 0, none⟩ 1 rfl (cM 1 1 c.line) [.int .i64 1, .int .i64 0, .int .i64 1, .int .i64 c.line, .string ⟨#[]⟩, .slice none 0 0] (Zg5 x _ Z7) ((cM 1 1 c.line).one none 0 0) HEL.o HNO.o hml (by decide) ?_; intro v2 Y hrow hkp hb0; rw [HK2E.o] at hrow; obtain ⟨A2, cq, rfl, -⟩ := id hrow; have HRW := zh hrow; have HKP := zh (Tn.mk (P := Iv a0 t) hkp hb0); clear hrow hkp hb0)) | go_values | go_skip | go_guarded | go_step | go_upon | go_back)
   clear c0 fc0 c1 c2 c3 c4;have hlo := HD.o.lo;have hor := HD.o.or;have hro := Za HD.o.ro;have HBY := zh ((HD.o.hb.later HX2.o).keep HKP.o fun b hb => .inr (by have := hb.1; omega));have HSY := zh ((HD.o.st.later HX2.o).keep HKP.o fun b hb => ⟨by have := hb.1; omega, fun hF => by have := HD.o.hb.bs.un.flt b hF; have := hb.1; omega, fun hG => by have := HD.o.hb.lg b hG; have := hb.1; omega⟩);have HRc := zh (show Zz Zbe 6 Z7 (fun b => a0 ≤ b) Y K2 (.slice A2 K2.length cq) from HRW.o.keep Zs.is (fun y hy => by
    rcases hy with h | h | h
    ·exact h.1
    ·exact h.elim
    ·have h3 := HX2.o.size;have : y = (x.alloc (.cells #[.int .i64 1, .int .i64 0, .int .i64 1, .int .i64 c.line, .string ⟨#[]⟩, .slice none 0 0] Z7)).heap.size := h
     omega) (Zc.refl _ _))
   clear hlo hor hro;have e1 := HBY.o.eb;obtain ⟨c0, c1, c2, c3, c4⟩ := Z1 e1;have fc0 := fz e1;clear e1;go_wp2_with fail;refine (Zc5 72 c.line A2 K2.length cq Y).mono ?_;rintro e z ⟨rfl, hb⟩;have HLy := zh (show Zb Y z from hb);clear hb c0 fc0 c1 c2 c3 c4;have e1 := (HBY.o.later HLy.o).rb;obtain ⟨r0, r1, r2, r3, r4, r5⟩ := cz6 e1;have fr0 := fz e1;clear e1;go_wp2_with fail;exact ⟨Zcq.mk' rfl rfl, hcc ▸ (HBY.o.later HLy.o).put (HSY.o.later HLy.o) (CV.co (op := 72) (HRc.o.later Zs.is HLy.o) (by decide) (by decide) HC64.o) (fun b hb => by have := HD.o.lo; omega)⟩
  ·have t1 : ((K.length : Int) == 2) = false := by simp; omega
   rw [if_neg h2] at hcc;clear h2;go_upto_region 56 with (fail);clear tk t1;have HRc := zh (show Zz Zbe 6 Z7 (fun b => a0 ≤ b) x K (.slice Ak K.length qk) from HD.o.kr.keep Zs.is (fun y hy => hy.1) (Zc.refl _ _));have e1 := HD.o.hb.eb;obtain ⟨c0, c1, c2, c3, c4⟩ := Z1 e1;have fc0 := fz e1;clear e1;go_wp2_with fail;refine (Zc5 72 c.line Ak K.length qk x).mono ?_;rintro e z ⟨rfl, hb⟩;have HLy := zh (show Zb x z from hb);clear hb c0 fc0 c1 c2 c3 c4;have e1 := (HD.o.hb.later HLy.o).rb;obtain ⟨r0, r1, r2, r3, r4, r5⟩ := cz6 e1;have fr0 := fz e1;clear e1;go_wp2_with fail;exact ⟨Zcq.mk' rfl rfl, hcc ▸ (HD.o.hb.later HLy.o).put (HD.o.st.later HLy.o) (CV.co (op := 72) (HRc.o.later Zs.is HLy.o) (by decide) (by decide) HC64.o) (fun b hb => by have := HD.o.lo; omega)⟩
 have tk : (c.kind == 9) = false := by simpa using h
 have HN9 := zh h;clear h;go_upto_region 57 with (fail);clear tk
 by_cases h : c.kind = 10
 ·have tk : (c.kind == 10) = true := beq_iff_eq.2 h;have HH := zh h;clear h;have hcc := (Zq3 (u := E.u) (L := E.L) (m := m) (k := K) HH.o).symm;rw [← HC.o] at hcc;go_upto_region 58 with (fail);clear tk;have e1 := HD.o.hb.eb;obtain ⟨c0, c1, c2, c3, c4⟩ := Z1 e1;have fc0 := fz e1;clear e1;have e1 := HD.o.hb.rb;obtain ⟨r0, r1, r2, r3, r4, r5⟩ := cz6 e1;have fr0 := fz e1;clear e1;go_wp2_with fail;exact ⟨Zcq.mk' rfl rfl, hcc ▸ HD.o.hb.put HD.o.st (CV.ck (k := 12) HD.o.kr (by decide) (by decide) HC64.o) (fun b hb => by have := hb.1; have := HD.o.lo; omega)⟩
 have tk : (c.kind == 10) = false := by simpa using h
 have HN10 := zh h;clear h;go_upto_region 59 with (fail);clear tk
 by_cases h : c.kind = 11
 ·have tk : (c.kind == 11) = true := beq_iff_eq.2 h;have HH := zh h;clear h;have hcc := (Zq4 (u := E.u) (L := E.L) (m := m) (k := K) HH.o).symm;rw [← HC.o] at hcc;have tw : wrap64 (59 + c.kind) = 70 := by rw [HH.o]; decide +kernel
  go_upto_region 61 with (fail);clear tk;have e1 := HD.o.hb.eb;obtain ⟨c0, c1, c2, c3, c4⟩ := Z1 e1;have fc0 := fz e1;clear e1;go_wp2_with fail;refine (Zc5 70 c.line Ak K.length qk x).mono ?_;rintro e y ⟨rfl, hb⟩;have HLy := zh (show Zb x y from hb);clear hb c0 fc0 c1 c2 c3 c4;clear tw;have e1 := (HD.o.hb.later HLy.o).rb;obtain ⟨r0, r1, r2, r3, r4, r5⟩ := cz6 e1;have fr0 := fz e1;clear e1;go_wp2_with fail;exact ⟨Zcq.mk' rfl rfl, hcc ▸ (HD.o.hb.later HLy.o).put (HD.o.st.later HLy.o) (CV.co (op := 70) (HD.o.kr.later Zs.is HLy.o) (by decide) (by decide) HC64.o) (fun b hb => by have := hb.1; have := HD.o.lo; omega)⟩
 have tk : (c.kind == 11) = false := by simpa using h
 have HN11 := zh h;clear h;go_upto_region 60 with (fail);clear tk
 by_cases h : c.kind = 12
 ·have tk : (c.kind == 12) = true := beq_iff_eq.2 h;have HH := zh h;clear h;have hcc := (Zq5 (u := E.u) (L := E.L) (m := m) (k := K) HH.o).symm;rw [← HC.o] at hcc;have tw : wrap64 (59 + c.kind) = 71 := by rw [HH.o]; decide +kernel
  go_upto_region 61 with (fail);clear tk;have e1 := HD.o.hb.eb;obtain ⟨c0, c1, c2, c3, c4⟩ := Z1 e1;have fc0 := fz e1;clear e1;go_wp2_with fail;refine (Zc5 71 c.line Ak K.length qk x).mono ?_;rintro e y ⟨rfl, hb⟩;have HLy := zh (show Zb x y from hb);clear hb c0 fc0 c1 c2 c3 c4;clear tw;have e1 := (HD.o.hb.later HLy.o).rb;obtain ⟨r0, r1, r2, r3, r4, r5⟩ := cz6 e1;have fr0 := fz e1;clear e1;go_wp2_with fail;exact ⟨Zcq.mk' rfl rfl, hcc ▸ (HD.o.hb.later HLy.o).put (HD.o.st.later HLy.o) (CV.co (op := 71) (HD.o.kr.later Zs.is HLy.o) (by decide) (by decide) HC64.o) (fun b hb => by have := hb.1; have := HD.o.lo; omega)⟩
 have tk : (c.kind == 12) = false := by simpa using h
 have HN12 := zh h;clear h;go_upto_region 62 with (fail);clear tk
 by_cases h : c.kind = 13
 ·have tk : (c.kind == 13) = true := beq_iff_eq.2 h;have HH := zh h;clear h;have hcc := (Zq6 (u := E.u) (L := E.L) (m := m) (k := K) HH.o).symm;rw [← HC.o] at hcc;rw [HD.o.kd.e0] at hcc;go_upto_region 63 with (fail);clear tk;have e1 := HD.o.hb.eb;obtain ⟨c0, c1, c2, c3, c4⟩ := Z1 e1;have fc0 := fz e1;clear e1;have e1 := HD.o.gb;have g0 := cz6 e1;have fg0 := fz e1;clear e1;go_wp2_with fail;obtain ⟨y1, B, hl, hn, h1, h2⟩ := al x (.cells #[.int .i64 D0.kind, .int .i64 D0.op, .int .i64 D0.aB, .int .i64 D0.line, .string D0.text, .slice A0 D0.kids.length q0, .int .i64 2, .int .i64 0, .int .i64 0, .int .i64 c.line, .string c.text, .slice none 0 0] Z7);rw [h1, h2];have HN := zh hn;have HNE := zh h2;have HLx := zh hl;clear hl hn h1 h2;refine (Zc5 79 c.line (some ⟨B, 0, none⟩) 2 2 y1).mono ?_;rintro e y ⟨rfl, hb⟩;have HLy := zh (show Zb x y from HLx.o.trans hb);have HN2 := zh ((Zb.block hb _ (Za HN.o)).trans HN.o);clear hb c0 fc0 c1 c2 c3 c4 g0 fg0;have e1 := (HD.o.hb.later HLy.o).rb;obtain ⟨r0, r1, r2, r3, r4, r5⟩ := cz6 e1;have fr0 := fz e1;clear e1;go_wp2_with fail;exact ⟨Zcq.mk' rfl rfl, hcc ▸ (HD.o.hb.later HLy.o).put (HD.o.st.later HLy.o) (CV.co (op := 79) (HD.o.rowA HLy.o (Nat.le_of_eq HNE.o) HN2.o (CV.ct (k := 2) (fun _ : Nat => False) _ (by decide) (by decide) HC64.o HTX.o)) (by decide) (by decide) HC64.o) (HD.o.fp (Nat.le_of_eq HNE.o))⟩
 have tk : (c.kind == 13) = false := by simpa using h
 have HN13 := zh h;clear h;go_upto_region 64 with (fail);clear tk
 by_cases h : c.kind = 14
 ·have tk : (c.kind == 14) = true := beq_iff_eq.2 h;have HH := zh h;clear h
  by_cases h2 : K.length = 0
  ·have t1 : ((K.length : Int) == 0) = true := by rw [h2]; rfl
   have hcc := (Znq (u := E.u) (L := E.L) (m := m) (k := K) HH.o).symm;rw [← HC.o] at hcc;rw [if_pos h2] at hcc;clear h2;go_upto_region 66 with (fail);clear tk t1;have e1 := HD.o.hb.ub;have u0 := cz6 e1;have fu0 := fz e1;clear e1;have e1 := HD.o.hb.rb;obtain ⟨r0, r1, r2, r3, r4, r5⟩ := cz6 e1;have fr0 := fz e1;clear e1;go_wp2_with fail;exact ⟨Zcq.mk' rfl rfl, hcc ▸ HD.o.hb.put HD.o.st (CV.cn (k := 4) (fun _ : Nat => False) x (by decide) (by decide) HC64.o) (fun _ (h : False) => h.elim)⟩
  ·have t1 : ((K.length : Int) == 0) = false := by simp; exact fun e => h2 (by rw [e]; rfl)
   have hcc := (Znq (u := E.u) (L := E.L) (m := m) (k := K) HH.o).symm;rw [← HC.o] at hcc;rw [if_neg h2] at hcc;clear h2;go_upto_region 67 with (fail);clear tk t1;have e1 := HD.o.hb.eb;obtain ⟨c0, c1, c2, c3, c4⟩ := Z1 e1;have fc0 := fz e1;clear e1;have e1 := HD.o.hb.rb;obtain ⟨r0, r1, r2, r3, r4, r5⟩ := cz6 e1;have fr0 := fz e1;clear e1;go_wp2_with fail;exact ⟨Zcq.mk' rfl rfl, hcc ▸ HD.o.hb.put HD.o.st (CV.ck (k := 16) HD.o.kr (by decide) (by decide) HC64.o) (fun b hb => by have := hb.1; have := HD.o.lo; omega)⟩
 have tk : (c.kind == 14) = false := by simpa using h
 have HN14 := zh h;clear h;go_upto_region 68 with (fail);clear tk
 by_cases h : c.kind = 15
 ·have tk : (c.kind == 15) = true := beq_iff_eq.2 h;have HH := zh h;clear h;have hcc := (Zq7 (u := E.u) (L := E.L) (m := m) (k := K) HH.o).symm;rw [← HC.o] at hcc;obtain ⟨iS, hiS, hz0, hz1, hz2⟩ := info_parts Zjn
  by_cases h2 : K.length = 2
  ·have t1 : ((K.length : Int) == 2) = true := by rw [h2]; rfl
   rw [if_pos h2] at hcc;obtain ⟨K2, hK2⟩ : ∃ z, K ++ [cN 28 c.line] = z := ⟨_, rfl⟩;rw [hK2] at hcc;have HK2E := zh hK2;have hml : K.length ≤ 134217728 := by omega
   clear h2 hK2;go_upto_region 70 with (fail);clear tk t1;have e1 := HD.o.hb.nb;have n0 := cz6 e1;have fn0 := fz e1;clear e1;have hX2 : Zb x (x.alloc (.cells #[.int .i64 28, .int .i64 0, .int .i64 0, .int .i64 c.line, .string ⟨#[]⟩, .slice none 0 0] Z7)) := (Zb.refl _).alloc _;have HX2 := zh hX2;have HROW2 := zh (HD.o.kr.later Zs.is hX2);have HEL := zh (show CV (fun _ => False) (x.alloc (.cells #[.int .i64 28, .int .i64 0, .int .i64 0, .int .i64 c.line, .string ⟨#[]⟩, .slice none 0 0] Z7)) (cN 28 c.line) (.slice none 0 0) from CV.cn (k := 28) (fun _ => False) _ (by decide) (by decide) HC64.o).cor;have HNO := zh (show ∀ y, (fun _ : Nat => False) y → ¬ Iv a0 t y from fun _ h => h.elim);clear hX2
   repeat (go_not_at_region 71; first | (go_says (at_builtin; refine Za4 Zs rfl _ _ 66 rfl Z7 iS (.agg #[.int .i64 0, .int .i64 0, .int .i64 0, .int .i64 0, .string ⟨#[]⟩, .slice none 0 0]) 72 Tryz.underlying66 hiS hz0 hz1 hz2 rfl rfl HROW2.o ⟨x.heap.size, 0, none⟩ 1 rfl (cN 28 c.line) [.int .i64 28, .int .i64 0, .int .i64 0, .int .i64 c.line, .string ⟨#[]⟩, .slice none 0 0] (Zg5 x _ Z7) ((cN 28 c.line).one none 0 0) HEL.o HNO.o hml (by decide) ?_; intro v2 Y hrow hkp hb0; rw [HK2E.o] at hrow; obtain ⟨A2, cq, rfl, -⟩ := id hrow; have HRW := zh hrow; have HKP := zh (Tn.mk (P := Iv a0 t) hkp hb0); clear hrow hkp hb0)) | go_values | go_skip | go_guarded | go_step | go_upon | go_back)
   clear n0 fn0;have hlo := HD.o.lo;have hor := HD.o.or;have hro := Za HD.o.ro;have HBY := zh ((HD.o.hb.later HX2.o).keep HKP.o fun b hb => .inr (by have := hb.1; omega));have HSY := zh ((HD.o.st.later HX2.o).keep HKP.o fun b hb => ⟨by have := hb.1; omega, fun hF => by have := HD.o.hb.bs.un.flt b hF; have := hb.1; omega, fun hG => by have := HD.o.hb.lg b hG; have := hb.1; omega⟩);have HRc := zh (show Zz Zbe 6 Z7 (fun b => a0 ≤ b) Y K2 (.slice A2 K2.length cq) from HRW.o.keep Zs.is (fun y hy => by
    rcases hy with h | h | h
    ·exact h.1
    ·exact h.elim
    ·have h3 := HX2.o.size;have : y = (x.alloc (.cells #[.int .i64 28, .int .i64 0, .int .i64 0, .int .i64 c.line, .string ⟨#[]⟩, .slice none 0 0] Z7)).heap.size := h
     omega) (Zc.refl _ _))
   clear hlo hor hro;have e1 := HBY.o.eb;obtain ⟨c0, c1, c2, c3, c4⟩ := Z1 e1;have fc0 := fz e1;clear e1;have e1 := HBY.o.rb;obtain ⟨r0, r1, r2, r3, r4, r5⟩ := cz6 e1;have fr0 := fz e1;clear e1;go_wp2_with fail;exact ⟨Zcq.mk' rfl rfl, hcc ▸ HBY.o.put HSY.o (CV.ck (k := 17) HRc.o (by decide) (by decide) HC64.o) (fun b hb => by have := HD.o.lo; omega)⟩
  ·have t1 : ((K.length : Int) == 2) = false := by simp; omega
   rw [if_neg h2] at hcc;clear h2;go_upto_region 71 with (fail);clear tk t1;have HRc := zh (show Zz Zbe 6 Z7 (fun b => a0 ≤ b) x K (.slice Ak K.length qk) from HD.o.kr.keep Zs.is (fun y hy => hy.1) (Zc.refl _ _));have e1 := HD.o.hb.eb;obtain ⟨c0, c1, c2, c3, c4⟩ := Z1 e1;have fc0 := fz e1;clear e1;have e1 := HD.o.hb.rb;obtain ⟨r0, r1, r2, r3, r4, r5⟩ := cz6 e1;have fr0 := fz e1;clear e1;go_wp2_with fail;exact ⟨Zcq.mk' rfl rfl, hcc ▸ HD.o.hb.put HD.o.st (CV.ck (k := 17) HRc.o (by decide) (by decide) HC64.o) (fun b hb => by have := HD.o.lo; omega)⟩
 have tk : (c.kind == 15) = false := by simpa using h
 have HN15 := zh h;clear h;go_upto_region 72 with (fail);clear tk
 by_cases h : c.kind = 16
 ·have tk : (c.kind == 16) = true := beq_iff_eq.2 h;have HH := zh h;clear h;have hcc := (Zq8 (u := E.u) (L := E.L) (m := m) (k := K) HH.o).symm;rw [← HC.o] at hcc;rw [HD.o.kd.e0, HD.o.kd.e1] at hcc;go_upto_region 73 with (fail);clear tk;have e1 := HD.o.tb;have o0 := cz6 e1;have fo0 := fz e1;clear e1;go_upto_region 74 with (fail);clear o0 fo0;obtain ⟨h2, h3, h4, h5⟩ := HD.o.setB (RT + 1) (.inr rfl) (.int .i64 18);have hob : (x.setCell ⟨RT + 1, 0, none⟩ (.int .i64 18)).heap[RT + 1]? = some (.cells #[.int .i64 18, .int .i64 0, .int .i64 0, .int .i64 c.line, .string ⟨#[]⟩, .slice (some ⟨RT, 0, none⟩) 2 2] Z7 (0, 0)) := Z0 (o := 0) HD.o.tb _;obtain ⟨y, h1⟩ : ∃ z, x.setCell ⟨RT + 1, 0, none⟩ (.int .i64 18) = z := ⟨_, rfl⟩;rw [h1] at h2 h3 h4 h5 hob ⊢;have HY2 := zh h2;have HY3 := zh h3;have HY4 := zh (h5 rfl);have e2 := HY2.o.rb;clear h1 h2 h3 h4 h5;have o0 := cz6 hob;have fo0 := fz hob;obtain ⟨r0, r1, r2, r3, r4, r5⟩ := cz6 e2;have fr0 := fz e2;clear hob e2;go_wp2_with fail;exact ⟨Zcq.mk' rfl rfl, hcc ▸ HY2.o.put HY3.o (CV.ck (k := 18) HY4.o (by decide) (by decide) HC64.o) (fun b hb => by have := HD.o.lo; omega)⟩
 have tk : (c.kind == 16) = false := by simpa using h
 have HN16 := zh h;clear h;go_upto_region 75 with (fail);clear tk
 by_cases h : c.kind = 17
 ·have tk : (c.kind == 17) = true := beq_iff_eq.2 h;have HH := zh h;clear h;have hcc := (Zq9 (u := E.u) (L := E.L) (m := m) (k := K) HH.o).symm;rw [← HC.o] at hcc;rw [HD.o.kd.e0, HD.o.kd.e1] at hcc;go_upto_region 76 with (fail);clear tk;have e1 := HD.o.hb.eb;obtain ⟨c0, c1, c2, c3, c4⟩ := Z1 e1;have fc0 := fz e1;clear e1;have e1 := HD.o.hb.ub;have u0 := cz6 e1;have fu0 := fz e1;clear e1;have e1 := HD.o.hb.nb;have n0 := cz6 e1;have fn0 := fz e1;clear e1;have e1 := HD.o.gb;have g0 := cz6 e1;have fg0 := fz e1;clear e1;go_upto_region 77 with (fail);have hn1 := heap_alloc_new x (.cells #[.int .i64 D0.kind, .int .i64 D0.op, .int .i64 D0.aB, .int .i64 D0.line, .string D0.text, .slice A0 D0.kids.length q0, .int .i64 28, .int .i64 0, .int .i64 0, .int .i64 c.line, .string ⟨#[]⟩, .slice none 0 0, .int .i64 4, .int .i64 0, .int .i64 0, .int .i64 c.line, .string ⟨#[]⟩, .slice none 0 0] Z7);obtain ⟨B, h2⟩ : ∃ z, x.heap.size = z := ⟨_, rfl⟩;rw [h2] at hn1 ⊢;have hl : Zb x ((x.alloc (.cells #[.int .i64 D0.kind, .int .i64 D0.op, .int .i64 D0.aB, .int .i64 D0.line, .string D0.text, .slice A0 D0.kids.length q0, .int .i64 28, .int .i64 0, .int .i64 0, .int .i64 c.line, .string ⟨#[]⟩, .slice none 0 0, .int .i64 4, .int .i64 0, .int .i64 0, .int .i64 c.line, .string ⟨#[]⟩, .slice none 0 0] Z7)).alloc (.cells #[.int .i64 17, .int .i64 0, .int .i64 0, .int .i64 c.line, .string ⟨#[]⟩, .slice (some ⟨B, 0, none⟩) 3 3] Z7)) := ((Zb.refl _).alloc _).alloc _
  obtain ⟨y1, h1⟩ : ∃ z, x.alloc (.cells #[.int .i64 D0.kind, .int .i64 D0.op, .int .i64 D0.aB, .int .i64 D0.line, .string D0.text, .slice A0 D0.kids.length q0, .int .i64 28, .int .i64 0, .int .i64 0, .int .i64 c.line, .string ⟨#[]⟩, .slice none 0 0, .int .i64 4, .int .i64 0, .int .i64 0, .int .i64 c.line, .string ⟨#[]⟩, .slice none 0 0] Z7) = z := ⟨_, rfl⟩;have hs : y1.heap.size = B + 1 := by rw [← h1, ← h2]; simp
  rw [h1] at hn1 hl ⊢;have hn3 := (((Zb.refl y1).alloc (.cells #[.int .i64 17, .int .i64 0, .int .i64 0, .int .i64 c.line, .string ⟨#[]⟩, .slice (some ⟨B, 0, none⟩) 3 3] Z7)).block _ (Za hn1)).trans hn1;have hn2 := heap_alloc_new y1 (.cells #[.int .i64 17, .int .i64 0, .int .i64 0, .int .i64 c.line, .string ⟨#[]⟩, .slice (some ⟨B, 0, none⟩) 3 3] Z7);rw [hs] at hn2;obtain ⟨y, h3⟩ : ∃ z, y1.alloc (.cells #[.int .i64 17, .int .i64 0, .int .i64 0, .int .i64 c.line, .string ⟨#[]⟩, .slice (some ⟨B, 0, none⟩) 3 3] Z7) = z := ⟨_, rfl⟩;rw [h3] at hn2 hn3 hl ⊢;have HN := zh hn3;have HNT := zh hn2;have HNE := zh h2;have HLy := zh hl;clear hn1 hn2 hn3 hl h1 h2 h3 hs;clear c0 fc0 c1 c2 c3 c4 u0 fu0 n0 fn0 g0 fg0;have HBy := zh (HD.o.hb.later HLy.o);have HFy := zh ((HLy.o.block _ (Za HD.o.fb)).trans HD.o.fb);have e1 := HBy.o.eb;obtain ⟨c0, c1, c2, c3, c4⟩ := Z1 e1;have fc0 := fz e1;clear e1;have e1 := (HBy.o.later ((Zb.refl y).alloc (.cells #[.int .i64 17, .int .i64 0, .int .i64 0, .int .i64 c.line, .string ⟨#[]⟩, .slice (some ⟨B, 0, none⟩) 3 3, .int .i64 D1.kind, .int .i64 D1.op, .int .i64 D1.aB, .int .i64 D1.line, .string D1.text, .slice A1 D1.kids.length q1] Z7))).rb;obtain ⟨r0, r1, r2, r3, r4, r5⟩ := cz6 e1;have fr0 := fz e1;clear e1;have o0 := cz6 HNT.o;have fo0 := fz HNT.o;obtain ⟨f0, f1, f2, f3, f4, f5⟩ := cz6 HFy.o;have ff0 := fz HFy.o;go_wp2_with fail;have hl : Zb y (y.alloc (.cells #[.int .i64 17, .int .i64 0, .int .i64 0, .int .i64 c.line, .string ⟨#[]⟩, .slice (some ⟨B, 0, none⟩) 3 3, .int .i64 D1.kind, .int .i64 D1.op, .int .i64 D1.aB, .int .i64 D1.line, .string D1.text, .slice A1 D1.kids.length q1] Z7)) := (Zb.refl _).alloc _
  have hn := heap_alloc_new y (.cells #[.int .i64 17, .int .i64 0, .int .i64 0, .int .i64 c.line, .string ⟨#[]⟩, .slice (some ⟨B, 0, none⟩) 3 3, .int .i64 D1.kind, .int .i64 D1.op, .int .i64 D1.aB, .int .i64 D1.line, .string D1.text, .slice A1 D1.kids.length q1] Z7);have hBs := Za HNT.o;have hro := Za HD.o.ro;have hor := HD.o.or;have hlo := HD.o.lo;have hBE := HNE.o;have hct : CV (fun b => K0 b ∨ b = B) y (cK 17 c.line [D0, cN 28 c.line, cN 4 c.line]) (.slice (some ⟨B, 0, none⟩) 3 3) := CV.ck (k := 17) (HD.o.rowC HLy.o (Nat.le_of_eq HNE.o) HN.o (CV.cn (k := 28) (fun _ : Nat => False) _ (by decide) (by decide) HC64.o) (CV.cn (k := 4) (fun _ : Nat => False) _ (by decide) (by decide) HC64.o)) (by decide) (by decide) HC64.o;have hrw : Zz Zbe 6 Z7 (fun b => a0 ≤ b) (y.alloc (.cells #[.int .i64 17, .int .i64 0, .int .i64 0, .int .i64 c.line, .string ⟨#[]⟩, .slice (some ⟨B, 0, none⟩) 3 3, .int .i64 D1.kind, .int .i64 D1.op, .int .i64 D1.aB, .int .i64 D1.line, .string D1.text, .slice A1 D1.kids.length q1] Z7)) [cK 17 c.line [D0, cN 28 c.line, cN 4 c.line], D1] (.slice (some ⟨y.heap.size, 0, none⟩) 2 2) := Znf hn (hct.later hl) ((HD.o.kd.c1.later HLy.o).later hl) (by omega) (fun b hb => by
   rcases hb with hb | hb
   ·have := HD.o.kd.f0 b hb; have h1 := this.1; have h2 := this.2; exact ⟨h1, by omega⟩
   ·exact ⟨by omega, by omega⟩) (fun b hb => by have := HD.o.kd.f1 b hb; have h1 := this.1; have h2 := this.2; exact ⟨h1, by omega⟩) (fun b hb h1 => by
   rcases hb with hb | hb
   ·exact HD.o.kd.dj b hb h1
   ·have := (HD.o.kd.f1 b h1).2; omega)
  exact ⟨Zcq.mk' rfl rfl, hcc ▸ (HBy.o.later hl).put ((HD.o.st.later HLy.o).later hl) (CV.ck (k := 18) hrw (by decide) (by decide) HC64.o) (fun b hb => by have := HD.o.lo; omega)⟩
 have tk : (c.kind == 17) = false := by simpa using h
 have HN17 := zh h;clear h;go_upto_region 78 with (fail);clear tk
 by_cases h : c.kind = 18
 ·have tk : (c.kind == 18) = true := beq_iff_eq.2 h;have HH := zh h;clear h;have hcc := (Zra (u := E.u) (L := E.L) (m := m) (k := K) HH.o).symm;rw [← HC.o] at hcc;rw [HD.o.kd.e0, HD.o.kd.e1] at hcc;go_upto_region 79 with (fail);clear tk;have e1 := HD.o.tb;have o0 := cz6 e1;have fo0 := fz e1;clear e1;go_upto_region 80 with (fail);clear o0 fo0;obtain ⟨h2, h3, h4, h5⟩ := HD.o.setB (RT + 1) (.inr rfl) (.int .i64 19);have hob : (x.setCell ⟨RT + 1, 0, none⟩ (.int .i64 19)).heap[RT + 1]? = some (.cells #[.int .i64 19, .int .i64 0, .int .i64 0, .int .i64 c.line, .string ⟨#[]⟩, .slice (some ⟨RT, 0, none⟩) 2 2] Z7 (0, 0)) := Z0 (o := 0) HD.o.tb _;obtain ⟨y, h1⟩ : ∃ z, x.setCell ⟨RT + 1, 0, none⟩ (.int .i64 19) = z := ⟨_, rfl⟩;rw [h1] at h2 h3 h4 h5 hob ⊢;have HY2 := zh h2;have HY3 := zh h3;have HY4 := zh (h5 rfl);have e2 := HY2.o.rb;clear h1 h2 h3 h4 h5;have o0 := cz6 hob;have fo0 := fz hob;obtain ⟨r0, r1, r2, r3, r4, r5⟩ := cz6 e2;have fr0 := fz e2;clear hob e2;go_wp2_with fail;exact ⟨Zcq.mk' rfl rfl, hcc ▸ HY2.o.put HY3.o (CV.ck (k := 19) HY4.o (by decide) (by decide) HC64.o) (fun b hb => by have := HD.o.lo; omega)⟩
 have tk : (c.kind == 18) = false := by simpa using h
 have HN18 := zh h;clear h;go_upto_region 81 with (fail);clear tk
 by_cases h : c.kind = 19
 ·have tk : (c.kind == 19) = true := beq_iff_eq.2 h;have HH := zh h;clear h;have hcc := (Zrb (u := E.u) (L := E.L) (m := m) (k := K) HH.o).symm;rw [← HC.o] at hcc;rw [HD.o.kd.e0] at hcc;go_upto_region 82 with (fail);clear tk;have e1 := HD.o.hb.eb;obtain ⟨c0, c1, c2, c3, c4⟩ := Z1 e1;have fc0 := fz e1;clear e1;have e1 := HD.o.hb.ub;have u0 := cz6 e1;have fu0 := fz e1;clear e1;have e1 := HD.o.gb;have g0 := cz6 e1;have fg0 := fz e1;clear e1;have e1 := (HD.o.hb.later ((Zb.refl x).alloc (.cells #[.int .i64 4, .int .i64 0, .int .i64 0, .int .i64 c.line, .string ⟨#[]⟩, .slice none 0 0, .int .i64 D0.kind, .int .i64 D0.op, .int .i64 D0.aB, .int .i64 D0.line, .string D0.text, .slice A0 D0.kids.length q0] Z7))).rb;obtain ⟨r0, r1, r2, r3, r4, r5⟩ := cz6 e1;have fr0 := fz e1;clear e1;go_wp2_with fail;have hl : Zb x (x.alloc (.cells #[.int .i64 4, .int .i64 0, .int .i64 0, .int .i64 c.line, .string ⟨#[]⟩, .slice none 0 0, .int .i64 D0.kind, .int .i64 D0.op, .int .i64 D0.aB, .int .i64 D0.line, .string D0.text, .slice A0 D0.kids.length q0] Z7)) := (Zb.refl _).alloc _;have hn := heap_alloc_new x (.cells #[.int .i64 4, .int .i64 0, .int .i64 0, .int .i64 c.line, .string ⟨#[]⟩, .slice none 0 0, .int .i64 D0.kind, .int .i64 D0.op, .int .i64 D0.aB, .int .i64 D0.line, .string D0.text, .slice A0 D0.kids.length q0] Z7);exact ⟨Zcq.mk' rfl rfl, hcc ▸ (HD.o.hb.later hl).put (HD.o.st.later hl) (CV.ck (k := 18) (HD.o.rowB hl (Nat.le_refl _) hn (CV.cn (k := 4) (fun _ : Nat => False) _ (by decide) (by decide) HC64.o)) (by decide) (by decide) HC64.o) (HD.o.fp (Nat.le_refl _))⟩
 have tk : (c.kind == 19) = false := by simpa using h
 have HN19 := zh h;clear h;go_upto_region 83 with (fail);clear tk
 by_cases h : c.kind = 20
 ·have tk : (c.kind == 20) = true := beq_iff_eq.2 h;have HH := zh h;clear h;have hcc := (Zrc (u := E.u) (L := E.L) (m := m) (k := K) HH.o).symm;rw [← HC.o] at hcc;have hcase := HLC.o.case HH.o;have hp0 : 0 < K.length := by rw [HKL.o]; rcases hcase with ⟨_, p, h⟩ | ⟨_, p, h⟩ <;> omega
  have HM64 := zh (show Zy m ∧ Zy c.line from ⟨by rw [HM.o]; have h1 := HLC.o.le; have h2 := HLC.o.ln; exact Zbr (by omega) (by omega), HC64.o⟩);obtain ⟨kb, cur, tag, rfl, hkb, hkr, hkd⟩ := HD.o.kr.kid hp0;obtain ⟨b', cur', eb', hb', hc'⟩ := HD.o.kd.p0 hp0
  cases eb'
  obtain rfl : cur = cur' := by have h1 := hkr.symm.trans hb'; injection h1 with h1; injection h1
  obtain ⟨v0, hv0, hc0⟩ := hkd 0 hp0;have e0 : K[0] = D0 := by rw [← HD.o.kd.e0, Zgi hp0]
  have ev : v0 = .slice A0 D0.kids.length q0 := by have h1 := hc0 5 _ rfl; have h2 := hc' 5 _ rfl; exact Option.some.inj (h1.symm.trans h2)
  rw [e0, ev] at hv0;have HCV0 := zh hv0;have HE0 := zh (show K.getD 0 zC = D0 by rw [List.getD_eq_getElem?_getD, List.getElem?_eq_getElem hp0]; exact e0);have HKB := zh hkb;have HKR := zh hkr;have HKD := zh hkd;have HP0 := zh hp0;have HCASE := zh hcase;have HKL2 := zh (show K.length ≤ 24 ∧ ((c.aB = 0 ∧ ∃ p, K.length = 2 * p + 1) ∨ (c.aB = 1 ∧ ∃ p, K.length = 2 * p + 2)) from ⟨by rw [HKL.o]; exact HLC.o.len, by rw [HKL.o]; exact hcase⟩);have HCC := zh (show C = chC c m K from hcc.symm);clear hcc hp0 hkb hkr hkd hb' hc' hv0 hc0 e0 ev hcase;go_upto_region 84 with (fail);clear tk;have e1 := HD.o.hb.nb;have n0 := cz6 e1;have fn0 := fz e1;clear e1;go_upto_region 85 with (fail);obtain ⟨y1, TX, hl, hn, h1, h2⟩ := al x (.cells #[.int .i64 28, .int .i64 0, .int .i64 0, .int .i64 c.line, .string ⟨#[]⟩, .slice none 0 0] Z7);rw [h1, h2];have HTX := zh hn;have HTXE := zh h2;have HLx := zh hl;clear hl hn h1 h2;clear n0 fn0;have HCH := zh (show ChS E G AL kl LB cs c A k EB RB UB NB SB m K kb cur tag a0 t TX w y1 from ⟨HD.o.hb.later HLx.o, HD.o.st.later HLx.o, (HLx.o.block _ (Za HKR.o)).trans HKR.o, fun i hi => by
   obtain ⟨v, hv, hc⟩ := HKD.o i hi;exact ⟨v, hv.later HLx.o, hc⟩, HD.o.lo, ⟨HKB.o.1, HKB.o.2, by have := HTXE.o; have := HD.o.or; have := Za HD.o.ro; omega⟩⟩)
  have e1 := HCH.o.hb.eb;obtain ⟨c0, c1, c2, c3, c4⟩ := Z1 e1;have fc0 := fz e1;clear e1
  rcases HKL2.o.2 with ⟨hnum, p, hlen⟩ | ⟨hnum, p, hlen⟩
  case' inl => (
   have nn : (c.aB == 1) = false := by rw [hnum]; rfl
   have hK1 : (K.length : Int) = 2 * (p : Int) + 1 := by omega
   go_upto_block 4 with (fail)
   clear hK1 nn c0 fc0 c1 c2 c3 c4;have HFIN := zh (show C = cK 17 c.line [cO 60 c.line [(cM 5 m c.line), K.getD 0 zC], chR (cM 5 m c.line) c.line K p (cN 28 c.line) p, cN 28 c.line] by
    rw [HCC.o];unfold chC;rw [show (K.length - 1 - c.aB.toNat) / 2 = p by rw [hnum, hlen]; simp, if_neg (by rw [hnum]; decide)])
   refine @Z8 _ shLp ?R10 _ _ _ _ ?h10 ?k10
   case h10 =>
    refine Zpg E G AL kl LB cs c A k EB RB UB NB SB m K kb cur tag a0 t TX qk FB GB RO RT p (cN 28 c.line) v18 w y1 HCH (zh (Za HTX.o)) (zh ⟨by have := HKL2.o; omega, by have := HKL2.o; omega, by have := HKL2.o; omega⟩) HM64 (zh ⟨none, 0, HTX.o, CV.cn _ _ (by decide) (by decide) HC64.o⟩) (zh ?hf10)
    case hf10 => exact Zf1.mk' rfl rfl rfl rfl rfl rfl rfl rfl rfl rfl rfl rfl rfl (by show some _ = some _; exact congrArg some (congrArg (Value.int .i64) (by have := HKL2.o.1; rw [IntWalk.wrap64_in _ (by omega)]; omega))) rfl rfl
   rintro a' y7 ⟨⟨X, v18', hf⟩, hct, ht⟩;obtain ⟨fr1, rfl⟩ := hf.opn;obtain ⟨C0, hC0⟩ : ∃ z, z = chR (cM 5 m c.line) c.line K p (cN 28 c.line) p := ⟨_, rfl⟩;rw [← hC0] at HFIN hct;clear hC0;have HCT := zh hct;have HT17 := zh ht;have HCHy := zh (HCH.o.keep ht fun b hb => by rw [hb]; exact Nat.le_refl _);clear hf hct ht hnum hlen
  )
  case' inr => (
   have nn : (c.aB == 1) = true := by rw [hnum]; rfl
   obtain ⟨il, hil⟩ : ∃ il, il = 2 * p + 1 := ⟨_, rfl⟩;have hilk : il < K.length := by omega
   obtain ⟨v, hv, hcv⟩ := HCH.o.kd il hilk;obtain ⟨Av, qv, rfl, -, -⟩ := hv.form;obtain ⟨E0, hE0⟩ : ∃ z, z = K[il]'hilk := ⟨_, rfl⟩;rw [← hE0] at hv hcv;have HEE0 := zh hE0;have HVE0 := zh hv;have HCE0 := zh hcv;clear hv hcv hE0;have hK1 : (K.length : Int) = (il : Int) + 1 := by omega
   have hil1 : (il : Int) < (il : Int) + 1 := by omega
   have hil2 : il ≤ 100 := by have := HKL2.o.1; omega
   have HIL := zh hil;have hlen' : K.length = il + 1 := by omega
   have HLEN' := zh hlen;clear hil hlen' hlen;obtain ⟨q0', q1', q2', q3', q4', q5'⟩ := Zbl HCH.o.kr HCE0.o;obtain ⟨t0, t1, t2, t3, t4, t5⟩ := cz6 HTX.o;have ft0 := fz HTX.o
   go_upto_block 4 with (fail)
   clear hK1 hil1 hil2 q0' q1' q2' q3' q4' q5' nn t0 ft0 t1 t2 t3 t4 t5 c0 fc0 c1 c2 c3 c4;have htt := Tn.put6 (Tn.refl (fun b => b = TX) y1) rfl (.int .i64 E0.kind) (.int .i64 E0.op) (.int .i64 E0.aB) (.int .i64 E0.line) (.string E0.text) (.slice Av E0.kids.length qv);have ht6 := Zwe HTX.o rfl (.int .i64 E0.kind) (.int .i64 E0.op) (.int .i64 E0.aB) (.int .i64 E0.line) (.string E0.text) (.slice Av E0.kids.length qv);obtain ⟨y6, h6⟩ : ∃ z, ((((((y1.setCell ⟨TX, 0, none⟩ (.int .i64 E0.kind)).setCell ⟨TX, 1, none⟩ (.int .i64 E0.op)).setCell ⟨TX, 2, none⟩ (.int .i64 E0.aB)).setCell ⟨TX, 3, none⟩ (.int .i64 E0.line)).setCell ⟨TX, 4, none⟩ (.string E0.text)).setCell ⟨TX, 5, none⟩ (.slice Av E0.kids.length qv)) = z := ⟨_, rfl⟩;rw [h6] at htt ht6 ⊢;have HTT := zh htt;have HT6 := zh ht6;have HCH6 := zh (HCH.o.keep htt (fun b hb => Nat.le_of_eq hb.symm));have HVC := zh (show CV (fun y => ((Iv a0 t y ∧ y ≠ kb) ∧ 2 * p + 1 ≤ tag y) ∨ TX < y) y6 E0 (.slice Av E0.kids.length qv) from HVE0.o.keep (fun y hy => .inl ⟨hy.1, by have := HIL.o; omega⟩) (htt.keeps fun b hb hp => by
    subst hp;have := hb.1.1.2;have := HCH.o.or
    omega))
   clear htt ht6 h6;have HFIN := zh (show C = cK 17 c.line [cO 60 c.line [(cM 5 m c.line), K.getD 0 zC], chR (cM 5 m c.line) c.line K p E0 p, cN 28 c.line] by
    rw [HCC.o];unfold chC;rw [show (K.length - 1 - c.aB.toNat) / 2 = p by rw [hnum, HLEN'.o]; simp, if_pos hnum, show K.getD (K.length - 1) zC = E0 by rw [show K.length - 1 = il by have := HIL.o; have := HLEN'.o; omega, List.getD_eq_getElem?_getD, List.getElem?_eq_getElem hilk, HEE0.o]; rfl])
   have hlen := HLEN'.o;refine @Z8 _ shLp ?R11 _ _ _ _ ?h11 ?k11
   case h11 =>
    refine Zpg E G AL kl LB cs c A k EB RB UB NB SB m K kb cur tag a0 t TX qk FB GB RO RT p E0 v18 w y6 HCH6 (zh (Za HT6.o)) (zh ⟨by have := HKL2.o; omega, by have := HKL2.o; omega, by have := HKL2.o; omega⟩) HM64 (zh ⟨_, _, HT6.o, HVC.o⟩) (zh ?hf11)
    case hf11 => exact Zf1.mk' rfl rfl rfl rfl rfl rfl rfl rfl rfl rfl rfl rfl rfl (by show some _ = some _; exact congrArg some (congrArg (Value.int .i64) (by have := HIL.o; omega))) rfl rfl
   rintro a' y7 ⟨⟨X, v18', hf⟩, hct, ht⟩;obtain ⟨fr1, rfl⟩ := hf.opn;obtain ⟨C0, hC0⟩ : ∃ z, z = chR (cM 5 m c.line) c.line K p E0 p := ⟨_, rfl⟩;rw [← hC0] at HFIN hct;clear hC0;have HCT := zh hct;have HT17 := zh (HTT.o.tr ht);have HCHy := zh (HCH6.o.keep ht fun b hb => by rw [hb]; exact Nat.le_refl _);clear hf hct ht hnum hlen
  )
  all_goals (
   rw [HE0.o] at HFIN;obtain ⟨AT, qT, htb, hTC⟩ := HCT.o.o;have HTB7 := zh htb;have HTC := zh hTC;clear htb hTC HCT;go_upto_region 94 with (fail);have HG1 := zh ((HLx.o.block _ (Za HD.o.gb)).trans HD.o.gb);have HG7 := zh (HT17.o.has HG1.o (by have := Za HD.o.gb; have := HTXE.o; omega));have e1 := HCHy.o.hb.eb;obtain ⟨c0, c1, c2, c3, c4⟩ := Z1 e1;have fc0 := fz e1;clear e1;have e1 := HCHy.o.hb.sb;have s0 := cz6 e1;have fs0 := fz e1;clear e1;have g0 := cz6 HG7.o;have fg0 := fz HG7.o;go_wp2_with fail;obtain ⟨y8, B9, hl, hn, h1, h2⟩ := al y7 (.cells #[.int .i64 5, .int .i64 0, .int .i64 m, .int .i64 c.line, .string ⟨#[]⟩, .slice none 0 0, .int .i64 D0.kind, .int .i64 D0.op, .int .i64 D0.aB, .int .i64 D0.line, .string D0.text, .slice A0 D0.kids.length q0] Z7);rw [h1, h2];have HN9 := zh hn;have HN9E := zh h2;have HL8 := zh hl;clear hl hn h1 h2;refine (Zc5 60 c.line (some ⟨B9, 0, none⟩) 2 2 y8).mono ?_;rintro e y9 ⟨rfl, hb⟩;have HL9 := zh (show Zb y8 y9 from hb);clear hb c0 fc0 c1 c2 c3 c4 s0 fs0 g0 fg0;go_upto_region 95 with (fail);obtain ⟨y10, B19, hl, hn, h1, h2⟩ := al y9 (.cells #[.int .i64 11, .int .i64 60, .int .i64 0, .int .i64 c.line, .string ⟨#[]⟩, .slice (some ⟨B9, 0, none⟩) 2 2] Z7);rw [h1, h2];have HN19 := zh hn;have HN19E := zh h2;have HL10 := zh hl;clear hl hn h1 h2;have HLA := zh (show Zb y7 y10 from HL8.o.trans (HL9.o.trans HL10.o));have HCHz := zh (HCHy.o.later HLA.o)
   have HTBz := zB HLA HTB7;have e1 := HCHz.o.hb.eb;obtain ⟨c0, c1, c2, c3, c4⟩ := Z1 e1;have fc0 := fz e1;clear e1;have e1 := HCHz.o.hb.nb;have n0 := cz6 e1;have fn0 := fz e1;clear e1;have e1 := (HCHz.o.hb.later ((Zb.refl y10).alloc (.cells #[.int .i64 11, .int .i64 60, .int .i64 0, .int .i64 c.line, .string ⟨#[]⟩, .slice (some ⟨B9, 0, none⟩) 2 2, .int .i64 C0.kind, .int .i64 C0.op, .int .i64 C0.aB, .int .i64 C0.line, .string C0.text, .slice AT C0.kids.length qT, .int .i64 28, .int .i64 0, .int .i64 0, .int .i64 c.line, .string ⟨#[]⟩, .slice none 0 0] Z7))).rb;obtain ⟨r0, r1, r2, r3, r4, r5⟩ := cz6 e1;have fr0 := fz e1;clear e1;have e1 := HTBz.o;unfold Zf.cells at e1;obtain ⟨t0, t1, t2, t3, t4, t5⟩ := cz6 e1;have ft0 := fz e1;clear e1;have o0 := cz6 HN19.o;have fo0 := fz HN19.o;go_wp2_with fail;have hl : Zb y10 (y10.alloc (.cells #[.int .i64 11, .int .i64 60, .int .i64 0, .int .i64 c.line, .string ⟨#[]⟩, .slice (some ⟨B9, 0, none⟩) 2 2, .int .i64 C0.kind, .int .i64 C0.op, .int .i64 C0.aB, .int .i64 C0.line, .string C0.text, .slice AT C0.kids.length qT, .int .i64 28, .int .i64 0, .int .i64 0, .int .i64 c.line, .string ⟨#[]⟩, .slice none 0 0] Z7)) := (Zb.refl _).alloc _;have hn := heap_alloc_new y10 (.cells #[.int .i64 11, .int .i64 60, .int .i64 0, .int .i64 c.line, .string ⟨#[]⟩, .slice (some ⟨B9, 0, none⟩) 2 2, .int .i64 C0.kind, .int .i64 C0.op, .int .i64 C0.aB, .int .i64 C0.line, .string C0.text, .slice AT C0.kids.length qT, .int .i64 28, .int .i64 0, .int .i64 0, .int .i64 c.line, .string ⟨#[]⟩, .slice none 0 0] Z7)
   have ho := HCHy.o.or;have hlo := HCHy.o.lo;have h9 := HN9E.o;have h9b := Za HN9.o;have h98 := HL9.o.size;have h10 := HL10.o.size;have htb := Za HTB7.o;have hpl := HLA.o.size;have ht7 := HT17.o.size;have r2 : Zz Zbe 6 Z7 (fun y => ((Iv a0 t y ∧ y ≠ kb) ∧ tag y = 0) ∨ y = B9) y8 [cM 5 m c.line, D0] (.slice (some ⟨B9, 0, none⟩) 2 2) :=
    Znf (K0 := fun _ => False) (v0 := .slice none 0 0) HN9.o (CV.cm _ _ (by decide) (by decide) HM64.o.1 HM64.o.2) (((HCV0.o.later HLx.o).keep (fun _ h => h) (HT17.o.keeps fun b hb e => by have := hb.1.1.2; omega)).later HL8.o) (.inr rfl) (fun _ h => h.elim) (fun y hy => ⟨.inl hy, fun e => by have := hy.1.1.2; omega⟩) (fun _ h => h.elim)
   have c2 := (CV.co (op := 60) (line := c.line) r2 (by decide) (by decide) HC64.o).later ((HL9.o.trans HL10.o).trans hl);have r3 : Zz Zbe 6 Z7 (fun b => a0 ≤ b) (y10.alloc (.cells #[.int .i64 11, .int .i64 60, .int .i64 0, .int .i64 c.line, .string ⟨#[]⟩, .slice (some ⟨B9, 0, none⟩) 2 2, .int .i64 C0.kind, .int .i64 C0.op, .int .i64 C0.aB, .int .i64 C0.line, .string C0.text, .slice AT C0.kids.length qT, .int .i64 28, .int .i64 0, .int .i64 0, .int .i64 c.line, .string ⟨#[]⟩, .slice none 0 0] Z7)) [cO 60 c.line [cM 5 m c.line, D0], C0, cN 28 c.line] (.slice (some ⟨y10.heap.size, 0, none⟩) 3 3) := by
    refine Zsf (K2 := fun _ => False) (v0 := .slice (some ⟨B9, 0, none⟩) 2 2) (v2 := .slice none 0 0) hn c2 ((HTC.o.trim.later HLA.o).later hl) (CV.cn _ _ (by decide) (by decide) HC64.o) (by omega) (fun y hy => ?_) (fun y hy => ?_) (fun _ h => h.elim) (fun y hy hz => ?_) (fun _ _ h => h.elim) (fun _ _ h => h.elim)
    ·rcases hy with h | h
     ·have h1 := h.1.1.1; have h2 := h.1.1.2; exact ⟨h1, by omega⟩
     ·exact ⟨by omega, by omega⟩
    ·have h3 := hy.2
     rcases hy.1 with h | h
     ·have h1 := h.1.1.1; have h2 := h.1.1.2; exact ⟨h1, by omega⟩
     ·exact ⟨by omega, by omega⟩
    ·have h3 := hz.2
     rcases hy with h | h
     ·rcases hz.1 with h2 | h2
      ·have := h.2; have := h2.2; omega
      ·have := h.1.1.2; omega
     ·omega
   exact ⟨Zcq.mk' rfl rfl, HFIN.o ▸ (HCHz.o.hb.later hl).put (HCHz.o.st.later hl) (CV.ck (k := 17) r3 (by decide) (by decide) HC64.o) (fun b (hb : a0 ≤ b) => by have := HD.o.lo; omega)⟩
  )
 have tk : (c.kind == 20) = false := by simpa using h
 have HN20 := zh h;clear h;go_upto_region 96 with (fail);clear tk
 by_cases h : c.kind = 21
 ·have tk : (c.kind == 21) = true := beq_iff_eq.2 h;have HH := zh h;clear h;have hcc := (Zrd (u := E.u) (L := E.L) (m := m) (k := K) HH.o).symm;rw [← HC.o] at hcc;rw [HD.o.kd.e0] at hcc;go_upto_region 97 with (fail);clear tk;have e1 := HD.o.ob;have o0 := cz6 e1;have fo0 := fz e1;clear e1;go_upto_region 98 with (fail);clear o0 fo0;obtain ⟨h2, h3, h4, h5⟩ := HD.o.setB (RO + 1) (.inl rfl) (.int .i64 23);have hob : (x.setCell ⟨RO + 1, 0, none⟩ (.int .i64 23)).heap[RO + 1]? = some (.cells #[.int .i64 23, .int .i64 0, .int .i64 0, .int .i64 c.line, .string ⟨#[]⟩, .slice (some ⟨RO, 0, none⟩) 1 1] Z7 (0, 0)) := Z0 (o := 0) HD.o.ob _;obtain ⟨y, h1⟩ : ∃ z, x.setCell ⟨RO + 1, 0, none⟩ (.int .i64 23) = z := ⟨_, rfl⟩;rw [h1] at h2 h3 h4 h5 hob ⊢;have HY2 := zh h2;have HY3 := zh h3;have HY4 := zh (h4 rfl);have e2 := HY2.o.rb;clear h1 h2 h3 h4 h5;have o0 := cz6 hob;have fo0 := fz hob;obtain ⟨r0, r1, r2, r3, r4, r5⟩ := cz6 e2;have fr0 := fz e2;clear hob e2;go_wp2_with fail;exact ⟨Zcq.mk' rfl rfl, hcc ▸ HY2.o.put HY3.o (CV.ck (k := 23) HY4.o (by decide) (by decide) HC64.o) (fun b hb => by have := HD.o.lo; omega)⟩
 have tk : (c.kind == 21) = false := by simpa using h
 have HN21 := zh h;clear h;go_upto_region 99 with (fail);clear tk
 by_cases h : c.kind = 22
 ·have tk : (c.kind == 22) = true := beq_iff_eq.2 h;have HH := zh h;clear h;have hcc := (Zre (u := E.u) (L := E.L) (m := m) (k := K) HH.o).symm;rw [← HC.o] at hcc;rw [HD.o.kd.e0, HD.o.kd.e1] at hcc;go_upto_region 100 with (fail);clear tk;have e1 := HD.o.tb;have o0 := cz6 e1;have fo0 := fz e1;clear e1;go_upto_region 101 with (fail);clear o0 fo0;obtain ⟨h2, h3, h4, h5⟩ := HD.o.setB (RT + 1) (.inr rfl) (.int .i64 25);have hob : (x.setCell ⟨RT + 1, 0, none⟩ (.int .i64 25)).heap[RT + 1]? = some (.cells #[.int .i64 25, .int .i64 0, .int .i64 0, .int .i64 c.line, .string ⟨#[]⟩, .slice (some ⟨RT, 0, none⟩) 2 2] Z7 (0, 0)) := Z0 (o := 0) HD.o.tb _;obtain ⟨y, h1⟩ : ∃ z, x.setCell ⟨RT + 1, 0, none⟩ (.int .i64 25) = z := ⟨_, rfl⟩;rw [h1] at h2 h3 h4 h5 hob ⊢;have HY2 := zh h2;have HY3 := zh h3;have HY4 := zh (h5 rfl);have e2 := HY2.o.rb;clear h1 h2 h3 h4 h5;have o0 := cz6 hob;have fo0 := fz hob;obtain ⟨r0, r1, r2, r3, r4, r5⟩ := cz6 e2;have fr0 := fz e2;clear hob e2;go_wp2_with fail;exact ⟨Zcq.mk' rfl rfl, hcc ▸ HY2.o.put HY3.o (CV.ck (k := 25) HY4.o (by decide) (by decide) HC64.o) (fun b hb => by have := HD.o.lo; omega)⟩
 have tk : (c.kind == 22) = false := by simpa using h
 have HN22 := zh h;clear h;go_upto_region 102 with (fail);clear tk
 by_cases h : c.kind = 23
 ·have tk : (c.kind == 23) = true := beq_iff_eq.2 h;have HH := zh h;clear h;have hcc := (Zrf (u := E.u) (L := E.L) (m := m) (k := K) HH.o).symm;rw [← HC.o] at hcc;go_upto_region 103 with (fail);clear tk;have e1 := HD.o.hb.eb;obtain ⟨c0, c1, c2, c3, c4⟩ := Z1 e1;have fc0 := fz e1;clear e1;have e1 := HD.o.hb.rb;obtain ⟨r0, r1, r2, r3, r4, r5⟩ := cz6 e1;have fr0 := fz e1;clear e1;go_wp2_with fail;exact ⟨Zcq.mk' rfl rfl, hcc ▸ HD.o.hb.put HD.o.st (CV.cn (k := 24) (fun _ : Nat => False) x (by decide) (by decide) HC64.o) (fun _ (h : False) => h.elim)⟩
 have tk : (c.kind == 23) = false := by simpa using h
 have HN23 := zh h;clear h;go_upto_region 104 with (fail);clear tk
 by_cases h : c.kind = 24
 ·have tk : (c.kind == 24) = true := beq_iff_eq.2 h;have HH := zh h;clear h;have hcc := (Zrg (u := E.u) (L := E.L) (m := m) (k := K) HH.o).symm;rw [← HC.o] at hcc;rw [HD.o.kd.e0] at hcc;go_upto_region 105 with (fail);clear tk;have e1 := HD.o.ob;have o0 := cz6 e1;have fo0 := fz e1;clear e1;go_upto_region 106 with (fail);clear o0 fo0;obtain ⟨h2, h3, h4, h5⟩ := HD.o.setB (RO + 1) (.inl rfl) (.int .i64 20);have hob : (x.setCell ⟨RO + 1, 0, none⟩ (.int .i64 20)).heap[RO + 1]? = some (.cells #[.int .i64 20, .int .i64 0, .int .i64 0, .int .i64 c.line, .string ⟨#[]⟩, .slice (some ⟨RO, 0, none⟩) 1 1] Z7 (0, 0)) := Z0 (o := 0) HD.o.ob _;obtain ⟨y, h1⟩ : ∃ z, x.setCell ⟨RO + 1, 0, none⟩ (.int .i64 20) = z := ⟨_, rfl⟩;rw [h1] at h2 h3 h4 h5 hob ⊢;have HY2 := zh h2;have HY3 := zh h3;have HY4 := zh (h4 rfl);have e2 := HY2.o.rb;clear h1 h2 h3 h4 h5;have o0 := cz6 hob;have fo0 := fz hob;obtain ⟨r0, r1, r2, r3, r4, r5⟩ := cz6 e2;have fr0 := fz e2;clear hob e2;go_wp2_with fail;exact ⟨Zcq.mk' rfl rfl, hcc ▸ HY2.o.put HY3.o (CV.ck (k := 20) HY4.o (by decide) (by decide) HC64.o) (fun b hb => by have := HD.o.lo; omega)⟩
 have tk : (c.kind == 24) = false := by simpa using h
 have HN24 := zh h;clear h;go_upto_region 107 with (fail);clear tk
 by_cases h : c.kind = 25
 ·have tk : (c.kind == 25) = true := beq_iff_eq.2 h;have HH := zh h;clear h;have hcc := (Zrh (u := E.u) (L := E.L) (m := m) (k := K) HH.o).symm;rw [← HC.o] at hcc;go_upto_region 108 with (fail);clear tk;have e1 := HD.o.hb.eb;obtain ⟨c0, c1, c2, c3, c4⟩ := Z1 e1;have fc0 := fz e1;clear e1;have e1 := HD.o.hb.rb;obtain ⟨r0, r1, r2, r3, r4, r5⟩ := cz6 e1;have fr0 := fz e1;clear e1;go_wp2_with fail;exact ⟨Zcq.mk' rfl rfl, hcc ▸ HD.o.hb.put HD.o.st (CV.cn (k := 21) (fun _ : Nat => False) x (by decide) (by decide) HC64.o) (fun _ (h : False) => h.elim)⟩
 have tk : (c.kind == 25) = false := by simpa using h
 have HN25 := zh h;clear h;go_upto_region 109 with (fail);clear tk
 by_cases h : c.kind = 26
 ·have tk : (c.kind == 26) = true := beq_iff_eq.2 h;have HH := zh h;clear h;have hcc := (Zri (u := E.u) (L := E.L) (m := m) (k := K) HH.o).symm;rw [← HC.o] at hcc;rw [HD.o.kd.e0] at hcc;go_upto_region 110 with (fail);clear tk;have e1 := HD.o.ob;have o0 := cz6 e1;have fo0 := fz e1;clear e1;go_upto_region 111 with (fail);clear o0 fo0;obtain ⟨h2, h3, h4, h5⟩ := HD.o.setB (RO + 1) (.inl rfl) (.int .i64 26);have hob : (x.setCell ⟨RO + 1, 0, none⟩ (.int .i64 26)).heap[RO + 1]? = some (.cells #[.int .i64 26, .int .i64 0, .int .i64 0, .int .i64 c.line, .string ⟨#[]⟩, .slice (some ⟨RO, 0, none⟩) 1 1] Z7 (0, 0)) := Z0 (o := 0) HD.o.ob _;obtain ⟨y, h1⟩ : ∃ z, x.setCell ⟨RO + 1, 0, none⟩ (.int .i64 26) = z := ⟨_, rfl⟩;rw [h1] at h2 h3 h4 h5 hob ⊢;have HY2 := zh h2;have HY3 := zh h3;have HY4 := zh (h4 rfl);have e2 := HY2.o.rb;clear h1 h2 h3 h4 h5;have o0 := cz6 hob;have fo0 := fz hob;obtain ⟨r0, r1, r2, r3, r4, r5⟩ := cz6 e2;have fr0 := fz e2;clear hob e2;go_wp2_with fail;exact ⟨Zcq.mk' rfl rfl, hcc ▸ HY2.o.put HY3.o (CV.ck (k := 26) HY4.o (by decide) (by decide) HC64.o) (fun b hb => by have := HD.o.lo; omega)⟩
 have tk : (c.kind == 26) = false := by simpa using h
 have HN26 := zh h;clear h;go_upto_region 112 with (fail);clear tk
 by_cases h : c.kind = 27
 ·have tk : (c.kind == 27) = true := beq_iff_eq.2 h;have HH := zh h;clear h;have hcc := (Zrj (u := E.u) (L := E.L) (m := m) (k := K) HH.o).symm;rw [← HC.o] at hcc;rw [HD.o.kd.e0] at hcc;go_upto_region 113 with (fail);clear tk;have e1 := HD.o.hb.eb;obtain ⟨c0, c1, c2, c3, c4⟩ := Z1 e1;have fc0 := fz e1;clear e1;have e1 := HD.o.hb.ub;have u0 := cz6 e1;have fu0 := fz e1;clear e1;have e1 := HD.o.hb.nb;have n0 := cz6 e1;have fn0 := fz e1;clear e1;have e1 := HD.o.gb;have g0 := cz6 e1;have fg0 := fz e1;clear e1;have e1 := (HD.o.hb.later ((Zb.refl x).alloc (.cells #[.int .i64 D0.kind, .int .i64 D0.op, .int .i64 D0.aB, .int .i64 D0.line, .string D0.text, .slice A0 D0.kids.length q0, .int .i64 28, .int .i64 0, .int .i64 0, .int .i64 c.line, .string ⟨#[]⟩, .slice none 0 0, .int .i64 4, .int .i64 0, .int .i64 0, .int .i64 c.line, .string ⟨#[]⟩, .slice none 0 0] Z7))).rb;obtain ⟨r0, r1, r2, r3, r4, r5⟩ := cz6 e1;have fr0 := fz e1;clear e1;go_wp2_with fail;have hl : Zb x (x.alloc (.cells #[.int .i64 D0.kind, .int .i64 D0.op, .int .i64 D0.aB, .int .i64 D0.line, .string D0.text, .slice A0 D0.kids.length q0, .int .i64 28, .int .i64 0, .int .i64 0, .int .i64 c.line, .string ⟨#[]⟩, .slice none 0 0, .int .i64 4, .int .i64 0, .int .i64 0, .int .i64 c.line, .string ⟨#[]⟩, .slice none 0 0] Z7)) := (Zb.refl _).alloc _;have hn := heap_alloc_new x (.cells #[.int .i64 D0.kind, .int .i64 D0.op, .int .i64 D0.aB, .int .i64 D0.line, .string D0.text, .slice A0 D0.kids.length q0, .int .i64 28, .int .i64 0, .int .i64 0, .int .i64 c.line, .string ⟨#[]⟩, .slice none 0 0, .int .i64 4, .int .i64 0, .int .i64 0, .int .i64 c.line, .string ⟨#[]⟩, .slice none 0 0] Z7)
  exact ⟨Zcq.mk' rfl rfl, hcc ▸ (HD.o.hb.later hl).put (HD.o.st.later hl) (CV.ck (k := 17) (HD.o.rowC hl (Nat.le_refl _) hn (CV.cn (k := 28) (fun _ : Nat => False) _ (by decide) (by decide) HC64.o) (CV.cn (k := 4) (fun _ : Nat => False) _ (by decide) (by decide) HC64.o)) (by decide) (by decide) HC64.o) (HD.o.fp (Nat.le_refl _))⟩
 have tk : (c.kind == 27) = false := by simpa using h
 have HN27 := zh h;clear h;go_upto_region 114 with (fail);clear tk
 by_cases h : c.kind = 28
 ·have tk : (c.kind == 28) = true := beq_iff_eq.2 h;have HH := zh h;clear h;have hcc := (Zrk (u := E.u) (L := E.L) (m := m) (k := K) HH.o).symm;rw [← HC.o] at hcc;have hlim := Zlf E.u E.L c.text (by have := Za9 HOK.o; omega) (by have := Za9 HOK.o; omega) (by have := Za9 HOK.o; omega) HLC.o.ln (HLC.o.nm.1 (.inr HH.o));obtain ⟨R, hR⟩ : ∃ z, z = (Zdb E.u E.L c.text).1 := ⟨_, rfl⟩;obtain ⟨Q, hQ⟩ : ∃ z, z = (Zdb E.u E.L c.text).2 := ⟨_, rfl⟩;replace hcc : cO 81 c.line [cM (R + 4) Q c.line] = C := by rw [hR, hQ]; exact hcc
  rw [← hR, ← hQ] at hlim;have HR := zh hR;have HQ := zh hQ;have HLIM := zh hlim;clear hR hQ hlim;go_upto_region 115 with (fail);clear tk;refine Zx [16, 17] [] (by kernel_rfl) (fun W hW => ?_);have hlW : Zb x W := by rw [hW]; exact (Zb.refl _).drew
  have HLW := zh hlW;have HEW := zh ((hlW.block _ (Za HD.o.hb.eb)).trans HD.o.hb.eb);have HBW := zh ((hlW.block _ (Za HD.o.st.blk)).trans HD.o.st.blk);clear hlW hW;refine uU 0 369 ?_;simp only [yN];refine uU 1 370 (hy := fun x hx => by have hxb := (hx.block _ (Za HBW.o)).trans HBW.o; obtain ⟨b0, b1, b2, b3, b4⟩ := Z1 hxb; have fb0 := fz hxb; have hxe := (hx.block _ (Za HEW.o)).trans HEW.o; obtain ⟨c0, c1, c2, c3, c4⟩ := Z1 hxe; have fc0 := fz hxe; go_simp <;> with_reducible rfl) ?_;simp only [yN];refine uU 2 371 ?_;simp only [yN];refine uU 3 372 ?_;simp only [yN];refine uU 4 373 ?_;simp only [yN];refine uU 5 374 (hy := fun x hx => by have hxb := (hx.block _ (Za HBW.o)).trans HBW.o; obtain ⟨b0, b1, b2, b3, b4⟩ := Z1 hxb; have fb0 := fz hxb; have hxe := (hx.block _ (Za HEW.o)).trans HEW.o; obtain ⟨c0, c1, c2, c3, c4⟩ := Z1 hxe; have fc0 := fz hxe; go_simp <;> with_reducible rfl) ?_;simp only [yN];refine uU 6 375 ?_;simp only [yN];refine uU 7 376 ?_;simp only [yN];refine uU 8 377 ?_;simp only [yN];refine uU 9 378 (hy := fun x hx => by have hxb := (hx.block _ (Za HBW.o)).trans HBW.o; obtain ⟨b0, b1, b2, b3, b4⟩ := Z1 hxb; have fb0 := fz hxb; have hxe := (hx.block _ (Za HEW.o)).trans HEW.o; obtain ⟨c0, c1, c2, c3, c4⟩ := Z1 hxe; have fc0 := fz hxe; go_simp <;> with_reducible rfl) ?_;simp only [yN];refine uU 10 379 ?_;simp only [yN];refine uU 11 380 (hy := fun x hx => by have hxb := (hx.block _ (Za HBW.o)).trans HBW.o; obtain ⟨b0, b1, b2, b3, b4⟩ := Z1 hxb; have fb0 := fz hxb; have hxe := (hx.block _ (Za HEW.o)).trans HEW.o; obtain ⟨c0, c1, c2, c3, c4⟩ := Z1 hxe; have fc0 := fz hxe; go_simp <;> with_reducible rfl) ?_
  simp only [yN];refine uU 12 381 ?_;simp only [yN];refine uU 13 382 (hy := fun x hx => by have hxb := (hx.block _ (Za HBW.o)).trans HBW.o; obtain ⟨b0, b1, b2, b3, b4⟩ := Z1 hxb; have fb0 := fz hxb; have hxe := (hx.block _ (Za HEW.o)).trans HEW.o; obtain ⟨c0, c1, c2, c3, c4⟩ := Z1 hxe; have fc0 := fz hxe; go_simp <;> with_reducible rfl) ?_;simp only [yN];refine Z5 14 (by kernel_rfl) rfl rfl ?_;go_wp2_with fail;refine (Zrq E.N E.F W E.u E.A1 E.A2 E.A3 E.k1 E.k2 E.k3 (HD.o.st.un.later HLW.o) E.L _ G (HD.o.st.lo.later Zg HLW.o) HLC.o.ln (by have := Za9 HOK.o; omega) (by have := Za9 HOK.o; omega) (by have := Za9 HOK.o; omega) c.text c.line).mono ?_;rintro e y1 ⟨rfl, hb⟩;rw [← HR.o, ← HQ.o];have HWy := zh (show Zb W y1 from hb);clear hb;go_wp2_with fail;refine ⟨HWy.o, ?_⟩;refine Z5 15 (by kernel_rfl) rfl rfl ?_;go_wp2_with fail;obtain ⟨y2, B, hl, hn, h1, h2⟩ := al y1 (.cells #[.int .i64 (R + 4), .int .i64 0, .int .i64 Q, .int .i64 c.line, .string ⟨#[]⟩, .slice none 0 0] Z7);rw [h1, h2];have HN := zh hn;have HNE := zh h2;have HL2 := zh hl;clear hl hn h1 h2;refine ⟨HL2.o, ?_⟩;refine Z6 [_, _] (by kernel_rfl) rfl rfl ?_;simp only [gA, gB, gC];go_wp2_with fail;refine (Zc5 81 c.line (some ⟨B, 0, none⟩) 1 1 y2).mono ?_;rintro e y ⟨rfl, hb⟩;have HLy := zh (show Zb x y from HLW.o.trans (HWy.o.trans (HL2.o.trans hb)));have HN2 := zh ((Zb.block hb _ (Za HN.o)).trans HN.o);have HBG := zh (show x.heap.size ≤ B from HNE.o ▸ Nat.le_trans HLW.o.size HWy.o.size)
  clear hb;have e1 := (HD.o.hb.later HLy.o).rb;obtain ⟨r0, r1, r2, r3, r4, r5⟩ := cz6 e1;have fr0 := fz e1;clear e1;go_wp2_with fail;exact ⟨Zcq.mk' rfl rfl, hcc ▸ (HD.o.hb.later HLy.o).put (HD.o.st.later HLy.o) (CV.co (op := 81) (Zx2 (G := fun b => K0 b ∨ b = B) (c0 := cM (R + 4) Q c.line) HN2.o (CV.cm (k := R + 4) (fun _ : Nat => False) y (by have := HLIM.o; omega) (by have := HLIM.o; omega) (Zbr HLIM.o.1 (by have := HLIM.o; omega)) HC64.o) (.inr rfl) (fun _ h => h.elim)) (by decide) (by decide) HC64.o) (HD.o.fp HBG.o)⟩
 have tk : (c.kind == 28) = false := by simpa using h
 have HN28 := zh h;clear h;have h : c.kind = 29 := by
  have hr := Zfp HLC.o.hd;have h1 := HN1.o;have h2 := HN2.o;have h3 := HN3.o;have h4 := HN4.o;have h5 := HN5.o;have h6 := HN6.o;have h7 := HN7.o;have h8 := HN8.o;have h9 := HN9.o;have h10 := HN10.o;have h11 := HN11.o;have h12 := HN12.o;have h13 := HN13.o;have h14 := HN14.o;have h15 := HN15.o;have h16 := HN16.o;have h17 := HN17.o;have h18 := HN18.o;have h19 := HN19.o;have h20 := HN20.o;have h21 := HN21.o;have h22 := HN22.o;have h23 := HN23.o;have h24 := HN24.o;have h25 := HN25.o;have h26 := HN26.o;have h27 := HN27.o;have h28 := HN28.o
  omega
 have hcc := Zrl (u := E.u) (L := E.L) (m := m) (k := K) h;rw [← HC.o] at hcc;clear h;go_wp2_with fail;exact ⟨⟨_, _, _, Zf1.mk' rfl rfl rfl rfl rfl rfl rfl rfl rfl rfl rfl rfl rfl rfl rfl rfl⟩, rfl, hcc⟩
end Go.Proofs.YtcmmdchjppaimaaGreatDoor
