/- Part of the walks that the claim stands on. -/
import Derived.Test.YtcmmdchjppaimaaGreatDoorS4
import Derived.Test.YtcmmdchjppaimaaGreatDoorS3
import Derived.Test.YtcmmdchjppaimaaGreatDoorS2
import Derived.Test.YtcmmdchjppaimaaGreatDoorS1
import Derived.BigQuiet
import Derived.WalkKit
import Derived.WalkSpells
import Derived.WalkLawsBesides
import Derived.Outline
import Derived.Deep.DeepCutAuto
import Derived.Test.YtcmmdchjppaimaaGreatDoorChecked
import Derived.Lib.Hide
set_option maxRecDepth 1000000
set_option maxHeartbeats 40000000
namespace Go.Proofs.YtcmmdchjppaimaaGreatDoor
open Go.RowKit
theorem Zlv (n : Nat) (IH : ∀ m, n = m + 1 → Zya m) : Zya n := by
 intro E G AL kl LB cs w c A k hw hlg hok hv hc;have HLC := zh hc;have HLG := zh hlg;have HOK := zh hok;have HC64 := zh hv.n2;have HN64 := zh hv.n1;have HTX := zh hv.tx;obtain ⟨m, hm⟩ : ∃ z, z = ((E.L.length + cs : Nat) : Int) := ⟨_, rfl⟩;rw [Zp7, ← hm];have HM := zh hm;obtain ⟨K, hK⟩ : ∃ z, z = Zch E.u E.L n c m c.kids.length := ⟨_, rfl⟩;rw [← hK];have HK := zh hK;have HKL := zh (show K.length = c.kids.length by rw [hK]; exact Zdj _ _ _ _ _ _);obtain ⟨C, hC⟩ : ∃ z, z = Zbd E.u E.L c m K := ⟨_, rfl⟩;rw [← hC];have HC := zh hC;have hblk := hw.blk;rw [← hm] at hblk;clear hm hK hC hc hlg hok;have hks1 := hv.len;have HV := zh hv;have HW := zh hw;obtain ⟨wa, hla, heb, hwa⟩ := aN w (.cells #[.int .i64 c.kind, .string c.text, .int .i64 c.aB, .int .i64 c.line, .slice A c.kids.length k] 104);have hlb : Zb wa (wa.alloc (.cells #[.int .i64 0, .int .i64 0, .int .i64 0, .int .i64 0, .string ⟨#[]⟩, .slice none 0 0] Z7)) := (Zb.refl _).alloc _;have hrb := heap_alloc_new wa (.cells #[.int .i64 0, .int .i64 0, .int .i64 0, .int .i64 0, .string ⟨#[]⟩, .slice none 0 0] Z7);have heb2 := (hlb.block _ (Za heb)).trans heb;obtain ⟨wb, hwb⟩ : ∃ z, wa.alloc (.cells #[.int .i64 0, .int .i64 0, .int .i64 0, .int .i64 0, .string ⟨#[]⟩, .slice none 0 0] Z7) = z := ⟨_, rfl⟩;rw [hwb] at hlb hrb heb2;have HLb := zh (Zb.trans hla hlb);have hsz : w.heap.size ≤ wa.heap.size := hla.size;have hne : w.heap.size ≠ wa.heap.size := fun e => by have := Za heb; omega
 obtain ⟨EB, hEB⟩ : ∃ z, w.heap.size = z := ⟨_, rfl⟩;obtain ⟨RB, hRB⟩ : ∃ z, wa.heap.size = z := ⟨_, rfl⟩;have HGE := zh (show w.heap.size ≤ EB ∧ w.heap.size ≤ RB ∧ EB ≠ RB from ⟨by omega, by omega, by omega⟩);rw [hEB] at heb2;rw [hRB] at hrb;have HEB := zh heb2;have HRB := zh hrb;have HSTART := zh (⟨hwa, hwb, hEB, hRB⟩ : _ ∧ _ ∧ _ ∧ _);clear hla hlb heb hrb heb2 hv hw hsz hne hwa hwb hEB hRB;have HLBb := zh ((HLb.o.block _ (Za hblk)).trans hblk);clear hblk;obtain ⟨c0, c1, c2, c3, c4⟩ := Z1 HEB.o;have fc0 := fz HEB.o;go_enter Tryz.func55, Tryz.ntmps55;obtain ⟨hwa, hwb, hEB, hRB⟩ := HSTART.o;go_upto_region 1 with (fail);clear hwa hwb hEB hRB;go_upto_region 2 with (fail);obtain ⟨w1, UB, hl, hn, h1, h2⟩ := al wb (.cells #[.int .i64 4, .int .i64 0, .int .i64 0, .int .i64 c.line, .string ⟨#[]⟩, .slice none 0 0] Z7);rw [h1, h2];have HUB := zh hn;have HUBE := zh h2;have HL1 := zh hl;clear hl hn h1 h2;clear c0 fc0 c1 c2 c3 c4;have HE1 := zB HL1 HEB;obtain ⟨c0, c1, c2, c3, c4⟩ := Z1 HE1.o;have fc0 := fz HE1.o;go_upto_region 3 with (fail);obtain ⟨w2, NB, hl, hn, h1, h2⟩ := al w1 (.cells #[.int .i64 28, .int .i64 0, .int .i64 0, .int .i64 c.line, .string ⟨#[]⟩, .slice none 0 0] Z7);rw [h1, h2];have HNB := zh hn;have HNBE := zh h2;have HL2 := zh hl;clear hl hn h1 h2;clear c0 fc0 c1 c2 c3 c4;have HE2 := zB HL2 HE1;have HB2 := zh (((HL1.o.trans HL2.o).block _ (Za HLBb.o)).trans HLBb.o);refine Zx [8] [] (by kernel_rfl) (fun W hW => ?_);have hlW : Zb w2 W := by rw [hW]; exact (Zb.refl _).drew
 have HLW := zh hlW;have HEW := yC hlW HE2;have HBW := yC hlW HB2;clear hlW hW;refine uU 0 26 ?_;simp only [yN];refine uU 1 27 ?_;simp only [yN];refine uU 2 28 ?_;simp only [yN];refine uU 3 29 (hy := fun x hx => by have hxb := (hx.block _ (Za HBW.o)).trans HBW.o; have hxe := (hx.block _ (Za HEW.o)).trans HEW.o; have b0 := Z1 hxb; have fb0 := fz hxb; obtain ⟨c0, c1, c2, c3, c4⟩ := Z1 hxe; have fc0 := fz hxe; go_simp <;> with_reducible rfl) ?_;simp only [yN];refine uU 4 30 ?_;simp only [yN];refine uU 5 31 (hy := fun x hx => by have hxb := (hx.block _ (Za HBW.o)).trans HBW.o; have hxe := (hx.block _ (Za HEW.o)).trans HEW.o; have b0 := Z1 hxb; have fb0 := fz hxb; obtain ⟨c0, c1, c2, c3, c4⟩ := Z1 hxe; have fc0 := fz hxe; go_simp <;> with_reducible rfl) ?_;simp only [yN];refine uU 6 32 ?_;simp only [yN];refine Z5 7 (by kernel_rfl) rfl rfl ?_;go_wp2_with fail;refine ⟨(Zb.refl _).alloc _, ?_⟩;refine Z6 [_] (by kernel_rfl) rfl rfl ?_;simp only [gA, gB, gC];go_upto_region 4 with (fail);obtain ⟨w4, SB, hl, hn, h1, h2⟩ := al W (.cells #[.int .i64 5, .int .i64 0, .int .i64 m, .int .i64 c.line, .string ⟨#[]⟩, .slice none 0 0] Z7);rw [h1, h2];have HSB := zh hn;have HSBE := zh h2;have HL4 := zh hl;clear hl hn h1 h2
 have hst4 : LwS E G AL kl LB cs w4 := HW.o.later (HLb.o.trans (HL1.o.trans (HL2.o.trans (HLW.o.trans HL4.o))));have HST4 := zh hst4;have HB4 := zh (show LsB E G AL kl LB cs c A k EB RB UB NB SB m w w4 from ⟨((HLW.o.trans HL4.o).block _ (Za HE2.o)).trans HE2.o, ((HL1.o.trans (HL2.o.trans (HLW.o.trans HL4.o))).block _ (Za HRB.o)).trans HRB.o, ((HL2.o.trans (HLW.o.trans HL4.o)).block _ (Za HUB.o)).trans HUB.o, ((HLW.o.trans HL4.o).block _ (Za HNB.o)).trans HNB.o, HSB.o, Tn.later (HLb.o.trans (HL1.o.trans (HL2.o.trans (HLW.o.trans HL4.o)))), HW.o, HLG.o, by
  have s1 := HGE.o; have s2 := HUBE.o; have s3 := HNBE.o; have s4 := HSBE.o; have s5 := HLb.o.size; have s6 := HL1.o.size; have s7 := HL2.o.size; have s8 := HLW.o.size
  omega⟩)
 clear hst4;obtain ⟨c0, c1, c2, c3, c4⟩ := Z1 HB4.o.eb;have fc0 := fz HB4.o.eb;have hway : Zbu c.kind = 1 ∧ c.kind = 20 ∨ Zbu c.kind = 0 ∧ (c.kind == (20 : Int)) = false := by
  by_cases h : c.kind = 20
  ·exact .inl ⟨by rw [h]; rfl, h⟩
  ·exact .inr ⟨Zaw h, nH.2 h⟩
 cases hway
 case' inl hz =>
  have HZ := zh hz.1;have tk : (c.kind == (20 : Int)) = true := beq_iff_eq.2 hz.2;have hb4 := HST4.o.blk;rw [← HM.o] at hb4;have tw : wrap64 (m + 1) = m + 1 := IntWalk.wrap64_in _ (by rw [HM.o]; have := HLC.o.ln; have := HLC.o.le; omega);have b0 := Z1 hb4;have fb0 := fz hb4;go_upto_region 5 with (fail);clear tk hz;go_upto_region 6 with (fail);clear tw hb4 b0 fb0;have hB5 : LsB E G AL kl LB cs c A k EB RB UB NB SB m w (w4.setCell ⟨LB, 4, none⟩ (.int .i64 (m + 1))) := HB4.o.lb ((Tn.refl (fun b => b = LB) _).set rfl _ _);have hS5 : LwS E G AL kl LB (cs + Zbu c.kind) (w4.setCell ⟨LB, 4, none⟩ (.int .i64 (m + 1))) := by rw [HZ.o]; exact HST4.o.next HM.o
  obtain ⟨w5, h5⟩ : ∃ z, w4.setCell ⟨LB, 4, none⟩ (.int .i64 (m + 1)) = z := ⟨_, rfl⟩;rw [h5] at hB5 hS5 ⊢;clear h5 HZ
 case' inr hz =>
  have tk := hz.2;have hS5 : LwS E G AL kl LB (cs + Zbu c.kind) w4 := by rw [hz.1]; exact HST4.o
  have hB5 := HB4.o;go_upto_region 6 with (fail);obtain ⟨w5, h5⟩ : ∃ z, w4 = z := ⟨_, rfl⟩;rw [h5] at hB5 hS5 ⊢;clear h5 tk hz
 all_goals (
  have HB5 := zh hB5;have HS5 := zh hS5;have HV5 := zh (hB5.ev HV.o);clear hB5 hS5;clear c0 fc0 c1 c2 c3 c4;obtain ⟨iS, hiS, hz0, hz1, hz2⟩ := info_parts Zjn;go_wp2_with fail
  go_loopw [8, 9] (fun ov iv wr => ∃ j : Nat, j ≤ c.kids.length ∧ iv = .int .i64 j ∧ Zz Zbe 6 Z7 (fun y => w5.heap.size ≤ y) wr (Zch E.u E.L n c m j) ov ∧ Tn (fun b => b = LB) w5 wr ∧ LwS E G AL kl LB (cs + Zbu c.kind + Za3 (c.kids.take j)) wr) (fun _ iv _ => c.kids.length - (intOf iv).toNat)
  case atStart =>
   refine ⟨0, Nat.zero_le _, rfl, ?_, Tn.later ((Zb.refl _).alloc _), ?_⟩
   ·exact ⟨_, _, rfl, Nat.le_refl _, Nat.zero_le _, fun h => by simp at h⟩
   ·simpa [Za3] using HS5.o.later ((Zb.refl _).alloc _)
  case round =>
   obtain ⟨j, hj, rfl, hrow, htn, hst⟩ := hrel;have HBr := zh (HB5.o.lb htn);have HTN := zh htn;have HST := zh hst;have hrow := hrow.trim Zs;have HROW := zh hrow;obtain ⟨Ao, co, rfl, -⟩ := id hrow;have HKJ := zh (Zdj E.u E.L n c m j);clear htn hst hrow;obtain ⟨c0, c1, c2, c3, c4⟩ := Z1 HBr.o.eb;have fc0 := fz HBr.o.eb
   by_cases hlt : j < c.kids.length
   ·have hlt' : (j : Int) < (c.kids.length : Int) := by omega
    obtain ⟨n', rfl⟩ := HV.o.lev hlt;obtain ⟨kb, ko, Bk, q, eA, hca⟩ := (HBr.o.ev HV.o).kid hlt;cases eA;have hlc := HLC.o.kid hlt;have hsn := Zcy c.kids j hlt;obtain ⟨x, hx⟩ : ∃ z, z = c.kids[j] := ⟨_, rfl⟩;rw [← hx] at hca hlc hsn;have HX := zh hx;have HCA := zh hca;have HLX := zh hlc;have HSN := zh hsn;have d0 := hca.c0;have d1 := hca.c1;have d2 := hca.c2;have d3 := hca.c3;have d4 := hca.c4;clear hca hx hlc hsn;obtain ⟨M, hM⟩ : ∃ z, z = Zch E.u E.L (n' + 1) c m j := ⟨_, rfl⟩;rw [← hM] at HROW HKJ;rw [← hM];have HMM := zh hM;clear hM;go_wp2_with fail;refine (IH n' rfl E G AL kl LB _ wr x Bk q HST.o (fun b hb => by have := HLG.o b hb; have := HBr.o.tn.size; omega) HOK.o HCA.o.ev HLX.o).mono ?_;rintro e w2 hp;obtain ⟨v, rfl, hcv⟩ := hp.o;obtain ⟨Av, qv, rfl, -, -⟩ := hcv.form;have HT2 := zh (HTN.o.tr hp.tn);have HS2 := zh hp.st;have HTX := zh hp.tn;obtain ⟨D, hD⟩ : ∃ z, z = low E.u E.L (n' + 1) x ((E.L.length + (cs + Zbu c.kind + Za3 (c.kids.take j)) : Nat) : Int) := ⟨_, rfl⟩;rw [← hD] at hcv;rw [← hD];have HCC := zh hD;have HCV := zh hcv;unfold Zf.val;clear hp hcv hD d0 d1 d2 d3 d4 c0 fc0 c1 c2 c3 c4;have hX2 : Zb w2 (w2.alloc (.cells (D.cells (.slice Av D.kids.length qv)).toArray Z7)) := (Zb.refl _).alloc _;have HX2 := zh hX2;have HROW2 := zh ((HROW.o.keep Zs.is (fun _ h => h) (HTX.o.keeps fun b hb => by have := hb.1; have := Za HW.o.blk; have := HB5.o.tn.size; omega)).later Zs.is hX2);have HEL := zh (HCV.o.later hX2).cor;have HNO := zh (show ∀ y, wr.heap.size ≤ y → ¬ (w5.heap.size ≤ y ∧ y < wr.heap.size) from fun y h1 h2 => by omega)
    clear hX2;have hml : M.length ≤ 134217728 := by have := HKJ.o; have := HLC.o.len; omega
    go_wp2_with (at_builtin; refine Za4 Zs rfl _ _ 66 rfl Z7 iS (.agg #[.int .i64 0, .int .i64 0, .int .i64 0, .int .i64 0, .string ⟨#[]⟩, .slice none 0 0]) 72 Tryz.underlying66 hiS hz0 hz1 hz2 rfl rfl HROW2.o ⟨w2.heap.size, 0, none⟩ 1 rfl D (D.cells (.slice Av D.kids.length qv)) (Zg5 w2 _ Z7) (D.one _ _ _) HEL.o HNO.o hml (by decide) ?_; intro v2 Y hrow hkp hb0; have HRW := zh hrow; have HKP := zh (Tn.mk (P := fun y => w5.heap.size ≤ y ∧ y < wr.heap.size) hkp hb0); clear hrow hkp hb0)
    go_roundw
    case rel =>
     have hlt3 := Za HW.o.blk;have hlt4 := HB5.o.tn.size;refine ⟨j + 1, by omega, by go_num, ?_, ?_, ?_⟩
     ·rw [Zjj, Zcr hlt, ← HX.o, ← HMM.o];have e : low E.u E.L (n' + 1) x (Zji c m j) = D := by rw [HCC.o]; unfold Zji; rw [HM.o]; congr 1; push_cast; omega
      rw [e];have q1 := HTN.o.size; have q3 := HT2.o.size; have q4 := HX2.o.size;exact HRW.o.keep Zs.is (fun y hy => by
       rcases hy with h | h | h
       ·exact h.1
       ·exact Nat.le_trans q1 h
       ·exact Nat.le_trans (Nat.le_trans q3 q4) (Nat.le_of_eq h.symm)) (Zc.refl _ _)
     ·exact (Tn.tr HT2.o (Tn.later HX2.o)).trans HKP.o (fun _ h => h) (fun b hb hq => by omega)
     ·have h := (HS2.o.later HX2.o).keep HKP.o (fun b hb => ⟨by omega, fun hF => by have := HW.o.un.flt b hF; omega, fun hG => by have := HLG.o b hG; omega⟩);rw [HSN.o];exact (show cs + Zbu c.kind + Za3 (c.kids.take j) + csX x = cs + Zbu c.kind + (Za3 (c.kids.take j) + csX x) by omega) ▸ h
    case measure => simp [intOf]; omega
   ·obtain rfl : j = c.kids.length := by omega
    have HS6 := zh (show LwS E G AL kl LB (cs + csX c) wr from (by rw [List.take_length, Zg3]; omega : cs + Zbu c.kind + Za3 (c.kids.take c.kids.length) = cs + csX c) ▸ HST.o);rw [← HK.o] at HROW HKJ ⊢;have HROW6 := zh (show Zz Zbe 6 Z7 (Iv w5.heap.size wr.heap.size) wr K (.slice Ao K.length co) from HROW.o.keep Zs.is (fun y hy => hy) (Zc.refl _ _));obtain ⟨D0, D1, A0, A1, q0, q1, K0, K1, hkd⟩ := Kd.of (line := c.line) HROW6.o HC64.o;have HKD := zh hkd;clear hkd;have hway : (K.length = 0) ∨ (K.length = 1) ∨ (1 < K.length) := by omega
    go_upto_region 11 with (fail);clear c0 fc0 c1 c2 c3 c4
    rcases hway with h | h | h
    case' inl => (
     have hu1 : wr.heap[UB]? = some (.cells #[.int .i64 D1.kind, .int .i64 D1.op, .int .i64 D1.aB, .int .i64 D1.line, .string D1.text, .slice A1 D1.kids.length q1] Z7 (0, 0)) := by obtain ⟨e1, e2, e3⟩ := HKD.o.n1 (by omega); rw [e1, e2, e3]; exact HBr.o.ub
     have HU1 := zh hu1;clear hu1;have hu0 : wr.heap[UB]? = some (.cells #[.int .i64 D0.kind, .int .i64 D0.op, .int .i64 D0.aB, .int .i64 D0.line, .string D0.text, .slice A0 D0.kids.length q0] Z7 (0, 0)) := by obtain ⟨e1, e2, e3⟩ := HKD.o.n0 (by omega); rw [e1, e2, e3]; exact HBr.o.ub
     have HU0 := zh hu0;clear hu0;have t1 : decide ((1 : Int) < (K.length : Int)) = false := nU (by omega);have t0 : decide (0 < K.length) = false := nU (by omega);clear h;have u0 := cz6 HU1.o;have fu0 := fz HU1.o;go_upto_region 14 with (fail);obtain ⟨w7, FB, hl, hn, h1, h2⟩ := al wr (.cells #[.int .i64 D1.kind, .int .i64 D1.op, .int .i64 D1.aB, .int .i64 D1.line, .string D1.text, .slice A1 D1.kids.length q1] Z7);rw [h1, h2];have HFB := zh hn;have HFBE := zh h2;have HL7 := zh hl;clear hl hn h1 h2;clear t1 u0 fu0;have HU7 := zB HL7 HU0;have u0 := cz6 HU7.o;have fu0 := fz HU7.o;go_upto_region 17 with (fail);obtain ⟨w8, GB, hl, hn, h1, h2⟩ := al w7 (.cells #[.int .i64 D0.kind, .int .i64 D0.op, .int .i64 D0.aB, .int .i64 D0.line, .string D0.text, .slice A0 D0.kids.length q0] Z7);rw [h1, h2];have HGB := zh hn;have HGBE := zh h2;have HL8 := zh hl;clear hl hn h1 h2;clear t0 u0 fu0
    )
    case' inr.inl => (
     have hu1 : wr.heap[UB]? = some (.cells #[.int .i64 D1.kind, .int .i64 D1.op, .int .i64 D1.aB, .int .i64 D1.line, .string D1.text, .slice A1 D1.kids.length q1] Z7 (0, 0)) := by obtain ⟨e1, e2, e3⟩ := HKD.o.n1 (by omega); rw [e1, e2, e3]; exact HBr.o.ub
     have HU1 := zh hu1;clear hu1;have HU0 := zh HBr.o.ub;have t1 : decide ((1 : Int) < (K.length : Int)) = false := nU (by omega);have t0 : decide (0 < K.length) = true := nT (by omega);obtain ⟨b, cur, rfl, hkb0, hkc0⟩ := HKD.o.p0 (by omega);have hlz : 0 < K.length := by omega
     clear h;have hk0 : ∀ x, Zb wr x → x.cell? ⟨b, 0, none⟩ = some (.int .i64 D0.kind) ∧ x.cell? ⟨b, 0 + 1, none⟩ = some (.int .i64 D0.op) ∧ x.cell? ⟨b, 0 + 2, none⟩ = some (.int .i64 D0.aB) ∧ x.cell? ⟨b, 0 + 3, none⟩ = some (.int .i64 D0.line) ∧ x.cell? ⟨b, 0 + 4, none⟩ = some (.string D0.text) ∧ x.cell? ⟨b, 0 + 5, none⟩ = some (.slice A0 D0.kids.length q0) := fun x hl => Zbl (i := 0) ((hl.block _ (Za hkb0)).trans hkb0) hkc0;clear hkb0 hkc0;have HK0B := zh hk0;clear hk0;have u0 := cz6 HU1.o;have fu0 := fz HU1.o;go_upto_region 14 with (fail);obtain ⟨w7, FB, hl, hn, h1, h2⟩ := al wr (.cells #[.int .i64 D1.kind, .int .i64 D1.op, .int .i64 D1.aB, .int .i64 D1.line, .string D1.text, .slice A1 D1.kids.length q1] Z7);rw [h1, h2];have HFB := zh hn;have HFBE := zh h2;have HL7 := zh hl;clear hl hn h1 h2;clear t1 u0 fu0;have HU7 := zB HL7 HU0;have u0 := cz6 HU7.o;have fu0 := fz HU7.o;go_upto_region 15 with (fail);obtain ⟨x0, GB, hl, hn, h1, h2⟩ := al w7 (.cells #[.int .i64 4, .int .i64 0, .int .i64 0, .int .i64 c.line, .string ⟨#[]⟩, .slice none 0 0] Z7);rw [h1, h2];have HX0 := zh hn;have HX0E := zh h2;have HY0 := zh hl;clear hl hn h1 h2;clear u0 fu0;obtain ⟨k00, k01, k02, k03, k04, k05⟩ := HK0B.o _ (HL7.o.trans HY0.o);simp only [Nat.reduceAdd, Nat.reduceMul] at k00 k01 k02 k03 k04 k05;obtain ⟨s0, s1, s2, s3, s4, s5⟩ := cz6 HX0.o;have fs0 := fz HX0.o;go_upto_region 17 with (fail);have hp := Zwe HX0.o rfl (.int .i64 D0.kind) (.int .i64 D0.op) (.int .i64 D0.aB) (.int .i64 D0.line) (.string D0.text) (.slice A0 D0.kids.length q0)
     have hl : Zb w7 ((((((x0.setCell ⟨GB, 0, none⟩ (.int .i64 D0.kind)).setCell ⟨GB, 1, none⟩ (.int .i64 D0.op)).setCell ⟨GB, 2, none⟩ (.int .i64 D0.aB)).setCell ⟨GB, 3, none⟩ (.int .i64 D0.line)).setCell ⟨GB, 4, none⟩ (.string D0.text)).setCell ⟨GB, 5, none⟩ (.slice A0 D0.kids.length q0)) := (((((HY0.o.setCell (p := ⟨GB, 0, none⟩) (Nat.le_of_eq HX0E.o) (.int .i64 D0.kind)).setCell (p := ⟨GB, 1, none⟩) (Nat.le_of_eq HX0E.o) (.int .i64 D0.op)).setCell (p := ⟨GB, 2, none⟩) (Nat.le_of_eq HX0E.o) (.int .i64 D0.aB)).setCell (p := ⟨GB, 3, none⟩) (Nat.le_of_eq HX0E.o) (.int .i64 D0.line)).setCell (p := ⟨GB, 4, none⟩) (Nat.le_of_eq HX0E.o) (.string D0.text)).setCell (p := ⟨GB, 5, none⟩) (Nat.le_of_eq HX0E.o) (.slice A0 D0.kids.length q0);obtain ⟨w8, h1⟩ : ∃ z, ((((((x0.setCell ⟨GB, 0, none⟩ (.int .i64 D0.kind)).setCell ⟨GB, 1, none⟩ (.int .i64 D0.op)).setCell ⟨GB, 2, none⟩ (.int .i64 D0.aB)).setCell ⟨GB, 3, none⟩ (.int .i64 D0.line)).setCell ⟨GB, 4, none⟩ (.string D0.text)).setCell ⟨GB, 5, none⟩ (.slice A0 D0.kids.length q0)) = z := ⟨_, rfl⟩;rw [h1] at hp hl ⊢;have HGB := zh hp;have HGBE := HX0E;have HL8 := zh hl;clear hp hl h1 t0 s0 fs0 s1 s2 s3 s4 s5 k00 k01 k02 k03 k04 k05;obtain ⟨Ao, hAo⟩ : ∃ z, z = some (⟨b, 0, none⟩ : Addr) := ⟨_, rfl⟩;rw [← hAo] at HKD HROW6 ⊢;clear hAo
    )
    case' inr.inr => (
     have HU1 := zh HBr.o.ub;have HU0 := zh HBr.o.ub;have t1 : decide ((1 : Int) < (K.length : Int)) = true := nT (by omega);have t0 : decide (0 < K.length) = true := nT (by omega);obtain ⟨b, cur, rfl, hkb0, hkc0⟩ := HKD.o.p0 (by omega);obtain ⟨b', cur', eb, hkb1, hkc1⟩ := HKD.o.p1 (by omega);cases eb;have hlk : (1 : Int) < (K.length : Int) := by omega
     have hlz : 0 < K.length := by omega
     clear h;have hk0 : ∀ x, Zb wr x → x.cell? ⟨b, 0, none⟩ = some (.int .i64 D0.kind) ∧ x.cell? ⟨b, 0 + 1, none⟩ = some (.int .i64 D0.op) ∧ x.cell? ⟨b, 0 + 2, none⟩ = some (.int .i64 D0.aB) ∧ x.cell? ⟨b, 0 + 3, none⟩ = some (.int .i64 D0.line) ∧ x.cell? ⟨b, 0 + 4, none⟩ = some (.string D0.text) ∧ x.cell? ⟨b, 0 + 5, none⟩ = some (.slice A0 D0.kids.length q0) := fun x hl => Zbl (i := 0) ((hl.block _ (Za hkb0)).trans hkb0) hkc0;clear hkb0 hkc0;have HK0B := zh hk0;clear hk0;have hk1 : ∀ x, Zb wr x → x.cell? ⟨b, 6, none⟩ = some (.int .i64 D1.kind) ∧ x.cell? ⟨b, 6 + 1, none⟩ = some (.int .i64 D1.op) ∧ x.cell? ⟨b, 6 + 2, none⟩ = some (.int .i64 D1.aB) ∧ x.cell? ⟨b, 6 + 3, none⟩ = some (.int .i64 D1.line) ∧ x.cell? ⟨b, 6 + 4, none⟩ = some (.string D1.text) ∧ x.cell? ⟨b, 6 + 5, none⟩ = some (.slice A1 D1.kids.length q1) := fun x hl => Zbl (i := 1) ((hl.block _ (Za hkb1)).trans hkb1) hkc1;clear hkb1 hkc1;have HK1B := zh hk1;clear hk1;have u0 := cz6 HU1.o;have fu0 := fz HU1.o;go_upto_region 12 with (fail);obtain ⟨x1, FB, hl, hn, h1, h2⟩ := al wr (.cells #[.int .i64 4, .int .i64 0, .int .i64 0, .int .i64 c.line, .string ⟨#[]⟩, .slice none 0 0] Z7);rw [h1, h2];have HX1 := zh hn;have HX1E := zh h2;have HY1 := zh hl;clear hl hn h1 h2;clear u0 fu0;obtain ⟨k10, k11, k12, k13, k14, k15⟩ := HK1B.o _ HY1.o;simp only [Nat.reduceAdd, Nat.reduceMul] at k10 k11 k12 k13 k14 k15;obtain ⟨s0, s1, s2, s3, s4, s5⟩ := cz6 HX1.o
     have fs0 := fz HX1.o;go_upto_region 14 with (fail);have hp := Zwe HX1.o rfl (.int .i64 D1.kind) (.int .i64 D1.op) (.int .i64 D1.aB) (.int .i64 D1.line) (.string D1.text) (.slice A1 D1.kids.length q1);have hl : Zb wr ((((((x1.setCell ⟨FB, 0, none⟩ (.int .i64 D1.kind)).setCell ⟨FB, 1, none⟩ (.int .i64 D1.op)).setCell ⟨FB, 2, none⟩ (.int .i64 D1.aB)).setCell ⟨FB, 3, none⟩ (.int .i64 D1.line)).setCell ⟨FB, 4, none⟩ (.string D1.text)).setCell ⟨FB, 5, none⟩ (.slice A1 D1.kids.length q1)) := (((((HY1.o.setCell (p := ⟨FB, 0, none⟩) (Nat.le_of_eq HX1E.o) (.int .i64 D1.kind)).setCell (p := ⟨FB, 1, none⟩) (Nat.le_of_eq HX1E.o) (.int .i64 D1.op)).setCell (p := ⟨FB, 2, none⟩) (Nat.le_of_eq HX1E.o) (.int .i64 D1.aB)).setCell (p := ⟨FB, 3, none⟩) (Nat.le_of_eq HX1E.o) (.int .i64 D1.line)).setCell (p := ⟨FB, 4, none⟩) (Nat.le_of_eq HX1E.o) (.string D1.text)).setCell (p := ⟨FB, 5, none⟩) (Nat.le_of_eq HX1E.o) (.slice A1 D1.kids.length q1);obtain ⟨w7, h1⟩ : ∃ z, ((((((x1.setCell ⟨FB, 0, none⟩ (.int .i64 D1.kind)).setCell ⟨FB, 1, none⟩ (.int .i64 D1.op)).setCell ⟨FB, 2, none⟩ (.int .i64 D1.aB)).setCell ⟨FB, 3, none⟩ (.int .i64 D1.line)).setCell ⟨FB, 4, none⟩ (.string D1.text)).setCell ⟨FB, 5, none⟩ (.slice A1 D1.kids.length q1)) = z := ⟨_, rfl⟩;rw [h1] at hp hl ⊢;have HFB := zh hp;have HFBE := HX1E;have HL7 := zh hl;clear hp hl h1 t1 s0 fs0 s1 s2 s3 s4 s5 k10 k11 k12 k13 k14 k15;have HU7 := zB HL7 HU0;have u0 := cz6 HU7.o;have fu0 := fz HU7.o
     go_upto_region 15 with (fail);obtain ⟨x0, GB, hl, hn, h1, h2⟩ := al w7 (.cells #[.int .i64 4, .int .i64 0, .int .i64 0, .int .i64 c.line, .string ⟨#[]⟩, .slice none 0 0] Z7);rw [h1, h2];have HX0 := zh hn;have HX0E := zh h2;have HY0 := zh hl;clear hl hn h1 h2;clear u0 fu0;obtain ⟨k00, k01, k02, k03, k04, k05⟩ := HK0B.o _ (HL7.o.trans HY0.o);simp only [Nat.reduceAdd, Nat.reduceMul] at k00 k01 k02 k03 k04 k05;obtain ⟨s0, s1, s2, s3, s4, s5⟩ := cz6 HX0.o;have fs0 := fz HX0.o;go_upto_region 17 with (fail);have hp := Zwe HX0.o rfl (.int .i64 D0.kind) (.int .i64 D0.op) (.int .i64 D0.aB) (.int .i64 D0.line) (.string D0.text) (.slice A0 D0.kids.length q0);have hl : Zb w7 ((((((x0.setCell ⟨GB, 0, none⟩ (.int .i64 D0.kind)).setCell ⟨GB, 1, none⟩ (.int .i64 D0.op)).setCell ⟨GB, 2, none⟩ (.int .i64 D0.aB)).setCell ⟨GB, 3, none⟩ (.int .i64 D0.line)).setCell ⟨GB, 4, none⟩ (.string D0.text)).setCell ⟨GB, 5, none⟩ (.slice A0 D0.kids.length q0)) := (((((HY0.o.setCell (p := ⟨GB, 0, none⟩) (Nat.le_of_eq HX0E.o) (.int .i64 D0.kind)).setCell (p := ⟨GB, 1, none⟩) (Nat.le_of_eq HX0E.o) (.int .i64 D0.op)).setCell (p := ⟨GB, 2, none⟩) (Nat.le_of_eq HX0E.o) (.int .i64 D0.aB)).setCell (p := ⟨GB, 3, none⟩) (Nat.le_of_eq HX0E.o) (.int .i64 D0.line)).setCell (p := ⟨GB, 4, none⟩) (Nat.le_of_eq HX0E.o) (.string D0.text)).setCell (p := ⟨GB, 5, none⟩) (Nat.le_of_eq HX0E.o) (.slice A0 D0.kids.length q0);obtain ⟨w8, h1⟩ : ∃ z, ((((((x0.setCell ⟨GB, 0, none⟩ (.int .i64 D0.kind)).setCell ⟨GB, 1, none⟩ (.int .i64 D0.op)).setCell ⟨GB, 2, none⟩ (.int .i64 D0.aB)).setCell ⟨GB, 3, none⟩ (.int .i64 D0.line)).setCell ⟨GB, 4, none⟩ (.string D0.text)).setCell ⟨GB, 5, none⟩ (.slice A0 D0.kids.length q0)) = z := ⟨_, rfl⟩
     rw [h1] at hp hl ⊢;have HGB := zh hp;have HGBE := HX0E;have HL8 := zh hl;clear hp hl h1 t0 s0 fs0 s1 s2 s3 s4 s5 k00 k01 k02 k03 k04 k05;obtain ⟨Ao, hAo⟩ : ∃ z, z = some (⟨b, 0, none⟩ : Addr) := ⟨_, rfl⟩;rw [← hAo] at HKD HROW6 ⊢;clear hAo
    )
    all_goals (
     have HB8 := zh (HBr.o.later (HL7.o.trans HL8.o));obtain ⟨c0, c1, c2, c3, c4⟩ := Z1 HB8.o.eb;have fc0 := fz HB8.o.eb;obtain ⟨g0, g1, g2, g3, g4, g5⟩ := cz6 HGB.o;have fg0 := fz HGB.o;go_upto_region 18 with (fail);have hn1 := heap_alloc_new w8 (.cells #[.int .i64 D0.kind, .int .i64 D0.op, .int .i64 D0.aB, .int .i64 D0.line, .string D0.text, .slice A0 D0.kids.length q0] Z7);obtain ⟨RO, h2⟩ : ∃ z, w8.heap.size = z := ⟨_, rfl⟩;rw [h2] at hn1 ⊢;have hl : Zb w8 ((w8.alloc (.cells #[.int .i64 D0.kind, .int .i64 D0.op, .int .i64 D0.aB, .int .i64 D0.line, .string D0.text, .slice A0 D0.kids.length q0] Z7)).alloc (.cells #[.int .i64 0, .int .i64 0, .int .i64 0, .int .i64 c.line, .string ⟨#[]⟩, .slice (some ⟨RO, 0, none⟩) 1 1] Z7)) := ((Zb.refl _).alloc _).alloc _;obtain ⟨w9, h1⟩ : ∃ z, w8.alloc (.cells #[.int .i64 D0.kind, .int .i64 D0.op, .int .i64 D0.aB, .int .i64 D0.line, .string D0.text, .slice A0 D0.kids.length q0] Z7) = z := ⟨_, rfl⟩;have hs : w9.heap.size = RO + 1 := by rw [← h1, ← h2]; simp
     rw [h1] at hn1 hl ⊢;have hn3 := (((Zb.refl w9).alloc (.cells #[.int .i64 0, .int .i64 0, .int .i64 0, .int .i64 c.line, .string ⟨#[]⟩, .slice (some ⟨RO, 0, none⟩) 1 1] Z7)).block _ (Za hn1)).trans hn1;have hn2 := heap_alloc_new w9 (.cells #[.int .i64 0, .int .i64 0, .int .i64 0, .int .i64 c.line, .string ⟨#[]⟩, .slice (some ⟨RO, 0, none⟩) 1 1] Z7);rw [hs] at hn2;obtain ⟨w10, h3⟩ : ∃ z, w9.alloc (.cells #[.int .i64 0, .int .i64 0, .int .i64 0, .int .i64 c.line, .string ⟨#[]⟩, .slice (some ⟨RO, 0, none⟩) 1 1] Z7) = z := ⟨_, rfl⟩;rw [h3] at hn2 hn3 hl ⊢;have HRO := zh hn3;have HOB := zh hn2;have HROE := zh h2;have HL810 := zh hl;clear hn1 hn2 hn3 hl h1 h2 h3 hs;clear c0 fc0 c1 c2 c3 c4;clear g0 fg0 g1 g2 g3 g4 g5;have HB10 := zh (HB8.o.later HL810.o);have HG10 := zB HL810 HGB;have HF10 := zh (((HL8.o.trans HL810.o).block _ (Za HFB.o)).trans HFB.o);obtain ⟨c0, c1, c2, c3, c4⟩ := Z1 HB10.o.eb;have fc0 := fz HB10.o.eb;obtain ⟨g0, g1, g2, g3, g4, g5⟩ := cz6 HG10.o;have fg0 := fz HG10.o;obtain ⟨s0, s1, s2, s3, s4, s5⟩ := cz6 HF10.o;have fs0 := fz HF10.o;go_upto_region 19 with (fail);have hn1 := heap_alloc_new w10 (.cells #[.int .i64 D0.kind, .int .i64 D0.op, .int .i64 D0.aB, .int .i64 D0.line, .string D0.text, .slice A0 D0.kids.length q0, .int .i64 D1.kind, .int .i64 D1.op, .int .i64 D1.aB, .int .i64 D1.line, .string D1.text, .slice A1 D1.kids.length q1] Z7);obtain ⟨RT, h2⟩ : ∃ z, w10.heap.size = z := ⟨_, rfl⟩;rw [h2] at hn1 ⊢;have hl : Zb w10 ((w10.alloc (.cells #[.int .i64 D0.kind, .int .i64 D0.op, .int .i64 D0.aB, .int .i64 D0.line, .string D0.text, .slice A0 D0.kids.length q0, .int .i64 D1.kind, .int .i64 D1.op, .int .i64 D1.aB, .int .i64 D1.line, .string D1.text, .slice A1 D1.kids.length q1] Z7)).alloc (.cells #[.int .i64 0, .int .i64 0, .int .i64 0, .int .i64 c.line, .string ⟨#[]⟩, .slice (some ⟨RT, 0, none⟩) 2 2] Z7)) := ((Zb.refl _).alloc _).alloc _
     obtain ⟨w11, h1⟩ : ∃ z, w10.alloc (.cells #[.int .i64 D0.kind, .int .i64 D0.op, .int .i64 D0.aB, .int .i64 D0.line, .string D0.text, .slice A0 D0.kids.length q0, .int .i64 D1.kind, .int .i64 D1.op, .int .i64 D1.aB, .int .i64 D1.line, .string D1.text, .slice A1 D1.kids.length q1] Z7) = z := ⟨_, rfl⟩;have hs : w11.heap.size = RT + 1 := by rw [← h1, ← h2]; simp
     rw [h1] at hn1 hl ⊢;have hn3 := (((Zb.refl w11).alloc (.cells #[.int .i64 0, .int .i64 0, .int .i64 0, .int .i64 c.line, .string ⟨#[]⟩, .slice (some ⟨RT, 0, none⟩) 2 2] Z7)).block _ (Za hn1)).trans hn1;have hn2 := heap_alloc_new w11 (.cells #[.int .i64 0, .int .i64 0, .int .i64 0, .int .i64 c.line, .string ⟨#[]⟩, .slice (some ⟨RT, 0, none⟩) 2 2] Z7);rw [hs] at hn2;obtain ⟨w12, h3⟩ : ∃ z, w11.alloc (.cells #[.int .i64 0, .int .i64 0, .int .i64 0, .int .i64 c.line, .string ⟨#[]⟩, .slice (some ⟨RT, 0, none⟩) 2 2] Z7) = z := ⟨_, rfl⟩;rw [h3] at hn2 hn3 hl ⊢;have HRT := zh hn3;have HTB := zh hn2;have HRTE := zh h2;have HL1012 := zh hl;clear hn1 hn2 hn3 hl h1 h2 h3 hs;clear c0 fc0 c1 c2 c3 c4;clear g0 fg0 g1 g2 g3 g4 g5 s0 fs0 s1 s2 s3 s4 s5;have HB12 := zh (HB10.o.later HL1012.o);obtain ⟨c0, c1, c2, c3, c4⟩ := Z1 HB12.o.eb;have fc0 := fz HB12.o.eb
     go_upto_block 2 with (fail)
     clear c0 fc0 c1 c2 c3 c4;refine @Zfk _ shSw _ _ _ _ _ _ (Zvk n E G AL kl LB cs c A k EB RB UB NB SB m K Ao co w5.heap.size wr.heap.size FB GB RO RT D0 D1 A0 A1 q0 q1 K0 K1 w w12 C undef undef undef (zh ?_) HLC HOK HC64 HN64 HTX HM HKL HC (zh ?_)) ?_ ?_
     ·have hF := HFBE.o;have hG := HGBE.o;have hO := HROE.o;have hT := HRTE.o;have l7 := HL7.o.size;have l8 := HL8.o.size;have l10 := Za HOB.o;have l7b := Za HFB.o;have l8b := Za HGB.o;have h5 := HTN.o.size;have g := HB5.o;have g1 := Za g.eb;have g2 := Za g.rb;have g3 := Za g.ub;have g4 := Za g.nb;have g5 := Za g.sb;have g6 := Za HS5.o.blk;have g7 := g.tn.size;have hla : Zb wr w12 := HL7.o.trans (HL8.o.trans (HL810.o.trans HL1012.o));exact ⟨HB12.o, ⟨g1, g2, g3, g4, g5, g6, g7⟩, HS6.o.later hla, HROW6.o.later Zs.is hla, HKD.o.later hla, (HL1012.o.block _ (Za HF10.o)).trans HF10.o, (HL1012.o.block _ (Za HG10.o)).trans HG10.o, (HL1012.o.block _ (Za HRO.o)).trans HRO.o, (HL1012.o.block _ (Za HOB.o)).trans HOB.o, HRT.o, HTB.o, ⟨h5, by omega, by omega, by omega, by omega⟩⟩
     ·exact Zf1.mk' rfl rfl rfl rfl rfl rfl rfl rfl rfl rfl rfl rfl rfl rfl rfl rfl
     ·rintro a' y ⟨⟨v15, v17, v18, hf⟩, hy, hcc⟩;obtain rfl : w12 = y := hy.symm;obtain ⟨fr, rfl⟩ := hf.opn;clear hf;go_upto_region 116 with (fail);obtain ⟨c0, c1, c2, c3, c4⟩ := Z1 HB12.o.eb;have fc0 := fz HB12.o.eb;go_wp2_with fail;refine (Zc5 73 c.line Ao K.length co w12).mono ?_;rintro e y ⟨rfl, hb⟩;have HLy := zh (show Zb w12 y from hb);clear hb c0 fc0 c1 c2 c3 c4;have e1 := (HB12.o.later HLy.o).rb;have r0 := cz6 e1;have fr0 := fz e1;clear e1;go_wp2_with fail;have hla : Zb wr y := HL7.o.trans (HL8.o.trans (HL810.o.trans (HL1012.o.trans HLy.o)));exact LoR.post Tryz.results55 (by rfl) (hcc ▸ (HB12.o.later HLy.o).put (HS6.o.later hla) (CV.co (op := 73) (HROW6.o.later Zs.is hla) (by decide) (by decide) HC64.o) (fun b hb => by have := hb.1; have := HB5.o.tn.size; have := Za HB5.o.rb; omega)) HGE.o.2.1
     ·rintro a' y ⟨hf, hr⟩;obtain ⟨fr, rfl⟩ := hf.opn;exact LoR.post Tryz.results55 (by rfl) hr HGE.o.2.1
    )
 )
theorem Zlw : ∀ n, Zya n
 | 0 => Zlv 0 fun m h => by cases h
 | n + 1 => Zlv (n + 1) fun m h => by injection h with h; exact h ▸ Zlw n
theorem Zns (seen : List ByteArray) (s : ByteArray) : tkB seen s = Zbm (Zav Zd0 ++ seen) s := by
 unfold tkB fnN;rw [Zdp, Bool.eq_iff_iff, Bool.or_eq_true, Zdz, Zdz, Zdz, List.mem_append]
def Ztb (q : Zag) : Bool := (q.name.toList == [109, 97, 105, 110]) && ((q.params.length : Int) == 0)
theorem Zph (q : Zag) : Ztb q = true ↔ (bl q.name = [109, 97, 105, 110] ∧ q.params = []) := by
 unfold Ztb;rw [Bool.and_eq_true, beq_iff_eq, beq_iff_eq, Zas];simp
theorem Zxp (l : List Zag) : l.any Ztb = true ↔ ∃ i, ∃ h : i < l.length, bl l[i].name = [109, 97, 105, 110] ∧ l[i].params = [] := by
 rw [List.any_eq_true]
 constructor
 ·rintro ⟨q, hq, h⟩;obtain ⟨i, hi, rfl⟩ := List.getElem_of_mem hq;exact ⟨i, hi, (Zph _).1 h⟩
 ·rintro ⟨i, hi, h⟩;exact ⟨_, List.getElem_mem hi, (Zph _).2 h⟩
theorem Zlx : (Zav Zd0).length = 55 := by simp [Zav]; rfl
theorem Ztc {w0 w : World} (h : w0.heap.size ≤ w.heap.size) : Zax w0 (w.alloc (Zau Zd0)) (Zav Zd0) (.slice (some ⟨w.heap.size, 0, none⟩) 55 55) := by
 have hl : (Zav Zd0).length = 55 := by simp [Zav]; rfl
 refine ⟨⟨by simp, .inr ⟨w.heap.size, 55, _, by rw [hl], h, heap_alloc_new w _, by rw [hl]; exact Nat.le_refl _, by decide, ?_, ?_⟩⟩, fun s hs => ?_⟩
 ·simp; decide
 ·rw [List.take_of_length_le (by simp [Zav])];simp [Zav]
 ·obtain ⟨x, hx, rfl⟩ := List.mem_map.1 hs;have h2 : ∀ x ∈ Zd0, x.length ≤ 1000 := by decide +kernel
  have := h2 x hx;show x.toArray.size ≤ maxLen;simp only [List.size_toArray];unfold maxLen
  omega
section
def FwA (UB EB : Nat) (lv : Value) (lp md : Bool) (a : Act) : Prop := Fr 150 [(1, lv), (3, .bool lp), (4, .bool md), (5, .pointer (some ⟨UB, 0, none⟩)), (7, .pointer (some ⟨EB, 0, none⟩))] a
section
variable {UB EB : Nat} {lv : Value} {lp md : Bool} {a : Act}
theorem FwA.opn (h : FwA UB EB lv lp md a) : ∃ f : Nat → Value, a = ⟨#[f 0, lv, f 2, .bool lp, .bool md, .pointer (some ⟨UB, 0, none⟩), f 6, .pointer (some ⟨EB, 0, none⟩), f 8, f 9, f 10, f 11, f 12, f 13, f 14, f 15, f 16, f 17, f 18, f 19, f 20, f 21, f 22, f 23, f 24, f 25, f 26, f 27, f 28, f 29, f 30, f 31, f 32, f 33, f 34, f 35, f 36, f 37, f 38, f 39, f 40, f 41, f 42, f 43, f 44, f 45, f 46, f 47, f 48, f 49, f 50, f 51, f 52, f 53, f 54, f 55, f 56, f 57, f 58, f 59, f 60, f 61, f 62, f 63, f 64, f 65, f 66, f 67, f 68, f 69, f 70, f 71, f 72, f 73, f 74, f 75, f 76, f 77, f 78, f 79, f 80, f 81, f 82, f 83, f 84, f 85, f 86, f 87, f 88, f 89, f 90, f 91, f 92, f 93, f 94, f 95, f 96, f 97, f 98, f 99, f 100, f 101, f 102, f 103, f 104, f 105, f 106, f 107, f 108, f 109, f 110, f 111, f 112, f 113, f 114, f 115, f 116, f 117, f 118, f 119, f 120, f 121, f 122, f 123, f 124, f 125, f 126, f 127, f 128, f 129, f 130, f 131, f 132, f 133, f 134, f 135, f 136, f 137, f 138, f 139, f 140, f 141, f 142, f 143, f 144, f 145, f 146, f 147, f 148, f 149], []⟩ := by
 obtain ⟨f, e, hf⟩ := Fr.lit h;obtain ⟨h1, h3, h4, h5, h7, -⟩ := h.has;refine ⟨f, e.trans ?_⟩;have k1 := Zi h1 (hf 1 (by omega));have k3 := Zi h3 (hf 3 (by omega));have k4 := Zi h4 (hf 4 (by omega));have k5 := Zi h5 (hf 5 (by omega));have k7 := Zi h7 (hf 7 (by omega));rw [← k1];rw [← k3];rw [← k4];rw [← k5];rw [← k7]
 rfl
theorem FwA.mk' {A : Array Value} (hs : A.size = 150) (h1 : A[1]? = some (lv)) (h3 : A[3]? = some (.bool lp)) (h4 : A[4]? = some (.bool md)) (h5 : A[5]? = some (.pointer (some ⟨UB, 0, none⟩))) (h7 : A[7]? = some (.pointer (some ⟨EB, 0, none⟩))) : FwA UB EB lv lp md ⟨A, []⟩ := ⟨hs, rfl, h1, h3, h4, h5, h7, trivial⟩
end
def FwB (UB EB : Nat) (lv : Value) (lp md : Bool) (t : Bool) (a : Act) : Prop := Fr 150 [(1, lv), (3, .bool lp), (4, .bool md), (5, .pointer (some ⟨UB, 0, none⟩)), (7, .pointer (some ⟨EB, 0, none⟩)), (44, .bool t)] a
section
variable {UB EB : Nat} {lv : Value} {lp md : Bool} {t : Bool} {a : Act}
theorem FwB.opn (h : FwB UB EB lv lp md t a) : ∃ f : Nat → Value, a = ⟨#[f 0, lv, f 2, .bool lp, .bool md, .pointer (some ⟨UB, 0, none⟩), f 6, .pointer (some ⟨EB, 0, none⟩), f 8, f 9, f 10, f 11, f 12, f 13, f 14, f 15, f 16, f 17, f 18, f 19, f 20, f 21, f 22, f 23, f 24, f 25, f 26, f 27, f 28, f 29, f 30, f 31, f 32, f 33, f 34, f 35, f 36, f 37, f 38, f 39, f 40, f 41, f 42, f 43, .bool t, f 45, f 46, f 47, f 48, f 49, f 50, f 51, f 52, f 53, f 54, f 55, f 56, f 57, f 58, f 59, f 60, f 61, f 62, f 63, f 64, f 65, f 66, f 67, f 68, f 69, f 70, f 71, f 72, f 73, f 74, f 75, f 76, f 77, f 78, f 79, f 80, f 81, f 82, f 83, f 84, f 85, f 86, f 87, f 88, f 89, f 90, f 91, f 92, f 93, f 94, f 95, f 96, f 97, f 98, f 99, f 100, f 101, f 102, f 103, f 104, f 105, f 106, f 107, f 108, f 109, f 110, f 111, f 112, f 113, f 114, f 115, f 116, f 117, f 118, f 119, f 120, f 121, f 122, f 123, f 124, f 125, f 126, f 127, f 128, f 129, f 130, f 131, f 132, f 133, f 134, f 135, f 136, f 137, f 138, f 139, f 140, f 141, f 142, f 143, f 144, f 145, f 146, f 147, f 148, f 149], []⟩ := by
 obtain ⟨f, e, hf⟩ := Fr.lit h;obtain ⟨h1, h3, h4, h5, h7, h44, -⟩ := h.has;refine ⟨f, e.trans ?_⟩;have k1 := Zi h1 (hf 1 (by omega));have k3 := Zi h3 (hf 3 (by omega));have k4 := Zi h4 (hf 4 (by omega));have k5 := Zi h5 (hf 5 (by omega));have k7 := Zi h7 (hf 7 (by omega));have k44 := Zi h44 (hf 44 (by omega));rw [← k1];rw [← k3];rw [← k4];rw [← k5];rw [← k7];rw [← k44]
 rfl
theorem FwB.mk' {A : Array Value} (hs : A.size = 150) (h1 : A[1]? = some (lv)) (h3 : A[3]? = some (.bool lp)) (h4 : A[4]? = some (.bool md)) (h5 : A[5]? = some (.pointer (some ⟨UB, 0, none⟩))) (h7 : A[7]? = some (.pointer (some ⟨EB, 0, none⟩))) (h44 : A[44]? = some (.bool t)) : FwB UB EB lv lp md t ⟨A, []⟩ := ⟨hs, rfl, h1, h3, h4, h5, h7, h44, trivial⟩
end
def FwF (UB EB : Nat) (lv : Value) (lp md : Bool) (t : Bool) (a : Act) : Prop := Fr 150 [(1, lv), (3, .bool lp), (4, .bool md), (5, .pointer (some ⟨UB, 0, none⟩)), (7, .pointer (some ⟨EB, 0, none⟩)), (49, .bool t)] a
section
variable {UB EB : Nat} {lv : Value} {lp md : Bool} {t : Bool} {a : Act}
theorem FwF.opn (h : FwF UB EB lv lp md t a) : ∃ f : Nat → Value, a = ⟨#[f 0, lv, f 2, .bool lp, .bool md, .pointer (some ⟨UB, 0, none⟩), f 6, .pointer (some ⟨EB, 0, none⟩), f 8, f 9, f 10, f 11, f 12, f 13, f 14, f 15, f 16, f 17, f 18, f 19, f 20, f 21, f 22, f 23, f 24, f 25, f 26, f 27, f 28, f 29, f 30, f 31, f 32, f 33, f 34, f 35, f 36, f 37, f 38, f 39, f 40, f 41, f 42, f 43, f 44, f 45, f 46, f 47, f 48, .bool t, f 50, f 51, f 52, f 53, f 54, f 55, f 56, f 57, f 58, f 59, f 60, f 61, f 62, f 63, f 64, f 65, f 66, f 67, f 68, f 69, f 70, f 71, f 72, f 73, f 74, f 75, f 76, f 77, f 78, f 79, f 80, f 81, f 82, f 83, f 84, f 85, f 86, f 87, f 88, f 89, f 90, f 91, f 92, f 93, f 94, f 95, f 96, f 97, f 98, f 99, f 100, f 101, f 102, f 103, f 104, f 105, f 106, f 107, f 108, f 109, f 110, f 111, f 112, f 113, f 114, f 115, f 116, f 117, f 118, f 119, f 120, f 121, f 122, f 123, f 124, f 125, f 126, f 127, f 128, f 129, f 130, f 131, f 132, f 133, f 134, f 135, f 136, f 137, f 138, f 139, f 140, f 141, f 142, f 143, f 144, f 145, f 146, f 147, f 148, f 149], []⟩ := by
 obtain ⟨f, e, hf⟩ := Fr.lit h;obtain ⟨h1, h3, h4, h5, h7, h49, -⟩ := h.has;refine ⟨f, e.trans ?_⟩;have k1 := Zi h1 (hf 1 (by omega));have k3 := Zi h3 (hf 3 (by omega));have k4 := Zi h4 (hf 4 (by omega));have k5 := Zi h5 (hf 5 (by omega));have k7 := Zi h7 (hf 7 (by omega));have k49 := Zi h49 (hf 49 (by omega));rw [← k1];rw [← k3];rw [← k4];rw [← k5];rw [← k7];rw [← k49]
 rfl
theorem FwF.mk' {A : Array Value} (hs : A.size = 150) (h1 : A[1]? = some (lv)) (h3 : A[3]? = some (.bool lp)) (h4 : A[4]? = some (.bool md)) (h5 : A[5]? = some (.pointer (some ⟨UB, 0, none⟩))) (h7 : A[7]? = some (.pointer (some ⟨EB, 0, none⟩))) (h49 : A[49]? = some (.bool t)) : FwF UB EB lv lp md t ⟨A, []⟩ := ⟨hs, rfl, h1, h3, h4, h5, h7, h49, trivial⟩
end
def FwD (UB EB : Nat) (lv : Value) (lp md : Bool) (t : Bool) (a : Act) : Prop := Fr 150 [(1, lv), (3, .bool lp), (4, .bool md), (5, .pointer (some ⟨UB, 0, none⟩)), (7, .pointer (some ⟨EB, 0, none⟩)), (83, .bool t)] a
section
variable {UB EB : Nat} {lv : Value} {lp md : Bool} {t : Bool} {a : Act}
theorem FwD.opn (h : FwD UB EB lv lp md t a) : ∃ f : Nat → Value, a = ⟨#[f 0, lv, f 2, .bool lp, .bool md, .pointer (some ⟨UB, 0, none⟩), f 6, .pointer (some ⟨EB, 0, none⟩), f 8, f 9, f 10, f 11, f 12, f 13, f 14, f 15, f 16, f 17, f 18, f 19, f 20, f 21, f 22, f 23, f 24, f 25, f 26, f 27, f 28, f 29, f 30, f 31, f 32, f 33, f 34, f 35, f 36, f 37, f 38, f 39, f 40, f 41, f 42, f 43, f 44, f 45, f 46, f 47, f 48, f 49, f 50, f 51, f 52, f 53, f 54, f 55, f 56, f 57, f 58, f 59, f 60, f 61, f 62, f 63, f 64, f 65, f 66, f 67, f 68, f 69, f 70, f 71, f 72, f 73, f 74, f 75, f 76, f 77, f 78, f 79, f 80, f 81, f 82, .bool t, f 84, f 85, f 86, f 87, f 88, f 89, f 90, f 91, f 92, f 93, f 94, f 95, f 96, f 97, f 98, f 99, f 100, f 101, f 102, f 103, f 104, f 105, f 106, f 107, f 108, f 109, f 110, f 111, f 112, f 113, f 114, f 115, f 116, f 117, f 118, f 119, f 120, f 121, f 122, f 123, f 124, f 125, f 126, f 127, f 128, f 129, f 130, f 131, f 132, f 133, f 134, f 135, f 136, f 137, f 138, f 139, f 140, f 141, f 142, f 143, f 144, f 145, f 146, f 147, f 148, f 149], []⟩ := by
 obtain ⟨f, e, hf⟩ := Fr.lit h;obtain ⟨h1, h3, h4, h5, h7, h83, -⟩ := h.has;refine ⟨f, e.trans ?_⟩;have k1 := Zi h1 (hf 1 (by omega));have k3 := Zi h3 (hf 3 (by omega));have k4 := Zi h4 (hf 4 (by omega));have k5 := Zi h5 (hf 5 (by omega));have k7 := Zi h7 (hf 7 (by omega));have k83 := Zi h83 (hf 83 (by omega));rw [← k1];rw [← k3];rw [← k4];rw [← k5];rw [← k7];rw [← k83]
 rfl
theorem FwD.mk' {A : Array Value} (hs : A.size = 150) (h1 : A[1]? = some (lv)) (h3 : A[3]? = some (.bool lp)) (h4 : A[4]? = some (.bool md)) (h5 : A[5]? = some (.pointer (some ⟨UB, 0, none⟩))) (h7 : A[7]? = some (.pointer (some ⟨EB, 0, none⟩))) (h83 : A[83]? = some (.bool t)) : FwD UB EB lv lp md t ⟨A, []⟩ := ⟨hs, rfl, h1, h3, h4, h5, h7, h83, trivial⟩
end
def FwR (z l : Int) (a : Act) : Prop := Fr 150 [(10, .int .i64 z), (11, .int .i64 l)] a
section
variable {z l : Int} {a : Act}
theorem FwR.opn (h : FwR z l a) : ∃ f : Nat → Value, a = ⟨#[f 0, f 1, f 2, f 3, f 4, f 5, f 6, f 7, f 8, f 9, .int .i64 z, .int .i64 l, f 12, f 13, f 14, f 15, f 16, f 17, f 18, f 19, f 20, f 21, f 22, f 23, f 24, f 25, f 26, f 27, f 28, f 29, f 30, f 31, f 32, f 33, f 34, f 35, f 36, f 37, f 38, f 39, f 40, f 41, f 42, f 43, f 44, f 45, f 46, f 47, f 48, f 49, f 50, f 51, f 52, f 53, f 54, f 55, f 56, f 57, f 58, f 59, f 60, f 61, f 62, f 63, f 64, f 65, f 66, f 67, f 68, f 69, f 70, f 71, f 72, f 73, f 74, f 75, f 76, f 77, f 78, f 79, f 80, f 81, f 82, f 83, f 84, f 85, f 86, f 87, f 88, f 89, f 90, f 91, f 92, f 93, f 94, f 95, f 96, f 97, f 98, f 99, f 100, f 101, f 102, f 103, f 104, f 105, f 106, f 107, f 108, f 109, f 110, f 111, f 112, f 113, f 114, f 115, f 116, f 117, f 118, f 119, f 120, f 121, f 122, f 123, f 124, f 125, f 126, f 127, f 128, f 129, f 130, f 131, f 132, f 133, f 134, f 135, f 136, f 137, f 138, f 139, f 140, f 141, f 142, f 143, f 144, f 145, f 146, f 147, f 148, f 149], []⟩ := by
 obtain ⟨f, e, hf⟩ := Fr.lit h;obtain ⟨h10, h11, -⟩ := h.has;refine ⟨f, e.trans ?_⟩;have k10 := Zi h10 (hf 10 (by omega));have k11 := Zi h11 (hf 11 (by omega));rw [← k10];rw [← k11]
 rfl
theorem FwR.mk' {A : Array Value} (hs : A.size = 150) (h10 : A[10]? = some (.int .i64 z)) (h11 : A[11]? = some (.int .i64 l)) : FwR z l ⟨A, []⟩ := ⟨hs, rfl, h10, h11, trivial⟩
end
def FwL (UB EB : Nat) (lv : Value) (lp md : Bool) (j : Nat) (a : Act) : Prop := Fr 150 [(1, lv), (3, .bool lp), (4, .bool md), (5, .pointer (some ⟨UB, 0, none⟩)), (7, .pointer (some ⟨EB, 0, none⟩)), (16, .int .i64 j)] a
section
variable {UB EB : Nat} {lv : Value} {lp md : Bool} {j : Nat} {a : Act}
theorem FwL.opn (h : FwL UB EB lv lp md j a) : ∃ f : Nat → Value, a = ⟨#[f 0, lv, f 2, .bool lp, .bool md, .pointer (some ⟨UB, 0, none⟩), f 6, .pointer (some ⟨EB, 0, none⟩), f 8, f 9, f 10, f 11, f 12, f 13, f 14, f 15, .int .i64 j, f 17, f 18, f 19, f 20, f 21, f 22, f 23, f 24, f 25, f 26, f 27, f 28, f 29, f 30, f 31, f 32, f 33, f 34, f 35, f 36, f 37, f 38, f 39, f 40, f 41, f 42, f 43, f 44, f 45, f 46, f 47, f 48, f 49, f 50, f 51, f 52, f 53, f 54, f 55, f 56, f 57, f 58, f 59, f 60, f 61, f 62, f 63, f 64, f 65, f 66, f 67, f 68, f 69, f 70, f 71, f 72, f 73, f 74, f 75, f 76, f 77, f 78, f 79, f 80, f 81, f 82, f 83, f 84, f 85, f 86, f 87, f 88, f 89, f 90, f 91, f 92, f 93, f 94, f 95, f 96, f 97, f 98, f 99, f 100, f 101, f 102, f 103, f 104, f 105, f 106, f 107, f 108, f 109, f 110, f 111, f 112, f 113, f 114, f 115, f 116, f 117, f 118, f 119, f 120, f 121, f 122, f 123, f 124, f 125, f 126, f 127, f 128, f 129, f 130, f 131, f 132, f 133, f 134, f 135, f 136, f 137, f 138, f 139, f 140, f 141, f 142, f 143, f 144, f 145, f 146, f 147, f 148, f 149], []⟩ := by
 obtain ⟨f, e, hf⟩ := Fr.lit h;obtain ⟨h1, h3, h4, h5, h7, h16, -⟩ := h.has;refine ⟨f, e.trans ?_⟩;have k1 := Zi h1 (hf 1 (by omega));have k3 := Zi h3 (hf 3 (by omega));have k4 := Zi h4 (hf 4 (by omega));have k5 := Zi h5 (hf 5 (by omega));have k7 := Zi h7 (hf 7 (by omega));have k16 := Zi h16 (hf 16 (by omega));rw [← k1];rw [← k3];rw [← k4];rw [← k5];rw [← k7];rw [← k16]
 rfl
theorem FwL.mk' {A : Array Value} (hs : A.size = 150) (h1 : A[1]? = some (lv)) (h3 : A[3]? = some (.bool lp)) (h4 : A[4]? = some (.bool md)) (h5 : A[5]? = some (.pointer (some ⟨UB, 0, none⟩))) (h7 : A[7]? = some (.pointer (some ⟨EB, 0, none⟩))) (h16 : A[16]? = some (.int .i64 j)) : FwL UB EB lv lp md j ⟨A, []⟩ := ⟨hs, rfl, h1, h3, h4, h5, h7, h16, trivial⟩
end
def FwM (UB EB : Nat) (lv : Value) (lp md : Bool) (j : Nat) (t : Bool) (a : Act) : Prop := Fr 150 [(1, lv), (3, .bool lp), (4, .bool md), (5, .pointer (some ⟨UB, 0, none⟩)), (7, .pointer (some ⟨EB, 0, none⟩)), (16, .int .i64 j), (17, .bool t)] a
section
variable {UB EB : Nat} {lv : Value} {lp md : Bool} {j : Nat} {t : Bool} {a : Act}
theorem FwM.opn (h : FwM UB EB lv lp md j t a) : ∃ f : Nat → Value, a = ⟨#[f 0, lv, f 2, .bool lp, .bool md, .pointer (some ⟨UB, 0, none⟩), f 6, .pointer (some ⟨EB, 0, none⟩), f 8, f 9, f 10, f 11, f 12, f 13, f 14, f 15, .int .i64 j, .bool t, f 18, f 19, f 20, f 21, f 22, f 23, f 24, f 25, f 26, f 27, f 28, f 29, f 30, f 31, f 32, f 33, f 34, f 35, f 36, f 37, f 38, f 39, f 40, f 41, f 42, f 43, f 44, f 45, f 46, f 47, f 48, f 49, f 50, f 51, f 52, f 53, f 54, f 55, f 56, f 57, f 58, f 59, f 60, f 61, f 62, f 63, f 64, f 65, f 66, f 67, f 68, f 69, f 70, f 71, f 72, f 73, f 74, f 75, f 76, f 77, f 78, f 79, f 80, f 81, f 82, f 83, f 84, f 85, f 86, f 87, f 88, f 89, f 90, f 91, f 92, f 93, f 94, f 95, f 96, f 97, f 98, f 99, f 100, f 101, f 102, f 103, f 104, f 105, f 106, f 107, f 108, f 109, f 110, f 111, f 112, f 113, f 114, f 115, f 116, f 117, f 118, f 119, f 120, f 121, f 122, f 123, f 124, f 125, f 126, f 127, f 128, f 129, f 130, f 131, f 132, f 133, f 134, f 135, f 136, f 137, f 138, f 139, f 140, f 141, f 142, f 143, f 144, f 145, f 146, f 147, f 148, f 149], []⟩ := by
 obtain ⟨f, e, hf⟩ := Fr.lit h;obtain ⟨h1, h3, h4, h5, h7, h16, h17, -⟩ := h.has;refine ⟨f, e.trans ?_⟩;have k1 := Zi h1 (hf 1 (by omega));have k3 := Zi h3 (hf 3 (by omega));have k4 := Zi h4 (hf 4 (by omega));have k5 := Zi h5 (hf 5 (by omega));have k7 := Zi h7 (hf 7 (by omega));have k16 := Zi h16 (hf 16 (by omega));have k17 := Zi h17 (hf 17 (by omega));rw [← k1];rw [← k3];rw [← k4];rw [← k5];rw [← k7];rw [← k16];rw [← k17]
 rfl
theorem FwM.mk' {A : Array Value} (hs : A.size = 150) (h1 : A[1]? = some (lv)) (h3 : A[3]? = some (.bool lp)) (h4 : A[4]? = some (.bool md)) (h5 : A[5]? = some (.pointer (some ⟨UB, 0, none⟩))) (h7 : A[7]? = some (.pointer (some ⟨EB, 0, none⟩))) (h16 : A[16]? = some (.int .i64 j)) (h17 : A[17]? = some (.bool t)) : FwM UB EB lv lp md j t ⟨A, []⟩ := ⟨hs, rfl, h1, h3, h4, h5, h7, h16, h17, trivial⟩
end
def FwN (UB EB : Nat) (lv : Value) (lp md : Bool) (j : Nat) (t : Bool) (s : Bool) (a : Act) : Prop := Fr 150 [(1, lv), (3, .bool lp), (4, .bool md), (5, .pointer (some ⟨UB, 0, none⟩)), (7, .pointer (some ⟨EB, 0, none⟩)), (16, .int .i64 j), (17, .bool t), (120, .bool s)] a
section
variable {UB EB : Nat} {lv : Value} {lp md : Bool} {j : Nat} {t : Bool} {s : Bool} {a : Act}
theorem FwN.opn (h : FwN UB EB lv lp md j t s a) : ∃ f : Nat → Value, a = ⟨#[f 0, lv, f 2, .bool lp, .bool md, .pointer (some ⟨UB, 0, none⟩), f 6, .pointer (some ⟨EB, 0, none⟩), f 8, f 9, f 10, f 11, f 12, f 13, f 14, f 15, .int .i64 j, .bool t, f 18, f 19, f 20, f 21, f 22, f 23, f 24, f 25, f 26, f 27, f 28, f 29, f 30, f 31, f 32, f 33, f 34, f 35, f 36, f 37, f 38, f 39, f 40, f 41, f 42, f 43, f 44, f 45, f 46, f 47, f 48, f 49, f 50, f 51, f 52, f 53, f 54, f 55, f 56, f 57, f 58, f 59, f 60, f 61, f 62, f 63, f 64, f 65, f 66, f 67, f 68, f 69, f 70, f 71, f 72, f 73, f 74, f 75, f 76, f 77, f 78, f 79, f 80, f 81, f 82, f 83, f 84, f 85, f 86, f 87, f 88, f 89, f 90, f 91, f 92, f 93, f 94, f 95, f 96, f 97, f 98, f 99, f 100, f 101, f 102, f 103, f 104, f 105, f 106, f 107, f 108, f 109, f 110, f 111, f 112, f 113, f 114, f 115, f 116, f 117, f 118, f 119, .bool s, f 121, f 122, f 123, f 124, f 125, f 126, f 127, f 128, f 129, f 130, f 131, f 132, f 133, f 134, f 135, f 136, f 137, f 138, f 139, f 140, f 141, f 142, f 143, f 144, f 145, f 146, f 147, f 148, f 149], []⟩ := by
 obtain ⟨f, e, hf⟩ := Fr.lit h;obtain ⟨h1, h3, h4, h5, h7, h16, h17, h120, -⟩ := h.has;refine ⟨f, e.trans ?_⟩;have k1 := Zi h1 (hf 1 (by omega));have k3 := Zi h3 (hf 3 (by omega));have k4 := Zi h4 (hf 4 (by omega));have k5 := Zi h5 (hf 5 (by omega));have k7 := Zi h7 (hf 7 (by omega));have k16 := Zi h16 (hf 16 (by omega));have k17 := Zi h17 (hf 17 (by omega));have k120 := Zi h120 (hf 120 (by omega));rw [← k1];rw [← k3];rw [← k4];rw [← k5];rw [← k7];rw [← k16];rw [← k17];rw [← k120]
 rfl
theorem FwN.mk' {A : Array Value} (hs : A.size = 150) (h1 : A[1]? = some (lv)) (h3 : A[3]? = some (.bool lp)) (h4 : A[4]? = some (.bool md)) (h5 : A[5]? = some (.pointer (some ⟨UB, 0, none⟩))) (h7 : A[7]? = some (.pointer (some ⟨EB, 0, none⟩))) (h16 : A[16]? = some (.int .i64 j)) (h17 : A[17]? = some (.bool t)) (h120 : A[120]? = some (.bool s)) : FwN UB EB lv lp md j t s ⟨A, []⟩ := ⟨hs, rfl, h1, h3, h4, h5, h7, h16, h17, h120, trivial⟩
end
noncomputable def wkA : Code := cL (cL (cR (Zal Tryz.f93)))
noncomputable def wkF : Code := cR (cL (cR (cR (Zal Tryz.f93))))
noncomputable def wkD : Code := cL (cL (cR (cR (cR (Zal Tryz.f93)))))
noncomputable def wkE : Code := cR (cL (cR (cR (cR (Zal Tryz.f93)))))
noncomputable def wkLp : Code := cR (cL (cR (cR (cR (cR (Zal Tryz.f93))))))
noncomputable def wk18 : Code := cL (cB (cL (cR (cB (cB (cR (cL (cR (cR (cR (cR (Zal Tryz.f93))))))))))))
noncomputable def wk19 : Code := cL (cL (cR (cB (cL (cR (cB (cB (cR (cL (cR (cR (cR (cR (Zal Tryz.f93))))))))))))))
noncomputable def wk20 : Code := cR (cL (cR (cB (cL (cR (cB (cB (cR (cL (cR (cR (cR (cR (Zal Tryz.f93))))))))))))))
structure WkN (R : Bool) (UB EB : Nat) (lv : Value) (lp md : Bool) (w : World) (a : Act) (x : World) : Prop where
 r : R = true
 f : FwA UB EB lv lp md a
 l : Zb w x
structure WkR (R : Bool) (w : World) (a : Act) (x : World) : Prop where
 r : R = false
 f : ∃ z l : Int, (z == 0) = false ∧ FwR z l a
 l : Zb w x
theorem Zvm (u : Zt) (s : ByteArray) : ((Zb1 u s).1 == 1) = false := by
 unfold Zb1
 split
 ·rfl
 ·split
  ·rfl
  ·split
   ·rfl
   ·split <;> rfl
theorem Zw1 (u : Zt) (L : List ByteArray) (s : ByteArray) : (((Zdb u L s).1 == 1) || ((Zdb u L s).1 == 2)) = (Zbm L s || ((Zb1 u s).1 == 2)) := by
 have h := Zdp L s;unfold Zdb
 by_cases h0 : 0 ≤ Zak L s
 ·rw [if_pos h0, ← h, nT h0]; rfl
 ·rw [if_neg h0, ← h, nU h0, Zvm]
theorem Zyc (u : Zt) (L : List ByteArray) (c : Ze) (lp md : Bool) : ckN u L c lp md = (!(((c.kind == 24 || c.kind == 25) && !lp) || ((decide (21 ≤ c.kind) && decide (c.kind ≤ 23)) && md)) && ((!(c.kind == 13) || Zor u c.text) && (!((c.kind == 28) && !Zbm L c.text) || ((Zb1 u c.text).1 == 2)))) := by
 unfold ckN;rw [Zw1]
 generalize c.kind = k
 by_cases h1 : k = 24
 ·subst h1; simp
 by_cases h2 : k = 25
 ·subst h2; simp
 rw [if_neg (by omega)]
 by_cases h3 : k = 21 ∨ k = 22 ∨ k = 23
 ·rw [if_pos h3]; rcases h3 with rfl | rfl | rfl <;> simp
 rw [if_neg h3];have h4 : (decide (21 ≤ k) && decide (k ≤ 23)) = false := by rw [Bool.eq_false_iff]; simp only [ne_eq, Bool.and_eq_true, nJ]; omega
 by_cases h5 : k = 13
 ·subst h5; simp
 rw [if_neg h5]
 by_cases h6 : k = 28
 ·subst h6; simp
 rw [if_neg h6, h4];simp [h1, h2, h5, h6]
theorem Zyd (k : Int) (lp : Bool) (j : Nat) : inL k lp j = (if (decide (16 ≤ k) && decide (k ≤ 19)) = true then ((k == 19) || ((j : Int) == 1)) else ((lp && (k != 24)) && (k != 26))) := by
 have hj : (j == 1) = ((j : Int) == 1) := by rw [Bool.eq_iff_iff]; simp; omega
 unfold inL
 by_cases h : k = 16 ∨ k = 17 ∨ k = 18
 ·rw [if_pos h, hj]; rcases h with rfl | rfl | rfl <;> simp
 rw [if_neg h]
 by_cases h2 : k = 19
 ·subst h2; simp
 rw [if_neg h2, if_neg (show ¬ (decide (16 ≤ k) && decide (k ≤ 19)) = true by simp only [Bool.and_eq_true, nJ]; omega)]
 by_cases h3 : k = 26
 ·subst h3; simp
 by_cases h4 : k = 24
 ·subst h4; simp
 rw [if_neg (by omega)];have e3 : (k != 26) = true := bne_iff_ne.2 h3;have e4 : (k != 24) = true := bne_iff_ne.2 h4;rw [e3, e4]; simp
end
theorem Zw2 {a : Act} (w : World) (c : Ze) (A : Option Addr) (k : Nat) (UB EB : Nat) (lv : Value) (lp md : Bool) (HEB : Hd (w.heap[EB]? = some (.cells #[.int .i64 c.kind, .string c.text, .int .i64 c.aB, .int .i64 c.line, .slice A c.kids.length k] 104 (0, 0)))) (HF : Hd (FwA UB EB lv lp md a)) : wkA.wp Tryz.prog (Zc0 fun a' x => FwB UB EB lv lp md (((c.kind == 24 || c.kind == 25) && !lp) || ((decide (21 ≤ c.kind) && decide (c.kind ≤ 23)) && md)) a' ∧ x = w) a w := by
 have c0 := Z1 HEB.o;have fc0 := fz HEB.o;obtain ⟨b1, h1⟩ : ∃ z, (c.kind == 24) = z := ⟨_, rfl⟩;obtain ⟨b2, h2⟩ : ∃ z, (c.kind == 25) = z := ⟨_, rfl⟩;obtain ⟨b3, h3⟩ : ∃ z : Bool, decide (21 ≤ c.kind) = z := ⟨_, rfl⟩;obtain ⟨b4, h4⟩ : ∃ z : Bool, decide (c.kind ≤ 23) = z := ⟨_, rfl⟩;rw [h1, h2, h3, h4];obtain ⟨fr, rfl⟩ := HF.o.opn;clear HF
 conv => arg 2; whnf
 cases b1 <;> cases b2 <;> cases lp <;> cases b3 <;> cases b4 <;> cases md <;> (go_wp2_with fail; exact ⟨FwB.mk' rfl rfl rfl rfl rfl rfl rfl, rfl⟩)
theorem Zw3 {a : Act} (w : World) (L : List ByteArray) (G : Nat → Prop) (c : Ze) (A : Option Addr) (k : Nat) (UB EB : Nat) (lv : Value) (lp md : Bool) (HL : Hd (Zq Zah 1 G w L lv)) (HEB : Hd (w.heap[EB]? = some (.cells #[.int .i64 c.kind, .string c.text, .int .i64 c.aB, .int .i64 c.line, .slice A c.kids.length k] 104 (0, 0)))) (HF : Hd (FwA UB EB lv lp md a)) : wkD.wp Tryz.prog (Zc0 fun a' x => FwD UB EB lv lp md ((c.kind == 28) && !Zbm L c.text) a' ∧ x = w) a w := by
 have c0 := Z1 HEB.o;have fc0 := fz HEB.o;obtain ⟨b1, h1⟩ : ∃ z, (c.kind == 28) = z := ⟨_, rfl⟩;obtain ⟨b, hb⟩ : ∃ b, b = Zbm L c.text := ⟨_, rfl⟩;rw [h1, ← hb];have HBB := zh hb;clear hb;obtain ⟨fr, rfl⟩ := HF.o.opn;clear HF
 conv => arg 2; whnf
 cases b1 with
 | false => (go_wp2_with fail; exact ⟨FwD.mk' rfl rfl rfl rfl rfl rfl rfl, rfl⟩)
 | true =>
 go_wp2_with fail;refine (Zbv L lv c.text G w HL.o).mono ?_;rintro e w2 ⟨rfl, hw⟩;obtain rfl : w = w2 := hw.symm;have hg := Zdp L c.text;obtain ⟨z, hz⟩ : ∃ z, z = Zak L c.text := ⟨_, rfl⟩;rw [← hz] at hg ⊢;rw [← HBB.o] at hg;have hg2 : decide (z < 0) = !b := by rw [← hg, Bool.eq_iff_iff]; simp
 clear hz hw hg;go_wp2_with fail;exact ⟨FwD.mk' rfl rfl rfl rfl rfl rfl rfl, rfl⟩
theorem Zvn {a : Act} (w : World) (c : Ze) (A : Option Addr) (k : Nat) (UB EB : Nat) (lv : Value) (lp md : Bool) (j : Nat) (HEB : Hd (w.heap[EB]? = some (.cells #[.int .i64 c.kind, .string c.text, .int .i64 c.aB, .int .i64 c.line, .slice A c.kids.length k] 104 (0, 0)))) (HF : Hd (FwL UB EB lv lp md j a)) : wk18.wp Tryz.prog (Zc0 fun a' x => FwM UB EB lv lp md j ((lp && (c.kind != 24)) && (c.kind != 26)) a' ∧ x = w) a w := by
 have c0 := Z1 HEB.o;have fc0 := fz HEB.o;obtain ⟨b1, h1⟩ : ∃ z, (c.kind != 24) = z := ⟨_, rfl⟩;obtain ⟨b2, h2⟩ : ∃ z, (c.kind != 26) = z := ⟨_, rfl⟩;rw [h1, h2];obtain ⟨fr, rfl⟩ := HF.o.opn;clear HF
 conv => arg 2; whnf
 cases lp <;> cases b1 <;> cases b2 <;> (go_wp2_with fail; exact ⟨FwM.mk' rfl rfl rfl rfl rfl rfl rfl rfl, rfl⟩)
theorem Zvo {a : Act} (w : World) (c : Ze) (A : Option Addr) (k : Nat) (UB EB : Nat) (lv : Value) (lp md : Bool) (j : Nat) (t : Bool) (HEB : Hd (w.heap[EB]? = some (.cells #[.int .i64 c.kind, .string c.text, .int .i64 c.aB, .int .i64 c.line, .slice A c.kids.length k] 104 (0, 0)))) (HF : Hd (FwM UB EB lv lp md j t a)) : wk19.wp Tryz.prog (Zc0 fun a' x => FwN UB EB lv lp md j t (decide (16 ≤ c.kind) && decide (c.kind ≤ 19)) a' ∧ x = w) a w := by
 have c0 := Z1 HEB.o;have fc0 := fz HEB.o;obtain ⟨b1, h1⟩ : ∃ z : Bool, decide (16 ≤ c.kind) = z := ⟨_, rfl⟩;obtain ⟨b2, h2⟩ : ∃ z : Bool, decide (c.kind ≤ 19) = z := ⟨_, rfl⟩;rw [h1, h2];obtain ⟨fr, rfl⟩ := HF.o.opn;clear HF
 conv => arg 2; whnf
 cases b1 <;> cases b2 <;> (go_wp2_with fail; exact ⟨FwN.mk' rfl rfl rfl rfl rfl rfl rfl rfl rfl, rfl⟩)
theorem Zvp {a : Act} (w : World) (c : Ze) (A : Option Addr) (k : Nat) (UB EB : Nat) (lv : Value) (lp md : Bool) (j : Nat) (t s : Bool) (HEB : Hd (w.heap[EB]? = some (.cells #[.int .i64 c.kind, .string c.text, .int .i64 c.aB, .int .i64 c.line, .slice A c.kids.length k] 104 (0, 0)))) (HF : Hd (FwN UB EB lv lp md j t s a)) : wk20.wp Tryz.prog (Zc0 fun a' x => FwM UB EB lv lp md j (if s = true then ((c.kind == 19) || ((j : Int) == 1)) else t) a' ∧ x = w) a w := by
 have c0 := Z1 HEB.o;have fc0 := fz HEB.o;obtain ⟨b1, h1⟩ : ∃ z, (c.kind == 19) = z := ⟨_, rfl⟩;obtain ⟨b2, h2⟩ : ∃ z, ((j : Int) == 1) = z := ⟨_, rfl⟩;rw [h1, h2];obtain ⟨fr, rfl⟩ := HF.o.opn;clear HF
 conv => arg 2; whnf
 cases s <;> cases b1 <;> cases b2 <;> (go_wp2_with fail; exact ⟨FwM.mk' rfl rfl rfl rfl rfl rfl rfl rfl, rfl⟩)
theorem Zw4 {a : Act} (N : Nat) (F : Nat → Prop) (w : World) (u : Zt) (A1 A2 A3 : Option Addr) (k1 k2 k3 : Nat) (c : Ze) (A : Option Addr) (k : Nat) (UB EB : Nat) (lv : Value) (lp md : Bool) (HU : Hd (UV N F w u A1 A2 A3 k1 k2 k3)) (HUB : Hd (w.heap[UB]? = some (.cells #[.slice A1 u.aA.length k1, .slice A2 u.globals.length k2, .slice A3 u.procedures.length k3] 52 (0, 0)))) (HEB : Hd (w.heap[EB]? = some (.cells #[.int .i64 c.kind, .string c.text, .int .i64 c.aB, .int .i64 c.line, .slice A c.kids.length k] 104 (0, 0)))) (HF : Hd (FwF UB EB lv lp md (c.kind == 13) a)) :
  wkF.wp Tryz.prog (Zkb (WkN (!(c.kind == 13) || Zor u c.text) UB EB lv lp md w) (WkR (!(c.kind == 13) || Zor u c.text) w)) a w := by
 obtain ⟨hn1, hn2, hn3⟩ := HU.o.len;have g0 := cz3 HUB.o;have fg0 := fz HUB.o;obtain ⟨c0, c1, c2, c3, c4⟩ := Z1 HEB.o;have fc0 := fz HEB.o;obtain ⟨b1, h1⟩ : ∃ z, (c.kind == 13) = z := ⟨_, rfl⟩;rw [h1] at HF ⊢;obtain ⟨fr, rfl⟩ := HF.o.opn;clear HF
 conv => arg 2; whnf
 cases b1 with
 | false => (go_wp2_with fail; exact ⟨rfl, FwA.mk' rfl rfl rfl rfl rfl rfl, Zb.refl _⟩)
 | true =>
 obtain ⟨R, hR⟩ : ∃ z, z = (!true || Zor u c.text) := ⟨_, rfl⟩;rw [← hR];have HR := zh (show R = Zor u c.text from hR);clear hR;go_wp2_with fail
 go_loopw [12, 13] (fun fv iv wr => ∃ j : Nat, j ≤ u.aA.length ∧ iv = .int .i64 j ∧ fv = .bool ((u.aA.take j).any fun r => Zbm r.fields c.text) ∧ Zb w wr) (fun _ iv _ => u.aA.length - (intOf iv).toNat)
 case atStart => exact ⟨0, Nat.zero_le _, rfl, by simp, Zb.refl _⟩
 case round =>
  obtain ⟨j, hj, rfl, rfl, hl⟩ := hrel;rename_i wr;have HL := zh hl;have HEr := yC hl HEB;have HUr := yC hl HUB;clear hl;clear c0 fc0 c1 c2 c3 c4;clear g0 fg0;have g0 := cz3 HUr.o;have fg0 := fz HUr.o;obtain ⟨c0, c1, c2, c3, c4⟩ := Z1 HEr.o;have fc0 := fz HEr.o
  by_cases hlt : j < u.aA.length
  ·have hlt' : (j : Int) < (u.aA.length : Int) := by omega
   obtain ⟨pb, po, As, ks, eA, hat⟩ := HU.o.rct hlt;cases eA;have hfl := hat.len;obtain ⟨r, hv_⟩ : ∃ z, z = u.aA[j] := ⟨_, rfl⟩;rw [← hv_] at hat hfl;have HV_ := zh hv_;have HAT := zh hat;clear hat hv_;obtain ⟨t, ht⟩ : ∃ z, z = (u.aA.take j).any fun r => Zbm r.fields c.text := ⟨_, rfl⟩;rw [← ht];have HTT := zh ht;clear ht
   cases t with
   | true =>
    go_upto_region 8 with (fail);refine Zb8 (fun W hW => ?_);have hlW : Zb wr W := by rw [hW]; exact (Zb.refl _).drew
    have HLW := zh hlW;have HLW2 := zh (HL.o.trans hlW);have HEW := yC hlW HEr;have HUW := yC hlW HUr;have HFR := zh (HAT.o.fl.later Zg HLW2.o);have hpb := Nat.lt_of_lt_of_le HAT.o.lt HLW2.o.size;have d1 := (HLW2.o.cell ⟨pb, _, none⟩ HAT.o.lt).trans HAT.o.c1;clear hlW hW;clear c0 fc0 c1 c2 c3 c4;clear g0 fg0;have g0 := cz3 HUW.o;have fg0 := fz HUW.o;obtain ⟨c0, c1, c2, c3, c4⟩ := Z1 HEW.o;have fc0 := fz HEW.o
    repeat go_big_quiet_step (fail)
    refine wpQuiet_nil ?_;go_wp2_with fail
    go_roundw
    case rel => exact ⟨j + 1, by omega, by go_num, by rw [Zhb hlt, ← HTT.o]; rfl, HLW2.o⟩
    case measure => simp [intOf]; omega
   | false =>
    go_upto_region 8 with (fail);refine Zb8 (fun W hW => ?_);have hlW : Zb wr W := by rw [hW]; exact (Zb.refl _).drew
    have HLW := zh hlW;have HLW2 := zh (HL.o.trans hlW);have HEW := yC hlW HEr;have HUW := yC hlW HUr;have HFR := zh (HAT.o.fl.later Zg HLW2.o);have hpb := Nat.lt_of_lt_of_le HAT.o.lt HLW2.o.size;have d1 := (HLW2.o.cell ⟨pb, _, none⟩ HAT.o.lt).trans HAT.o.c1;clear hlW hW;clear c0 fc0 c1 c2 c3 c4;clear g0 fg0;have g0 := cz3 HUW.o;have fg0 := fz HUW.o;obtain ⟨c0, c1, c2, c3, c4⟩ := Z1 HEW.o;have fc0 := fz HEW.o
    repeat go_big_quiet_step (fail)
    go_big_quiet_want
    go_big_quiet_op
    apply Exists.intro
    refine ⟨?_, ?_⟩
    ·refine (Zbv r.fields _ c.text F _ HFR.o).mono ?_; rintro e w5 ⟨rfl, rfl⟩; exact ⟨rfl, rfl⟩
    go_big_quiet_on
    repeat go_big_quiet_step (fail)
    refine wpQuiet_nil ?_;go_wp2_with fail
    go_roundw
    case rel => exact ⟨j + 1, by omega, by go_num, by rw [Zhb hlt, ← HTT.o, ← HV_.o, ← Zdp]; rfl, HLW2.o⟩
    case measure => simp [intOf]; omega
  ·obtain rfl : j = u.aA.length := by omega
   have hr2 : R = (u.aA.take u.aA.length).any fun r => Zbm r.fields c.text := by rw [List.take_length]; exact HR.o
   obtain ⟨t, ht⟩ : ∃ z, z = (u.aA.take u.aA.length).any fun r => Zbm r.fields c.text := ⟨_, rfl⟩;rw [← ht] at hr2 ⊢;clear ht;subst hr2
   cases R with
   | true => (go_wp2_with fail; exact ⟨rfl, FwA.mk' rfl rfl rfl rfl rfl rfl, HL.o⟩)
   | false =>
    go_upto_region 10 with (fail);refine Zb8 (fun W hW => ?_);have hlW : Zb wr W := by rw [hW]; exact (Zb.refl _).drew
    have HLW := zh hlW;have HEW := yC hlW HEr;clear hlW hW;clear c0 fc0 c1 c2 c3 c4;obtain ⟨c0, c1, c2, c3, c4⟩ := Z1 HEW.o;have fc0 := fz HEW.o
    repeat go_big_quiet_step (fail)
    refine wpQuiet_nil ?_;go_wp2_with fail;exact ⟨rfl, ⟨5, _, rfl, FwR.mk' rfl rfl rfl⟩, HL.o.trans HLW.o⟩
theorem Zw5 {a : Act} (N : Nat) (F : Nat → Prop) (w : World) (u : Zt) (A1 A2 A3 : Option Addr) (k1 k2 k3 : Nat) (c : Ze) (A : Option Addr) (k : Nat) (UB EB : Nat) (lv : Value) (lp md : Bool) (t : Bool) (HU : Hd (UV N F w u A1 A2 A3 k1 k2 k3)) (HUB : Hd (w.heap[UB]? = some (.cells #[.slice A1 u.aA.length k1, .slice A2 u.globals.length k2, .slice A3 u.procedures.length k3] 52 (0, 0)))) (HEB : Hd (w.heap[EB]? = some (.cells #[.int .i64 c.kind, .string c.text, .int .i64 c.aB, .int .i64 c.line, .slice A c.kids.length k] 104 (0, 0)))) (HF : Hd (FwD UB EB lv lp md t a)) :
  wkE.wp Tryz.prog (Zkb (WkN (!t || ((Zb1 u c.text).1 == 2)) UB EB lv lp md w) (WkR (!t || ((Zb1 u c.text).1 == 2)) w)) a w := by
 obtain ⟨hn1, hn2, hn3⟩ := HU.o.len;have g0 := cz3 HUB.o;have fg0 := fz HUB.o;have c0 := Z1 HEB.o;have fc0 := fz HEB.o;obtain ⟨fr, rfl⟩ := HF.o.opn;clear HF
 conv => arg 2; whnf
 cases t with
 | false => (go_wp2_with fail; exact ⟨rfl, FwA.mk' rfl rfl rfl rfl rfl rfl, Zb.refl _⟩)
 | true =>
 obtain ⟨R, hR⟩ : ∃ z, z = (!true || ((Zb1 u c.text).1 == 2)) := ⟨_, rfl⟩;rw [← hR];have HR := zh (show R = ((Zb1 u c.text).1 == 2) from hR);clear hR;go_wp2_with fail;refine (Zhc N F w u A1 A2 A3 k1 k2 k3 c.text HU.o).mono ?_;rintro e w2 ⟨rfl, hb⟩;have HL2 := zh (show Zb w w2 from hb);have HE2 := zB HL2 HEB;obtain ⟨z, hz⟩ : ∃ z, z = (Zb1 u c.text).1 := ⟨_, rfl⟩;obtain ⟨z', hz'⟩ : ∃ z, z = (Zb1 u c.text).2 := ⟨_, rfl⟩;rw [← hz, ← hz'];rw [← hz] at HR;clear hb hz hz'
 by_cases h2 : z = 2
 ·subst h2;go_wp2_with fail;exact ⟨HR.o, FwA.mk' rfl rfl rfl rfl rfl rfl, HL2.o⟩
 have n2 : (z != (2 : Int)) = true := bne_iff_ne.2 h2;have HE := zh (HR.o.trans (nH.2 h2));clear h2;go_upto_region 14 with (fail);refine Zb8 (fun W hW => ?_);have hlW : Zb w2 W := by rw [hW]; exact (Zb.refl _).drew
 have HLW := zh hlW;have HEW := yC hlW HE2;clear hlW hW;clear c0 fc0;have c0 := Z1 HEW.o;have fc0 := fz HEW.o
 repeat go_big_quiet_step (fail)
 refine wpQuiet_nil ?_;go_wp2_with fail;exact ⟨HE.o, ⟨6, _, rfl, FwR.mk' rfl rfl rfl⟩, HL2.o.trans HLW.o⟩
def Zye (n : Nat) : Prop := ∀ (N : Nat) (F : Nat → Prop) (w : World) (u : Zt) (A1 A2 A3 : Option Addr) (k1 k2 k3 : Nat) (L : List ByteArray) (G : Nat → Prop) (lv : Value) (c : Ze) (A : Option Addr) (k : Nat) (lp md : Bool), UV N F w u A1 A2 A3 k1 k2 k3 → Zq Zah 1 G w L lv → EV n F w c A k → Calls Tryz.prog 93 #[.agg #[.slice A1 u.aA.length k1, .slice A2 u.globals.length k2, .slice A3 u.procedures.length k3], lv, c.val A k, .bool lp, .bool md] w fun e w' => ∃ z l : Int, e = .returned (.tuple #[.int .i64 z, .int .i64 l]) ∧ (z == 0) = ckX u L (n + 1) c lp md ∧ Below w.heap.size w w'
theorem Zvq {a : Act} (n : Nat) (IH : ∀ n', n = n' + 1 → Zye n') (N : Nat) (F : Nat → Prop) (w : World) (u : Zt) (A1 A2 A3 : Option Addr) (k1 k2 k3 : Nat) (L : List ByteArray) (G : Nat → Prop) (c : Ze) (A : Option Addr) (k : Nat) (UB EB : Nat) (lv : Value) (lp md : Bool) (HU : Hd (UV N F w u A1 A2 A3 k1 k2 k3)) (HLV : Hd (Zq Zah 1 G w L lv)) (HV : Hd (EV n F w c A k)) (HUB : Hd (w.heap[UB]? = some (.cells #[.slice A1 u.aA.length k1, .slice A2 u.globals.length k2, .slice A3 u.procedures.length k3] 52 (0, 0)))) (HEB : Hd (w.heap[EB]? = some (.cells #[.int .i64 c.kind, .string c.text, .int .i64 c.aB, .int .i64 c.line, .slice A c.kids.length k] 104 (0, 0)))) (HF : Hd (FwL UB EB lv lp md 0 a)) :
  wkLp.wp Tryz.prog (Zkb (WkN ((List.range c.kids.length).all fun i => ckX u L n (c.kid i) (inL c.kind lp i) (md || c.kind == 26)) UB EB lv lp md w) (WkR ((List.range c.kids.length).all fun i => ckX u L n (c.kid i) (inL c.kind lp i) (md || c.kind == 26)) w)) a w := by
 obtain ⟨R, hR⟩ : ∃ z, z = ((List.range c.kids.length).all fun i => ckX u L n (c.kid i) (inL c.kind lp i) (md || c.kind == 26)) := ⟨_, rfl⟩;rw [← hR];have HR := zh hR;clear hR;have hks1 := HV.o.len;have HF0 := HF;obtain ⟨fr, rfl⟩ := HF.o.opn;clear HF
 conv => arg 2; whnf
 go_wp2_with fail;refine wp_loop_ghost_k (fun g a x => ∃ j : Nat, g + j = c.kids.length ∧ FwL UB EB lv lp md j a ∧ Hd (∀ i, i < j → ckX u L n (c.kid i) (inL c.kind lp i) (md || c.kind == 26) = true) ∧ Zb w x) c.kids.length ⟨0, by omega, HF0.o, zh (fun i h => by omega), Zb.refl _⟩ ?_;clear HF0 fr;rintro gk a wr ⟨j, hg, hf, HJ, hl⟩ J K hJ hK;obtain ⟨fr, rfl⟩ := hf.opn;have HLr := zh hl;have HUBr := yC hl HUB;have HEBr := yC hl HEB;clear hl hf;obtain ⟨c0, c1, c2, c3, c4⟩ := Z1 HEBr.o;have fc0 := fz HEBr.o
 by_cases hlt : j < c.kids.length
 ·obtain ⟨n', rfl⟩ := HV.o.lev hlt;have hlt' : (j : Int) < (c.kids.length : Int) := by omega
  obtain ⟨kb, ko, Bk, q, eA, hca⟩ := HV.o.kid hlt;cases eA;have HKX := zh (Zcv hlt);obtain ⟨x, hx⟩ : ∃ z, z = c.kids[j] := ⟨_, rfl⟩;rw [← hx] at hca HKX;have HX := zh hx;have HCA := zh hca;have hkb := Nat.lt_of_lt_of_le hca.lt HLr.o.size;have d0 := (HLr.o.cell ⟨kb, _, none⟩ hca.lt).trans hca.c0;have d1 := (HLr.o.cell ⟨kb, _, none⟩ hca.lt).trans hca.c1;have d2 := (HLr.o.cell ⟨kb, _, none⟩ hca.lt).trans hca.c2;have d3 := (HLr.o.cell ⟨kb, _, none⟩ hca.lt).trans hca.c3;have d4 := (HLr.o.cell ⟨kb, _, none⟩ hca.lt).trans hca.c4;clear hca hx d0 d1 d2 d3 d4;have HXK := zh (show c.kid j = x by rw [Zcr hlt, HX.o]);go_upto_region 18 with (fail);refine @Z8 _ wk18 ?R1 _ _ _ _ ?h1 ?k1
  case h1 =>
   refine Zvn wr c (some ⟨kb, ko, none⟩) k UB EB lv lp md j HEBr (zh ?hf1)
   case hf1 => exact FwL.mk' rfl rfl rfl rfl rfl rfl rfl
  case k1 =>
  rintro a1 x1 ⟨hf, hx⟩;obtain rfl : wr = x1 := hx.symm;obtain ⟨fr1, rfl⟩ := hf.opn;clear hf hx;go_upto_region 19 with (fail);refine @Z8 _ wk19 ?R2 _ _ _ _ ?h2 ?k2
  case h2 =>
   refine Zvo wr c (some ⟨kb, ko, none⟩) k UB EB lv lp md j ((lp && (c.kind != 24)) && (c.kind != 26)) HEBr (zh ?hf2)
   case hf2 => exact FwM.mk' rfl rfl rfl rfl rfl rfl rfl rfl
  case k2 =>
  rintro a2 x2 ⟨hf, hx⟩;obtain rfl : wr = x2 := hx.symm;obtain ⟨fr2, rfl⟩ := hf.opn;clear hf hx
  go_upto_if 120 with (fail)
  refine @Z8 _ wk20 ?R3 _ _ _ _ ?h3 ?k3
  case h3 =>
   refine Zvp wr c (some ⟨kb, ko, none⟩) k UB EB lv lp md j ((lp && (c.kind != 24)) && (c.kind != 26)) (decide (16 ≤ c.kind) && decide (c.kind ≤ 19)) HEBr (zh ?hf3)
   case hf3 => exact FwN.mk' rfl rfl rfl rfl rfl rfl rfl rfl rfl
  case k3 =>
  rintro a3 x3 ⟨hf, hx⟩;obtain rfl : wr = x3 := hx.symm;obtain ⟨fr3, rfl⟩ := hf.opn;clear hf hx;obtain ⟨il, hil⟩ : ∃ z, z = inL c.kind lp j := ⟨_, rfl⟩;rw [← Zyd, ← hil];have HIL := zh hil;clear hil;obtain ⟨q26, hq26⟩ : ∃ z, (c.kind == 26) = z := ⟨_, rfl⟩;have HQ26 := zh hq26;clear c0 fc0 c1 c2 c3 c4
  cases md with
  | true =>
   clear hq26;have HGO := zh (show (true || c.kind == 26) = true by rw [HQ26.o]; rfl);go_upto_region 21 with (fail);refine Zx [18, 19] [17] (by kernel_rfl) (fun W hW => ?_);have hlW : Zb wr W := by rw [hW]; exact (Zb.refl _).drew
   have HLW := zh (HLr.o.trans hlW);have HUBW := yC hlW HUBr;have HEBW := yC hlW HEBr;have hkb2 := Nat.lt_of_lt_of_le HCA.o.lt HLW.o.size;clear hlW hW;refine uU 0 129 (hy := fun x hx => by have hxu := (hx.block _ (Za HUBW.o)).trans HUBW.o; have hxe := (hx.block _ (Za HEBW.o)).trans HEBW.o; have g0 := cz3 hxu; have fg0 := fz hxu; obtain ⟨c0, c1, c2, c3, c4⟩ := Z1 hxe; have fc0 := fz hxe; have d0 := ((HLW.o.trans hx).cell ⟨kb, _, none⟩ HCA.o.lt).trans HCA.o.c0; have d1 := ((HLW.o.trans hx).cell ⟨kb, _, none⟩ HCA.o.lt).trans HCA.o.c1; have d2 := ((HLW.o.trans hx).cell ⟨kb, _, none⟩ HCA.o.lt).trans HCA.o.c2; have d3 := ((HLW.o.trans hx).cell ⟨kb, _, none⟩ HCA.o.lt).trans HCA.o.c3; have d4 := ((HLW.o.trans hx).cell ⟨kb, _, none⟩ HCA.o.lt).trans HCA.o.c4; go_simp <;> with_reducible rfl) ?_;simp only [yN];refine uU 1 130 ?_;simp only [yN];refine uU 2 131 ?_;simp only [yN];refine uU 3 132 (hy := fun x hx => by have hxu := (hx.block _ (Za HUBW.o)).trans HUBW.o; have hxe := (hx.block _ (Za HEBW.o)).trans HEBW.o; have g0 := cz3 hxu; have fg0 := fz hxu; obtain ⟨c0, c1, c2, c3, c4⟩ := Z1 hxe; have fc0 := fz hxe; have d0 := ((HLW.o.trans hx).cell ⟨kb, _, none⟩ HCA.o.lt).trans HCA.o.c0; have d1 := ((HLW.o.trans hx).cell ⟨kb, _, none⟩ HCA.o.lt).trans HCA.o.c1; have d2 := ((HLW.o.trans hx).cell ⟨kb, _, none⟩ HCA.o.lt).trans HCA.o.c2; have d3 := ((HLW.o.trans hx).cell ⟨kb, _, none⟩ HCA.o.lt).trans HCA.o.c3; have d4 := ((HLW.o.trans hx).cell ⟨kb, _, none⟩ HCA.o.lt).trans HCA.o.c4; go_simp <;> with_reducible rfl) ?_
   simp only [yN];refine uU 4 133 ?_;simp only [yN];refine uU 5 134 ?_;simp only [yN];refine uU 6 135 (hy := fun x hx => by have hxu := (hx.block _ (Za HUBW.o)).trans HUBW.o; have hxe := (hx.block _ (Za HEBW.o)).trans HEBW.o; have g0 := cz3 hxu; have fg0 := fz hxu; obtain ⟨c0, c1, c2, c3, c4⟩ := Z1 hxe; have fc0 := fz hxe; have d0 := ((HLW.o.trans hx).cell ⟨kb, _, none⟩ HCA.o.lt).trans HCA.o.c0; have d1 := ((HLW.o.trans hx).cell ⟨kb, _, none⟩ HCA.o.lt).trans HCA.o.c1; have d2 := ((HLW.o.trans hx).cell ⟨kb, _, none⟩ HCA.o.lt).trans HCA.o.c2; have d3 := ((HLW.o.trans hx).cell ⟨kb, _, none⟩ HCA.o.lt).trans HCA.o.c3; have d4 := ((HLW.o.trans hx).cell ⟨kb, _, none⟩ HCA.o.lt).trans HCA.o.c4; go_simp <;> with_reducible rfl) ?_;simp only [yN];refine uU 7 136 ?_;simp only [yN];refine uU 8 137 ?_;simp only [yN];refine uU 9 138 ?_;simp only [yN];refine Zam 10 (some 139) rfl rfl (by kernel_rfl) (fun _ _ _ h => h) rfl ?_;simp only [yN];refine Zam 11 (some 140) rfl rfl (by kernel_rfl) (fun _ _ _ h => h) rfl ?_;simp only [yN];refine Zam 12 (some 141) rfl rfl (by kernel_rfl) (fun _ _ _ h => h) rfl ?_;simp only [yN];refine uU 13 142 ?_;simp only [yN];refine Z5 14 (by kernel_rfl) rfl rfl ?_;go_wp2_with fail;refine (IH n' rfl N F W u A1 A2 A3 k1 k2 k3 L G lv x Bk q il true (HU.o.later HLW.o) (HLV.o.later Zg HLW.o) (HCA.o.ev.later HLW.o)).mono ?_;rintro e w5 ⟨z, l, rfl, hz, hb⟩;have HL5 := zh (HLW.o.trans hb);have HBW := zh (show Zb W w5 from hb)
   have HZ0 := zh hz;clear hb hz;go_wp2_with fail;refine ⟨HBW.o, ?_⟩;refine uU 15 128 ?_;simp only [yN];refine uU 16 144 ?_;simp only [yN];refine Zk9 17 (some 145) (v := ?_) rfl rfl (by kernel_rfl) (fun _ _ _ h => h) rfl (fun x => ?_) ?_;rotate_left
   ·go_simp <;> with_reducible rfl
   simp only [yN];refine Z6 [_, _] (by kernel_rfl) rfl rfl ?_;simp only [gA, gB, gC];obtain ⟨t, ht⟩ : ∃ t, t = ckX u L (n' + 1) x il true := ⟨_, rfl⟩;have hz := HZ0.o;rw [← ht] at hz;have HTT := zh (show ckX u L (n' + 1) (c.kid j) (inL c.kind lp j) (true || c.kind == 26) = t by rw [HXK.o, ← HIL.o, HGO.o, ht]);clear ht
   cases t with
   | false =>
    have n0 : (z != (0 : Int)) = true := by rw [bne, hz]; rfl
    have HZ := zh hz;clear hz;go_wp2_with fail;exact ⟨HR.o.trans (Zd3 hlt HTT.o), ⟨z, l, HZ.o, FwR.mk' rfl rfl rfl⟩, HL5.o⟩
   | true =>
    obtain rfl : z = 0 := by simpa using hz
    clear hz;go_wp2_with fail;refine Handed.intro (gk - 1) (by omega) (hJ _ _ _ ⟨j + 1, by omega, ?_, zh (fun i hi2 => by
     by_cases h2 : i < j
     ·exact HJ.o i h2
     ·obtain rfl : i = j := by omega
      exact HTT.o), HL5.o⟩)
    exact FwL.mk' rfl rfl rfl rfl rfl rfl (by show some _ = some _; exact congrArg some (by go_num))
  | false =>
   have HGO := zh (show (false || c.kind == 26) = q26 by rw [HQ26.o]; rfl);go_upto_region 21 with (fail);refine Zx [18, 19] [17] (by kernel_rfl) (fun W hW => ?_);have hlW : Zb wr W := by rw [hW]; exact (Zb.refl _).drew
   have HLW := zh (HLr.o.trans hlW);have HUBW := yC hlW HUBr;have HEBW := yC hlW HEBr;have hkb2 := Nat.lt_of_lt_of_le HCA.o.lt HLW.o.size;clear hlW hW;refine uU 0 129 (hy := fun x hx => by have hxu := (hx.block _ (Za HUBW.o)).trans HUBW.o; have hxe := (hx.block _ (Za HEBW.o)).trans HEBW.o; have g0 := cz3 hxu; have fg0 := fz hxu; obtain ⟨c0, c1, c2, c3, c4⟩ := Z1 hxe; have fc0 := fz hxe; have d0 := ((HLW.o.trans hx).cell ⟨kb, _, none⟩ HCA.o.lt).trans HCA.o.c0; have d1 := ((HLW.o.trans hx).cell ⟨kb, _, none⟩ HCA.o.lt).trans HCA.o.c1; have d2 := ((HLW.o.trans hx).cell ⟨kb, _, none⟩ HCA.o.lt).trans HCA.o.c2; have d3 := ((HLW.o.trans hx).cell ⟨kb, _, none⟩ HCA.o.lt).trans HCA.o.c3; have d4 := ((HLW.o.trans hx).cell ⟨kb, _, none⟩ HCA.o.lt).trans HCA.o.c4; go_simp <;> with_reducible rfl) ?_;simp only [yN];refine uU 1 130 ?_;simp only [yN];refine uU 2 131 ?_;simp only [yN];refine uU 3 132 (hy := fun x hx => by have hxu := (hx.block _ (Za HUBW.o)).trans HUBW.o; have hxe := (hx.block _ (Za HEBW.o)).trans HEBW.o; have g0 := cz3 hxu; have fg0 := fz hxu; obtain ⟨c0, c1, c2, c3, c4⟩ := Z1 hxe; have fc0 := fz hxe; have d0 := ((HLW.o.trans hx).cell ⟨kb, _, none⟩ HCA.o.lt).trans HCA.o.c0; have d1 := ((HLW.o.trans hx).cell ⟨kb, _, none⟩ HCA.o.lt).trans HCA.o.c1; have d2 := ((HLW.o.trans hx).cell ⟨kb, _, none⟩ HCA.o.lt).trans HCA.o.c2; have d3 := ((HLW.o.trans hx).cell ⟨kb, _, none⟩ HCA.o.lt).trans HCA.o.c3; have d4 := ((HLW.o.trans hx).cell ⟨kb, _, none⟩ HCA.o.lt).trans HCA.o.c4; go_simp <;> with_reducible rfl) ?_
   simp only [yN];refine uU 4 133 ?_;simp only [yN];refine uU 5 134 ?_;simp only [yN];refine uU 6 135 (hy := fun x hx => by have hxu := (hx.block _ (Za HUBW.o)).trans HUBW.o; have hxe := (hx.block _ (Za HEBW.o)).trans HEBW.o; have g0 := cz3 hxu; have fg0 := fz hxu; obtain ⟨c0, c1, c2, c3, c4⟩ := Z1 hxe; have fc0 := fz hxe; have d0 := ((HLW.o.trans hx).cell ⟨kb, _, none⟩ HCA.o.lt).trans HCA.o.c0; have d1 := ((HLW.o.trans hx).cell ⟨kb, _, none⟩ HCA.o.lt).trans HCA.o.c1; have d2 := ((HLW.o.trans hx).cell ⟨kb, _, none⟩ HCA.o.lt).trans HCA.o.c2; have d3 := ((HLW.o.trans hx).cell ⟨kb, _, none⟩ HCA.o.lt).trans HCA.o.c3; have d4 := ((HLW.o.trans hx).cell ⟨kb, _, none⟩ HCA.o.lt).trans HCA.o.c4; go_simp <;> with_reducible rfl) ?_;simp only [yN];refine uU 7 136 ?_;simp only [yN];refine uU 8 137 ?_;simp only [yN];refine uU 9 138 ?_;simp only [yN];refine uU 10 139 ?_;simp only [yN];refine uU 11 140 (hy := fun x hx => by have hxu := (hx.block _ (Za HUBW.o)).trans HUBW.o; have hxe := (hx.block _ (Za HEBW.o)).trans HEBW.o; have g0 := cz3 hxu; have fg0 := fz hxu; obtain ⟨c0, c1, c2, c3, c4⟩ := Z1 hxe; have fc0 := fz hxe; have d0 := ((HLW.o.trans hx).cell ⟨kb, _, none⟩ HCA.o.lt).trans HCA.o.c0; have d1 := ((HLW.o.trans hx).cell ⟨kb, _, none⟩ HCA.o.lt).trans HCA.o.c1; have d2 := ((HLW.o.trans hx).cell ⟨kb, _, none⟩ HCA.o.lt).trans HCA.o.c2; have d3 := ((HLW.o.trans hx).cell ⟨kb, _, none⟩ HCA.o.lt).trans HCA.o.c3; have d4 := ((HLW.o.trans hx).cell ⟨kb, _, none⟩ HCA.o.lt).trans HCA.o.c4; go_simp <;> with_reducible rfl) ?_
   simp only [yN];refine uU 12 141 ?_;simp only [yN];refine uU 13 142 ?_;simp only [yN];refine Z5 14 (by kernel_rfl) rfl rfl ?_;go_wp2_with fail;refine (IH n' rfl N F W u A1 A2 A3 k1 k2 k3 L G lv x Bk q il q26 (HU.o.later HLW.o) (HLV.o.later Zg HLW.o) (HCA.o.ev.later HLW.o)).mono ?_;rintro e w5 ⟨z, l, rfl, hz, hb⟩;have HL5 := zh (HLW.o.trans hb);have HBW := zh (show Zb W w5 from hb);have HZ0 := zh hz;clear hb hz;go_wp2_with fail;refine ⟨HBW.o, ?_⟩;refine uU 15 128 ?_;simp only [yN];refine uU 16 144 ?_;simp only [yN];refine Zk9 17 (some 145) (v := ?_) rfl rfl (by kernel_rfl) (fun _ _ _ h => h) rfl (fun x => ?_) ?_;rotate_left
   ·go_simp <;> with_reducible rfl
   simp only [yN];refine Z6 [_, _] (by kernel_rfl) rfl rfl ?_;simp only [gA, gB, gC];obtain ⟨t, ht⟩ : ∃ t, t = ckX u L (n' + 1) x il q26 := ⟨_, rfl⟩;have hz := HZ0.o;rw [← ht] at hz;have HTT := zh (show ckX u L (n' + 1) (c.kid j) (inL c.kind lp j) (false || c.kind == 26) = t by rw [HXK.o, ← HIL.o, HGO.o, ht]);clear ht
   cases t with
   | false =>
    have n0 : (z != (0 : Int)) = true := by rw [bne, hz]; rfl
    have HZ := zh hz;clear hz;go_wp2_with fail;exact ⟨HR.o.trans (Zd3 hlt HTT.o), ⟨z, l, HZ.o, FwR.mk' rfl rfl rfl⟩, HL5.o⟩
   | true =>
    obtain rfl : z = 0 := by simpa using hz
    clear hz;go_wp2_with fail;refine Handed.intro (gk - 1) (by omega) (hJ _ _ _ ⟨j + 1, by omega, ?_, zh (fun i hi2 => by
     by_cases h2 : i < j
     ·exact HJ.o i h2
     ·obtain rfl : i = j := by omega
      exact HTT.o), HL5.o⟩)
    exact FwL.mk' rfl rfl rfl rfl rfl rfl (by show some _ = some _; exact congrArg some (by go_num))
 ·obtain rfl : j = c.kids.length := by omega
  go_wp2_with fail;exact ⟨HR.o.trans (Zjq HJ.o), FwA.mk' rfl rfl rfl rfl rfl rfl, HLr.o⟩
theorem Zly : ∀ n, Zye n
 | n => fun N F w u A1 A2 A3 k1 k2 k3 L G lv c A k lp md hu hlv hv => by
  have IH : ∀ n', n = n' + 1 → Zye n' := fun n' h => by subst h; exact Zly n'
  unfold Ze.val;have HU := zh hu;have HV := zh hv;have hks1 := hv.len;obtain ⟨hn1, hn2, hn3⟩ := hu.len;obtain ⟨wa, hla, hub, hwa⟩ := aN w (.cells #[.slice A1 u.aA.length k1, .slice A2 u.globals.length k2, .slice A3 u.procedures.length k3] 52);have hlb : Zb wa (wa.alloc (.cells #[.int .i64 c.kind, .string c.text, .int .i64 c.aB, .int .i64 c.line, .slice A c.kids.length k] 104)) := (Zb.refl _).alloc _;have heb := heap_alloc_new wa (.cells #[.int .i64 c.kind, .string c.text, .int .i64 c.aB, .int .i64 c.line, .slice A c.kids.length k] 104);have hub2 := (hlb.block _ (Za hub)).trans hub;obtain ⟨wb, hwb⟩ : ∃ z, wa.alloc (.cells #[.int .i64 c.kind, .string c.text, .int .i64 c.aB, .int .i64 c.line, .slice A c.kids.length k] 104) = z := ⟨_, rfl⟩;rw [hwb] at hlb heb hub2;have HLb := zh (Zb.trans hla hlb);obtain ⟨UB, hUB⟩ : ∃ z, w.heap.size = z := ⟨_, rfl⟩;obtain ⟨EB, hEB⟩ : ∃ z, wa.heap.size = z := ⟨_, rfl⟩;rw [hUB] at hub2;rw [hEB] at heb;have HUB := zh hub2;have HEB := zh heb;have HSTART := zh (⟨hwa, hwb, hUB, hEB⟩ : _ ∧ _ ∧ _ ∧ _);clear hla hlb hub heb hub2 hu hv hwa hwb hUB hEB;have HLV := zh (hlv.later Zg HLb.o);have HUX := zh (HU.o.later HLb.o);clear hlv;obtain ⟨R, hR⟩ : ∃ z, z = ckX u L (n + 1) c lp md := ⟨_, rfl⟩;rw [← hR];obtain ⟨b1, hb1⟩ : ∃ z, z = (((c.kind == 24 || c.kind == 25) && !lp) || ((decide (21 ≤ c.kind) && decide (c.kind ≤ 23)) && md)) := ⟨_, rfl⟩;obtain ⟨b3, hb3⟩ : ∃ z, z = ((c.kind == 28) && !Zbm L c.text) := ⟨_, rfl⟩;have HR := zh (show R = ((!b1 && ((!(c.kind == 13) || Zor u c.text) && (!b3 || ((Zb1 u c.text).1 == 2)))) && ((List.range c.kids.length).all fun i => ckX u L n (c.kid i) (inL c.kind lp i) (md || c.kind == 26))) by rw [hR, hb1, hb3, ← Zyc]; rfl)
  have HB1 := zh hb1;have HB3 := zh hb3;clear hR hb1 hb3;go_enter Tryz.func93, Tryz.ntmps93;obtain ⟨hwa, hwb, hUB, hEB⟩ := HSTART.o;go_upto_region 1 with (fail);clear hwa hwb hUB hEB;refine @Z8 _ wkA ?R1 _ _ _ _ ?h1 ?k1
  case h1 =>
   refine Zw2 wb c A k UB EB lv lp md HEB (zh ?hf1)
   case hf1 => exact FwA.mk' rfl rfl rfl rfl rfl rfl
  case k1 =>
  rintro a1 x1 ⟨hf, hx⟩;obtain rfl : wb = x1 := hx.symm;rw [← HB1.o] at hf;obtain ⟨fr1, rfl⟩ := hf.opn;clear hf hx;have c0 := Z1 HEB.o;have fc0 := fz HEB.o
  cases b1 with
  | true =>
   go_upto_region 2 with (fail)
   dsimp only
   refine Zb8 (fun W hW => ?_);have hlW : Zb wb W := by rw [hW]; exact (Zb.refl _).drew
   have HLW := zh hlW;have HEW := yC hlW HEB;clear hlW hW;clear c0 fc0;have c0 := Z1 HEW.o;have fc0 := fz HEW.o
   repeat go_big_quiet_step (fail)
   refine wpQuiet_nil ?_;go_wp2_with fail
   go_ret2
   exact ⟨4, _, rfl, by rw [HR.o]; rfl, HLb.o.trans HLW.o⟩
  | false =>
  go_upto_if 49 with (fail)
  refine @Zfk _ wkF ?R2 ?Q2 _ _ _ _ ?h2 ?k2 ?q2
  case h2 =>
   refine Zw4 N F wb u A1 A2 A3 k1 k2 k3 c A k UB EB lv lp md HUX HUB HEB (zh ?hf2)
   case hf2 => exact FwF.mk' rfl rfl rfl rfl rfl rfl rfl
  case q2 =>
   rintro a' x hx;obtain ⟨z, l, hz, hf⟩ := hx.f;obtain ⟨fr, rfl⟩ := hf.opn;exact bodyPost_ret (v := .tuple #[.int .i64 z, .int .i64 l]) (by simp [results, Tryz.results93, go_sem]) rfl ⟨z, l, rfl, by rw [HR.o, hx.r, hz]; simp, HLb.o.trans hx.l⟩
  case k2 =>
  rintro a2 w2 hx;obtain ⟨fr2, rfl⟩ := hx.f.opn;have HN2 := zh hx.r;have HL2 := zh hx.l;have HUB2 := zh ((hx.l.block _ (Za HUB.o)).trans HUB.o);have HEB2 := zh ((hx.l.block _ (Za HEB.o)).trans HEB.o);clear hx;clear c0 fc0;go_upto_region 11 with (fail);refine @Z8 _ wkD ?R3 _ _ _ _ ?h3 ?k3
  case h3 =>
   refine Zw3 w2 L G c A k UB EB lv lp md (zh (HLV.o.later Zg HL2.o)) HEB2 (zh ?hf3)
   case hf3 => exact FwA.mk' rfl rfl rfl rfl rfl rfl
  case k3 =>
  rintro a3 x3 ⟨hf, hx⟩;obtain rfl : w2 = x3 := hx.symm;rw [← HB3.o] at hf;obtain ⟨fr3, rfl⟩ := hf.opn;clear hf hx
  go_upto_if 83 with (fail)
  refine @Zfk _ wkE ?R4 ?Q4 _ _ _ _ ?h4 ?k4 ?q4
  case h4 =>
   refine Zw5 N F w2 u A1 A2 A3 k1 k2 k3 c A k UB EB lv lp md b3 (zh (HUX.o.later HL2.o)) HUB2 HEB2 (zh ?hf4)
   case hf4 => exact FwD.mk' rfl rfl rfl rfl rfl rfl rfl
  case q4 =>
   rintro a' x hx;obtain ⟨z, l, hz, hf⟩ := hx.f;obtain ⟨fr, rfl⟩ := hf.opn;exact bodyPost_ret (v := .tuple #[.int .i64 z, .int .i64 l]) (by simp [results, Tryz.results93, go_sem]) rfl ⟨z, l, rfl, by rw [HR.o, hx.r, hz]; simp, HLb.o.trans (HL2.o.trans hx.l)⟩
  case k4 =>
  rintro a4 w4 hx;obtain ⟨fr4, rfl⟩ := hx.f.opn;have HN4 := zh hx.r;have HL4 := zh (HL2.o.trans hx.l);have HUB4 := zh ((hx.l.block _ (Za HUB2.o)).trans HUB2.o);have HEB4 := zh ((hx.l.block _ (Za HEB2.o)).trans HEB2.o);clear hx
  go_upto_block 2 with (fail)
  refine @Zfk _ wkLp ?R5 ?Q5 _ _ _ _ ?h5 ?k5 ?q5
  case h5 =>
   refine Zvq n IH N F w4 u A1 A2 A3 k1 k2 k3 L G c A k UB EB lv lp md (zh (HUX.o.later HL4.o)) (zh (HLV.o.later Zg HL4.o)) (zh (HV.o.later (HLb.o.trans HL4.o))) HUB4 HEB4 (zh ?hf5)
   case hf5 => exact FwL.mk' rfl rfl rfl rfl rfl rfl rfl
  case q5 =>
   rintro a' x hx;obtain ⟨z, l, hz, hf⟩ := hx.f;obtain ⟨fr, rfl⟩ := hf.opn;exact bodyPost_ret (v := .tuple #[.int .i64 z, .int .i64 l]) (by simp [results, Tryz.results93, go_sem]) rfl ⟨z, l, rfl, by rw [HR.o, hx.r, hz]; simp, HLb.o.trans (HL4.o.trans hx.l)⟩
  case k5 =>
  rintro a5 w5 hx;obtain ⟨fr5, rfl⟩ := hx.f.opn;have HALL := zh hx.r;have HL5 := zh (HL4.o.trans hx.l);clear hx;go_wp2_with fail
  go_ret2
  exact ⟨0, 0, rfl, by rw [HR.o, HN2.o, HN4.o, HALL.o]; rfl, HLb.o.trans HL5.o⟩
section
def FcA (UB EB : Nat) (v : Value) (a : Act) : Prop := Fr 56 [(2, v), (3, .pointer (some ⟨UB, 0, none⟩)), (4, .pointer (some ⟨EB, 0, none⟩)), (6, .slice none 0 0)] a
section
variable {UB EB : Nat} {v : Value} {a : Act}
theorem FcA.opn (h : FcA UB EB v a) : ∃ f : Nat → Value, a = ⟨#[f 0, f 1, v, .pointer (some ⟨UB, 0, none⟩), .pointer (some ⟨EB, 0, none⟩), f 5, .slice none 0 0, f 7, f 8, f 9, f 10, f 11, f 12, f 13, f 14, f 15, f 16, f 17, f 18, f 19, f 20, f 21, f 22, f 23, f 24, f 25, f 26, f 27, f 28, f 29, f 30, f 31, f 32, f 33, f 34, f 35, f 36, f 37, f 38, f 39, f 40, f 41, f 42, f 43, f 44, f 45, f 46, f 47, f 48, f 49, f 50, f 51, f 52, f 53, f 54, f 55], []⟩ := by
 obtain ⟨f, e, hf⟩ := Fr.lit h;obtain ⟨h2, h3, h4, h6, -⟩ := h.has;refine ⟨f, e.trans ?_⟩;have k2 := Zi h2 (hf 2 (by omega));have k3 := Zi h3 (hf 3 (by omega));have k4 := Zi h4 (hf 4 (by omega));have k6 := Zi h6 (hf 6 (by omega));rw [← k2];rw [← k3];rw [← k4];rw [← k6]
 rfl
theorem FcA.mk' {A : Array Value} (hs : A.size = 56) (h2 : A[2]? = some (v)) (h3 : A[3]? = some (.pointer (some ⟨UB, 0, none⟩))) (h4 : A[4]? = some (.pointer (some ⟨EB, 0, none⟩))) (h6 : A[6]? = some (.slice none 0 0)) : FcA UB EB v ⟨A, []⟩ := ⟨hs, rfl, h2, h3, h4, h6, trivial⟩
end
def FcB (UB EB : Nat) (v : Value) (t : Bool) (a : Act) : Prop := Fr 56 [(2, v), (3, .pointer (some ⟨UB, 0, none⟩)), (4, .pointer (some ⟨EB, 0, none⟩)), (6, .slice none 0 0), (17, .bool t)] a
section
variable {UB EB : Nat} {v : Value} {t : Bool} {a : Act}
theorem FcB.opn (h : FcB UB EB v t a) : ∃ f : Nat → Value, a = ⟨#[f 0, f 1, v, .pointer (some ⟨UB, 0, none⟩), .pointer (some ⟨EB, 0, none⟩), f 5, .slice none 0 0, f 7, f 8, f 9, f 10, f 11, f 12, f 13, f 14, f 15, f 16, .bool t, f 18, f 19, f 20, f 21, f 22, f 23, f 24, f 25, f 26, f 27, f 28, f 29, f 30, f 31, f 32, f 33, f 34, f 35, f 36, f 37, f 38, f 39, f 40, f 41, f 42, f 43, f 44, f 45, f 46, f 47, f 48, f 49, f 50, f 51, f 52, f 53, f 54, f 55], []⟩ := by
 obtain ⟨f, e, hf⟩ := Fr.lit h;obtain ⟨h2, h3, h4, h6, h17, -⟩ := h.has;refine ⟨f, e.trans ?_⟩;have k2 := Zi h2 (hf 2 (by omega));have k3 := Zi h3 (hf 3 (by omega));have k4 := Zi h4 (hf 4 (by omega));have k6 := Zi h6 (hf 6 (by omega));have k17 := Zi h17 (hf 17 (by omega));rw [← k2];rw [← k3];rw [← k4];rw [← k6];rw [← k17]
 rfl
theorem FcB.mk' {A : Array Value} (hs : A.size = 56) (h2 : A[2]? = some (v)) (h3 : A[3]? = some (.pointer (some ⟨UB, 0, none⟩))) (h4 : A[4]? = some (.pointer (some ⟨EB, 0, none⟩))) (h6 : A[6]? = some (.slice none 0 0)) (h17 : A[17]? = some (.bool t)) : FcB UB EB v t ⟨A, []⟩ := ⟨hs, rfl, h2, h3, h4, h6, h17, trivial⟩
end
noncomputable def clT : Code := cL (cL (cR (Zal Tryz.f95)))
section
variable {u : Zt} {c : Ze} {l : List ByteArray} {m : Nat}
theorem Zw6 (h : vX m c = true) (hk : (c.kind == 4 || c.kind == 28) = true) : c.kids = [] := by
 cases m with
 | zero => cases h
 | succ m =>
  simp only [vX, xHd, Bool.and_eq_true, nJ] at h;have h5 := h.1.2.2.2.2.1;have : c.kind = 4 ∨ c.kind = 28 := by simpa using hk
  apply List.eq_nil_of_length_eq_zero
  have e4 : xHi 4 = 0 := by decide
  have e28 : xHi 28 = 0 := by decide
  rcases this with e | e <;> rw [e] at h5 <;> omega
theorem Zyf (h : vX m c = true) {i : Nat} (hi : i < c.kids.length) : ∃ m', vX m' c.kids[i] = true := by
 cases m with
 | zero => cases h
 | succ m =>
  simp only [vX, Bool.and_eq_true, List.all_eq_true, List.mem_range] at h;exact ⟨m, by rw [← Zcr hi]; exact h.2 i hi⟩
theorem Ztd (h : c.kids = []) : Zgs u c l = Ze8 u c.kind c.text l := by rw [Zil, h]; rfl
end
end
theorem Zw7 {a : Act} (w : World) (UB EB : Nat) (v : Value) (c : Ze) (A : Option Addr) (k : Nat) (HB : Hd (w.heap[EB]? = some (.cells #[.int .i64 c.kind, .string c.text, .int .i64 c.aB, .int .i64 c.line, .slice A c.kids.length k] 104 (0, 0)))) (HF : Hd (FcA UB EB v a)) : clT.wp Tryz.prog (Zc0 fun a' x => FcB UB EB v (c.kind == 4 || c.kind == 28) a' ∧ x = w) a w := by
 have c0 := Z1 HB.o;have fc0 := fz HB.o;obtain ⟨b4, hb4⟩ : ∃ z, (c.kind == 4) = z := ⟨_, rfl⟩;obtain ⟨b28, hb28⟩ : ∃ z, (c.kind == 28) = z := ⟨_, rfl⟩;rw [hb4, hb28];obtain ⟨fr, rfl⟩ := HF.o.opn;clear HF
 conv => arg 2; whnf
 cases b4 <;> cases b28 <;> (go_wp2_with fail; exact ⟨FcB.mk' rfl rfl rfl rfl rfl rfl, rfl⟩)
def Zxr (n : Nat) : Prop := ∀ (N : Nat) (w0 : World) (F : Nat → Prop) (u : Zt) (A1 A2 A3 : Option Addr) (k1 k2 k3 : Nat) (c : Ze) (A : Option Addr) (k : Nat) (w : World) (out : List ByteArray) (v : Value), UV N F w0 u A1 A2 A3 k1 k2 k3 → (∃ m, vX m c = true) → EV n F w0 c A k → Zb w0 w → Zax w0 w out v → out.length + Zc6 c ≤ 1000000 → Calls Tryz.prog 95 #[.agg #[.slice A1 u.aA.length k1, .slice A2 u.globals.length k2, .slice A3 u.procedures.length k3], c.val A k, v] w fun e w' => ∃ v', e = .returned v' ∧ Zax w0 w' (Zgs u c out) v' ∧ Zbt w v w' v'
theorem Zpi : ∀ n, Zxr n
 | n => fun N w0 F u A1 A2 A3 k1 k2 k3 c A k w out v hu hvx hv hl hr hc => by
  have IH : ∀ n', n = n' + 1 → Zxr n' := fun n' h => by subst h; exact Zpi n'
  unfold Ze.val;have HU := zh hu;have HVX := zh hvx;have HV := zh hv;have HR0 := zh hr;have hks1 := hv.len;obtain ⟨hn1, hn2, hn3⟩ := hu.len;obtain ⟨wa, hla, hub, hwa⟩ := aN w (.cells #[.slice A1 u.aA.length k1, .slice A2 u.globals.length k2, .slice A3 u.procedures.length k3] 52);have hlb : Zb wa (wa.alloc (.cells #[.int .i64 c.kind, .string c.text, .int .i64 c.aB, .int .i64 c.line, .slice A c.kids.length k] 104)) := (Zb.refl _).alloc _;have heb := heap_alloc_new wa (.cells #[.int .i64 c.kind, .string c.text, .int .i64 c.aB, .int .i64 c.line, .slice A c.kids.length k] 104);have hub2 := (hlb.block _ (Za hub)).trans hub;obtain ⟨wb, hwb⟩ : ∃ z, wa.alloc (.cells #[.int .i64 c.kind, .string c.text, .int .i64 c.aB, .int .i64 c.line, .slice A c.kids.length k] 104) = z := ⟨_, rfl⟩;rw [hwb] at hlb heb hub2;have HLb := zh (Zb.trans hla hlb);have HL0 := zh (Zb.trans hl HLb.o);have hsz : w.heap.size ≤ wa.heap.size := hla.size;have HNO := zh (show ∀ b, w.heap.size ≤ b → v.ownBlock ≠ some b from fun b h e => by have := (HR0.o.own e).2; omega);obtain ⟨UB, hUB⟩ : ∃ z, w.heap.size = z := ⟨_, rfl⟩;obtain ⟨EB, hEB⟩ : ∃ z, wa.heap.size = z := ⟨_, rfl⟩;rw [hUB] at hub2 hsz HNO;rw [hEB] at heb hsz;have HUB := zh hub2;have HEB := zh heb;have HNU := zh (HNO.o UB (Nat.le_refl _));have HNE := zh (HNO.o EB hsz);have HSTART := zh (⟨hwa, hwb, hUB, hEB⟩ : _ ∧ _ ∧ _ ∧ _);clear hla hlb hub heb hub2 hu hvx hv hr hl HNO hsz hwa hwb hUB hEB;have hcp := Zn4 c;obtain ⟨iS, hiS, hz0, hz1, hz2⟩ := info_parts Zd2
  have HX := zh HV.o.tx;go_enter Tryz.func95, Tryz.ntmps95;obtain ⟨hwa, hwb, hUB, hEB⟩ := HSTART.o;go_upto_region 1 with (fail);clear hwa hwb hUB hEB;refine @Z8 _ clT ?R1 _ _ _ _ ?h ?k
  case h =>
   refine Zw7 wb UB EB v c A k HEB (zh ?hf)
   case hf => exact FcA.mk' rfl rfl rfl rfl rfl
  case k =>
  rintro a1 w1 ⟨hf, hw⟩;obtain rfl : wb = w1 := hw.symm;clear hw;obtain ⟨fr0, rfl⟩ := hf.opn;clear hf
  go_upto_if 17 with (fail)
  obtain ⟨t, ht⟩ : ∃ z, (c.kind == 4 || c.kind == 28) = z := ⟨_, rfl⟩;rw [ht];have HTQ := zh ht;clear ht;have g0 := cz3 HUB.o;have fg0 := fz HUB.o;obtain ⟨c0, c1, c2, c3, c4⟩ := Z1 HEB.o;have fc0 := fz HEB.o
  cases t with
  | true =>
   have HCL := zh (show Zgs u c out = Ze8 u c.kind c.text out by
    obtain ⟨m, hm⟩ := HVX.o;exact Ztd (Zw6 hm HTQ.o))
   go_wp2_with fail;refine (Zhc N F wb u A1 A2 A3 k1 k2 k3 c.text (HU.o.later HL0.o)).mono ?_;rintro e w2 ⟨rfl, hb⟩;have HL2 := zh (show Zb wb w2 from hb);have HLL := zh (HL0.o.trans hb);obtain ⟨z, hz⟩ : ∃ z, (Zb1 u c.text).1 = z := ⟨_, rfl⟩;obtain ⟨z', hz'⟩ : ∃ z, (Zb1 u c.text).2 = z := ⟨_, rfl⟩;rw [hz, hz'];have HZ := zh hz;clear hb hz hz';clear g0 fg0;clear c0 fc0 c1 c2 c3 c4;have HB2 := zB HL2 HEB;obtain ⟨c0, c1, c2, c3, c4⟩ := Z1 HB2.o;have fc0 := fz HB2.o;have HR2 := zh (HR0.o.later (HLb.o.trans HL2.o))
   by_cases h0 : z = 0
   ·subst h0;go_wp2_with fail;refine (Zbv out v c.text _ _ HR2.o.is).mono ?_;rintro e w3 ⟨rfl, hw⟩;obtain rfl : w2 = w3 := hw.symm;have hge := Zdp out c.text;obtain ⟨q, hq⟩ : ∃ q, Zak out c.text = q := ⟨_, rfl⟩;rw [hq] at hge ⊢;have HQ := zh hge;clear hq hge hw
    by_cases hq0 : 0 ≤ q
    ·have v1 : decide (q < 0) = false := nU (by omega);have HQ2 := zh (show Zbm out c.text = true by rw [← HQ.o]; exact nT hq0);clear hq0;go_wp2_with fail;go_ret;exact ⟨_, rfl, by rw [HCL.o, Zqz HQ2.o]; exact HR2.o, (Zbt.ofLater v (HLb.o.trans HL2.o))⟩
    ·have v1 : decide (q < 0) = true := nT (by omega);have HQ2 := zh (show Zbm out c.text = false by rw [← HQ.o]; exact nU hq0);clear hq0;have hX : Zb w2 (w2.alloc (.cells #[.string c.text] Zc3)) := (Zb.refl _).alloc _;have HXL := zh hX;have HRX := zh (HR2.o.later hX);clear hX
     go_wp2_with (at_builtin; refine Zai (w0 := w0) rfl _ _ 24 rfl iS Tryz.underlying24 hiS hz0 hz1 hz2 rfl HRX.o (HLL.o.trans HXL.o) rfl (Zd1 w2 HX.o) (by simp; omega) ?_; intro v2 Y hrow hgr)
     go_ret;exact ⟨v2, rfl, by rw [HCL.o, Zo5 HTQ.o HZ.o HQ2.o]; exact hrow, (Zbt.ofLater v (HLb.o.trans (HL2.o.trans HXL.o))).trans hgr⟩
   ·have e0 : (z == (0 : Int)) = false := nH.2 h0;have HNZ := zh (show (Zb1 u c.text).1 ≠ 0 by rw [HZ.o]; exact h0);clear h0;go_wp2_with fail;go_ret;exact ⟨_, rfl, by rw [HCL.o, Zo4 HNZ.o]; exact HR2.o, (Zbt.ofLater v (HLb.o.trans HL2.o))⟩
  | false =>
   have HNM := zh (Zqy (u := u) (s := c.text) (l := out) HTQ.o);go_wp2_with fail
   go_loopw [2, 9] (fun ov iv wr => ∃ j : Nat, j ≤ c.kids.length ∧ iv = .int .i64 j ∧ Zax w0 wr (Zdh u (c.kids.take j) out) ov ∧ Zbt wb v wr ov) (fun _ iv _ => c.kids.length - (intOf iv).toNat)
   case atStart => exact ⟨0, Nat.zero_le _, rfl, by simp only [List.take_zero, Zdh]; exact HR0.o.later HLb.o, Zbt.refl _ _⟩
   case round =>
    obtain ⟨j, hj, rfl, hrr, hgr⟩ := hrel;rename_i ov _ wr;have HRr := zh hrr;have HGr := zh hgr;have HLr := zh (hgr.later0 HL0.o fun b e => (HR0.o.own e).1);have HUBr := zh (hgr.box HNU.o HUB.o);have HEBr := zh (hgr.box HNE.o HEB.o);clear hrr hgr;clear c0 fc0 c1 c2 c3 c4;clear g0 fg0;have g0 := cz3 HUBr.o;have fg0 := fz HUBr.o;obtain ⟨c0, c1, c2, c3, c4⟩ := Z1 HEBr.o;have fc0 := fz HEBr.o
    by_cases hlt : j < c.kids.length
    ·obtain ⟨n', rfl⟩ := HV.o.lev hlt;have hlt' : (j : Int) < (c.kids.length : Int) := by omega
     obtain ⟨kb, ko, Bk, q, eA, hca⟩ := HV.o.kid hlt;cases eA;have HKX := zh (Zcv hlt);obtain ⟨x, hx⟩ : ∃ z, z = c.kids[j] := ⟨_, rfl⟩;rw [← hx] at hca HKX;have HX2 := zh hx;have HCA := zh hca;have hkb := Nat.lt_of_lt_of_le hca.lt HLr.o.size;have d0 := (HLr.o.cell ⟨kb, _, none⟩ hca.lt).trans hca.c0;have d1 := (HLr.o.cell ⟨kb, _, none⟩ hca.lt).trans hca.c1;have d2 := (HLr.o.cell ⟨kb, _, none⟩ hca.lt).trans hca.c2;have d3 := (HLr.o.cell ⟨kb, _, none⟩ hca.lt).trans hca.c3;have d4 := (HLr.o.cell ⟨kb, _, none⟩ hca.lt).trans hca.c4;clear hca hx;have HLEN := zh (show (Zdh u (c.kids.take j) out).length + Zc6 x ≤ 1000000 by
      have h1 := Zhn u (c.kids.take j) out;have h3 := HKX.o
      omega)
     have HVK := zh (show ∃ m, vX m x = true by
      obtain ⟨m, hm⟩ := HVX.o;rw [HX2.o];exact Zyf hm hlt)
     go_upto_region 9 with (fail);clear d0 d1 d2 d3 d4;clear c0 fc0 c1 c2 c3 c4;clear g0 fg0;refine Zx [7, 8] [] (by kernel_rfl) (fun W hW => ?_);have hlW : Zb wr W := by rw [hW]; exact (Zb.refl _).drew
     have HA4 := zh hlW;have HLW := zh (HLr.o.trans hlW);have HUBW := yC hlW HUBr;have HEBW := yC hlW HEBr;have HRW := zh (HRr.o.later hlW);have hkb := Nat.lt_of_lt_of_le HCA.o.lt HLW.o.size;clear hlW hW;refine uU 0 47 (hy := fun x hx => by have hxu := (hx.block _ (Za HUBW.o)).trans HUBW.o; have hxe := (hx.block _ (Za HEBW.o)).trans HEBW.o; have g0 := cz3 hxu; have fg0 := fz hxu; obtain ⟨c0, c1, c2, c3, c4⟩ := Z1 hxe; have fc0 := fz hxe; have d0 := ((HLW.o.trans hx).cell ⟨kb, _, none⟩ HCA.o.lt).trans HCA.o.c0; have d1 := ((HLW.o.trans hx).cell ⟨kb, _, none⟩ HCA.o.lt).trans HCA.o.c1; have d2 := ((HLW.o.trans hx).cell ⟨kb, _, none⟩ HCA.o.lt).trans HCA.o.c2; have d3 := ((HLW.o.trans hx).cell ⟨kb, _, none⟩ HCA.o.lt).trans HCA.o.c3; have d4 := ((HLW.o.trans hx).cell ⟨kb, _, none⟩ HCA.o.lt).trans HCA.o.c4; go_simp <;> with_reducible rfl) ?_;simp only [yN];refine uU 1 48 ?_;simp only [yN];refine uU 2 49 (hy := fun x hx => by have hxu := (hx.block _ (Za HUBW.o)).trans HUBW.o; have hxe := (hx.block _ (Za HEBW.o)).trans HEBW.o; have g0 := cz3 hxu; have fg0 := fz hxu; obtain ⟨c0, c1, c2, c3, c4⟩ := Z1 hxe; have fc0 := fz hxe; have d0 := ((HLW.o.trans hx).cell ⟨kb, _, none⟩ HCA.o.lt).trans HCA.o.c0; have d1 := ((HLW.o.trans hx).cell ⟨kb, _, none⟩ HCA.o.lt).trans HCA.o.c1; have d2 := ((HLW.o.trans hx).cell ⟨kb, _, none⟩ HCA.o.lt).trans HCA.o.c2; have d3 := ((HLW.o.trans hx).cell ⟨kb, _, none⟩ HCA.o.lt).trans HCA.o.c3; have d4 := ((HLW.o.trans hx).cell ⟨kb, _, none⟩ HCA.o.lt).trans HCA.o.c4; go_simp <;> with_reducible rfl) ?_
     simp only [yN];refine uU 3 50 ?_;simp only [yN];refine uU 4 51 ?_;simp only [yN];refine uU 5 52 (hy := fun x hx => by have hxu := (hx.block _ (Za HUBW.o)).trans HUBW.o; have hxe := (hx.block _ (Za HEBW.o)).trans HEBW.o; have g0 := cz3 hxu; have fg0 := fz hxu; obtain ⟨c0, c1, c2, c3, c4⟩ := Z1 hxe; have fc0 := fz hxe; have d0 := ((HLW.o.trans hx).cell ⟨kb, _, none⟩ HCA.o.lt).trans HCA.o.c0; have d1 := ((HLW.o.trans hx).cell ⟨kb, _, none⟩ HCA.o.lt).trans HCA.o.c1; have d2 := ((HLW.o.trans hx).cell ⟨kb, _, none⟩ HCA.o.lt).trans HCA.o.c2; have d3 := ((HLW.o.trans hx).cell ⟨kb, _, none⟩ HCA.o.lt).trans HCA.o.c3; have d4 := ((HLW.o.trans hx).cell ⟨kb, _, none⟩ HCA.o.lt).trans HCA.o.c4; go_simp <;> with_reducible rfl) ?_;simp only [yN];refine uU 6 53 ?_;simp only [yN];refine Z6 [_, _] (by kernel_rfl) rfl rfl ?_;simp only [gA, gB, gC];go_wp2_with fail;refine (IH n' rfl N w0 F u A1 A2 A3 k1 k2 k3 x Bk q _ _ _ HU.o HVK.o HCA.o.ev HLW.o HRW.o HLEN.o).mono ?_;rintro e w5 ⟨v5, rfl, hr5, hg5⟩;have HR5 := zh hr5;have HG5 := zh ((HGr.o.late HA4.o).trans hg5);clear hr5 hg5;go_wp2_with fail
     go_roundw
     case rel => exact ⟨j + 1, by omega, by go_num, by rw [Zh5 u c.kids j hlt, ← HX2.o]; exact HR5.o, HG5.o⟩
     case measure => simp [intOf]; omega
    ·obtain rfl : j = c.kids.length := by omega
     go_wp2_with fail;go_ret;exact ⟨_, rfl, by have h := HRr.o; rw [List.take_length] at h; rw [Zil, HNM.o]; exact h, (Zbt.ofLater v HLb.o).trans HGr.o⟩
theorem Zhd (N : Nat) (F : Nat → Prop) (w : World) (u : Zt) (A1 A2 A3 : Option Addr) (k1 k2 k3 : Nat) (hu : UV N F w u A1 A2 A3 k1 k2 k3) (ht : Spc w) : Calls Tryz.prog 90 #[.agg #[.slice A1 u.aA.length k1, .slice A2 u.globals.length k2, .slice A3 u.procedures.length k3]] w fun e w' => e = .returned (.bool (okU (N + 1) u)) ∧ Below w.heap.size w w' := by
 have HU := zh hu;obtain ⟨hn1, hn2, hn3⟩ := hu.len;obtain ⟨wb, hlwb, HB, hwb⟩ := aN w (.cells #[.slice A1 u.aA.length k1, .slice A2 u.globals.length k2, .slice A3 u.procedures.length k3] 52);replace HB := zh HB;have HLb := zh hlwb;have HT := zh (ht.below hlwb);clear hlwb hu ht;obtain ⟨R, hR⟩ : ∃ z, z = okU (N + 1) u := ⟨_, rfl⟩;rw [← hR];obtain ⟨b1, hb1⟩ : ∃ b : Bool, decide ((8 : Int) < (u.aA.length : Int)) = b := ⟨_, rfl⟩;obtain ⟨b3, hb3⟩ : ∃ b : Bool, decide ((12 : Int) < (u.procedures.length : Int)) = b := ⟨_, rfl⟩;have HR := zh (show R = (!b1 && (!b3 && ((u.globals.all Za8 && decide ((u.globals.length : Int) ≤ 12)) && (u.aA.all Znb && u.procedures.all (Zjf (N + 1)))))) by
  rw [hR, ← hb1, ← hb3]; unfold okU; rw [Bool.eq_iff_iff];simp only [Bool.and_eq_true, nJ, Bool.not_eq_true', nI, Int.not_lt]
  constructor
  ·rintro ⟨a1, a2, a3, a4, a5⟩; exact ⟨by omega, by omega, ⟨a4, by omega⟩, a5⟩
  ·rintro ⟨a1, a3, ⟨a4, a2⟩, a5⟩; exact ⟨by omega, by omega, by omega, a4, a5⟩)
 clear hR;have g0 := cz3 HB.o;have fg0 := fz HB.o;go_enter Tryz.func90, Tryz.ntmps90
 cases b1 with
 | true => (go_wp2_with fail; go_ret; exact ⟨by rw [HR.o]; rfl, HLb.o⟩)
 | false =>
 cases b3 with
 | true => (go_wp2_with fail; go_ret; exact ⟨by rw [HR.o]; rfl, HLb.o⟩)
 | false =>
 go_wp2_with fail;refine (Zei u.globals _ 12 F _ (HU.o.later HLb.o).gl).mono ?_;rintro e w2 ⟨rfl, hb⟩;have HL2 := zh (show Zb wb w2 from hb);obtain ⟨q1, hq1⟩ : ∃ z, z = (u.globals.all Za8 && decide ((u.globals.length : Int) ≤ 12)) := ⟨_, rfl⟩;rw [← hq1];rw [← hq1] at HR;clear hb hq1;clear g0 fg0;have HB2 := zB HL2 HB;have g0 := cz3 HB2.o;have fg0 := fz HB2.o
 cases q1 with
 | false => (go_wp2_with fail; go_ret; exact ⟨by rw [HR.o]; rfl, HLb.o.trans HL2.o⟩)
 | true =>
 clear hb1 hb3;go_wp2_with fail
 go_loopw [4, 3] (fun _ iv wr => ∃ j : Nat, j ≤ u.aA.length ∧ iv = .int .i64 j ∧ Hd (∀ i (hi : i < u.aA.length), i < j → Znb u.aA[i] = true) ∧ Zb wb wr) (fun _ iv _ => u.aA.length - (intOf iv).toNat)
 case atStart => exact ⟨0, Nat.zero_le _, rfl, zh (fun i hi h => by omega), HL2.o⟩
 case round =>
  obtain ⟨j, hj, rfl, HJ1, hl⟩ := hrel;have HL := zh hl;clear hl;clear g0 fg0;have HBk := zB HL HB;have g0 := cz3 HBk.o;have fg0 := fz HBk.o
  by_cases hlt : j < u.aA.length
  ·have hlt' : (j : Int) < (u.aA.length : Int) := by omega
   have HUr := zh (HU.o.later (HLb.o.trans HL.o));obtain ⟨pb, po, As, ks, eA, hat⟩ := HUr.o.rct hlt;cases eA;have hfl := hat.len;obtain ⟨r, hv_⟩ : ∃ z, z = u.aA[j] := ⟨_, rfl⟩;rw [← hv_] at hat;have HV_ := zh hv_;have HAT := zh hat;have d0 := hat.c0;have d1 := hat.c1;have d2 := hat.c2;clear hat hv_;obtain ⟨w4, hla, HRB, hw4⟩ := aN wr (.cells #[.string r.name, .slice As r.fields.length ks, .int .i64 r.line] 101);replace HRB := zh HRB;have HL4 := zh (Zb.trans HL.o hla);have HW4 := zh hw4;obtain ⟨RB, hRB⟩ : ∃ z, wr.heap.size = z := ⟨_, rfl⟩;rw [hRB] at HRB;have HRE := zh hRB;have HA4 := zh hla;clear hla hw4 hRB;go_upto_region 7 with (fail);rw [HW4.o, HRE.o];clear d0 d1 d2;obtain ⟨p3, hp3⟩ : ∃ b : Bool, decide (r.line < 0) = b := ⟨_, rfl⟩;have HP := zh (show Znb r = ((Za8 r.name && ((r.fields.all Za8 && decide ((r.fields.length : Int) ≤ 6)) && (!p3)))) by
    unfold Znb;rw [← hp3, Bool.eq_iff_iff];simp only [Bool.and_eq_true, nJ, Bool.not_eq_true', nI, Int.not_lt, bne_eq_false_iff_eq]
    constructor
    ·rintro ⟨a1, a2, a3, a4⟩; exact ⟨a1, ⟨a3, by omega⟩, a4⟩
    ·rintro ⟨a1, ⟨a3, a2⟩, a4⟩; exact ⟨a1, by omega, a3, a4⟩)
   have HRBk := HRB;obtain ⟨r0, r1, r2⟩ := cz3 HRBk.o;have fr0 := fz HRBk.o;go_wp2_with fail;refine (Zcx r.name _ HAT.o.nm).mono ?_;rintro e w5 ⟨rfl, hb⟩;have HL5 := zh (HL4.o.trans hb);have HA5 := zh (HA4.o.trans hb);obtain ⟨p1, hp1⟩ : ∃ z, z = Za8 r.name := ⟨_, rfl⟩;rw [← hp1];rw [← hp1] at HP;have HRBk := yC hb HRBk;clear hb hp1 r0 fr0 r1 r2;obtain ⟨r0, r1, r2⟩ := cz3 HRBk.o;have fr0 := fz HRBk.o
   cases p1 with
   | false => (go_wp2_with fail; go_ret; exact ⟨by rw [HR.o, Zbc hlt (by rw [← HV_.o, HP.o]; rfl)]; first | rfl | simp, HLb.o.trans HL5.o⟩)
   | true =>
   go_wp2_with fail;refine (Zei r.fields _ 6 F _ (HAT.o.fl.keep Zg (fun _ h => h) (Zc.later HA5.o))).mono ?_;rintro e w6 ⟨rfl, hb⟩;have HL6 := zh (HL5.o.trans hb);have HA6 := zh (HA5.o.trans hb);obtain ⟨p2, hp2⟩ : ∃ z, z = (r.fields.all Za8 && decide ((r.fields.length : Int) ≤ 6)) := ⟨_, rfl⟩;rw [← hp2];rw [← hp2] at HP;have HRBk := yC hb HRBk;clear hb hp2 r0 fr0 r1 r2;obtain ⟨r0, r1, r2⟩ := cz3 HRBk.o;have fr0 := fz HRBk.o
   cases p2 with
   | false => (go_wp2_with fail; go_ret; exact ⟨by rw [HR.o, Zbc hlt (by rw [← HV_.o, HP.o]; rfl)]; first | rfl | simp, HLb.o.trans HL6.o⟩)
   | true =>
   cases p3 with
   | true => (go_wp2_with fail; go_ret; exact ⟨by rw [HR.o, Zbc hlt (by rw [← HV_.o, HP.o]; rfl)]; first | rfl | simp, HLb.o.trans HL6.o⟩)
   | false =>
   go_wp2_with fail
   go_roundw
   case rel => exact ⟨j + 1, by omega, by go_num, zh (Zhm HJ1.o (fun hi => by rw [← HV_.o, HP.o]; rfl)), HL6.o⟩
   case measure => simp [intOf]; omega
  ·obtain rfl : j = u.aA.length := by omega
   go_wp2_with fail
   go_loopw [6, 5] (fun _ iv wr => ∃ j : Nat, j ≤ u.procedures.length ∧ iv = .int .i64 j ∧ Hd (∀ i (hi : i < u.procedures.length), i < j → Zjf (N + 1) u.procedures[i] = true) ∧ Zb wb wr) (fun _ iv _ => u.procedures.length - (intOf iv).toNat)
   case atStart => exact ⟨0, Nat.zero_le _, rfl, zh (fun i hi h => by omega), HL.o⟩
   case round =>
    obtain ⟨j, hj, rfl, HJ2, hl⟩ := hrel;have HL := zh hl;clear hl;clear g0 fg0;have HBk := zB HL HB;have g0 := cz3 HBk.o;have fg0 := fz HBk.o
    by_cases hlt : j < u.procedures.length
    ·have hlt' : (j : Int) < (u.procedures.length : Int) := by omega
     have HUr := zh (HU.o.later (HLb.o.trans HL.o));obtain ⟨pb, po, Ap, Al, Ab, kp, kl, kb, eA, hat⟩ := HUr.o.proc hlt;cases eA;have hlp := hat.lp;have hll := hat.ll;obtain ⟨q, hv_⟩ : ∃ z, z = u.procedures[j] := ⟨_, rfl⟩;rw [← hv_] at hat;have HV_ := zh hv_;have HAT := zh hat;have d0 := hat.c0;have d1 := hat.c1;have d2 := hat.c2;have d3 := hat.c3;have d4 := hat.c4;have d5 := hat.c5;have d6 := hat.c6;have d7 := hat.c7;have d8 := hat.c8;clear hat hv_;obtain ⟨w4, hla, HRB, hw4⟩ := aN wr (.cells #[.string q.name, .slice Ap q.params.length kp, .slice Al q.locals.length kl, .int .i64 q.body.kind, .string q.body.text, .int .i64 q.body.aB, .int .i64 q.body.line, .slice Ab q.body.kids.length kb, .int .i64 q.line] 106);replace HRB := zh HRB;have HL4 := zh (Zb.trans HL.o hla);have HW4 := zh hw4;obtain ⟨RB, hRB⟩ : ∃ z, wr.heap.size = z := ⟨_, rfl⟩;rw [hRB] at HRB;have HRE := zh hRB;have HA4 := zh hla;clear hla hw4 hRB;go_upto_region 13 with (fail);rw [HW4.o, HRE.o];clear d0 d1 d2 d3 d4 d5 d6 d7 d8;obtain ⟨p4, hp4⟩ : ∃ b : Bool, decide (q.line < 0) = b := ⟨_, rfl⟩;obtain ⟨p5, hp5⟩ : ∃ b : Bool, (q.body.kind != 14) = b := ⟨_, rfl⟩;have HP := zh (show Zjf (N + 1) q = ((Za8 q.name && ((q.params.all Za8 && decide ((q.params.length : Int) ≤ 6)) && ((q.locals.all Za8 && decide ((q.locals.length : Int) ≤ 8)) && (!p4 && (!p5 && (okX (N + 1) q.body))))))) by
      unfold Zjf;rw [← hp4, ← hp5, Bool.eq_iff_iff];simp only [Bool.and_eq_true, nJ, Bool.not_eq_true', nI, Int.not_lt, bne_eq_false_iff_eq]
      constructor
      ·rintro ⟨a1, a2, a3, a4, a5, a6, a7, a8⟩; exact ⟨a1, ⟨a4, by omega⟩, ⟨a5, by omega⟩, a6, a7, a8⟩
      ·rintro ⟨a1, ⟨a4, a2⟩, ⟨a5, a3⟩, a6, a7, a8⟩; exact ⟨a1, by omega, by omega, a4, a5, a6, a7, a8⟩)
     have HRBk := HRB;obtain ⟨r0, r1, r2, r3, r4, r5, r6, r7, r8⟩ := cz9 HRBk.o;have fr0 := fz HRBk.o;go_wp2_with fail;refine (Zcx q.name _ HAT.o.nm).mono ?_;rintro e w5 ⟨rfl, hb⟩;have HL5 := zh (HL4.o.trans hb);have HA5 := zh (HA4.o.trans hb);obtain ⟨p1, hp1⟩ : ∃ z, z = Za8 q.name := ⟨_, rfl⟩;rw [← hp1];rw [← hp1] at HP;have HRBk := yC hb HRBk;clear hb hp1 r0 fr0 r1 r2 r3 r4 r5 r6 r7 r8;obtain ⟨r0, r1, r2, r3, r4, r5, r6, r7, r8⟩ := cz9 HRBk.o;have fr0 := fz HRBk.o
     cases p1 with
     | false => (go_wp2_with fail; go_ret; exact ⟨by rw [HR.o, Zbc hlt (by rw [← HV_.o, HP.o]; rfl)]; first | rfl | simp, HLb.o.trans HL5.o⟩)
     | true =>
     go_wp2_with fail;refine (Zei q.params _ 6 F _ (HAT.o.ps.keep Zg (fun _ h => h) (Zc.later HA5.o))).mono ?_;rintro e w6 ⟨rfl, hb⟩;have HL6 := zh (HL5.o.trans hb);have HA6 := zh (HA5.o.trans hb);obtain ⟨p2, hp2⟩ : ∃ z, z = (q.params.all Za8 && decide ((q.params.length : Int) ≤ 6)) := ⟨_, rfl⟩;rw [← hp2];rw [← hp2] at HP;have HRBk := yC hb HRBk;clear hb hp2 r0 fr0 r1 r2 r3 r4 r5 r6 r7 r8;obtain ⟨r0, r1, r2, r3, r4, r5, r6, r7, r8⟩ := cz9 HRBk.o;have fr0 := fz HRBk.o
     cases p2 with
     | false => (go_wp2_with fail; go_ret; exact ⟨by rw [HR.o, Zbc hlt (by rw [← HV_.o, HP.o]; rfl)]; first | rfl | simp, HLb.o.trans HL6.o⟩)
     | true =>
     go_wp2_with fail;refine (Zei q.locals _ 8 F _ (HAT.o.ls.keep Zg (fun _ h => h) (Zc.later HA6.o))).mono ?_;rintro e w7 ⟨rfl, hb⟩;have HL7 := zh (HL6.o.trans hb);have HA7 := zh (HA6.o.trans hb);obtain ⟨p3, hp3⟩ : ∃ z, z = (q.locals.all Za8 && decide ((q.locals.length : Int) ≤ 8)) := ⟨_, rfl⟩;rw [← hp3];rw [← hp3] at HP;have HRBk := yC hb HRBk;clear hb hp3 r0 fr0 r1 r2 r3 r4 r5 r6 r7 r8;obtain ⟨r0, r1, r2, r3, r4, r5, r6, r7, r8⟩ := cz9 HRBk.o;have fr0 := fz HRBk.o
     cases p3 with
     | false => (go_wp2_with fail; go_ret; exact ⟨by rw [HR.o, Zbc hlt (by rw [← HV_.o, HP.o]; rfl)]; first | rfl | simp, HLb.o.trans HL7.o⟩)
     | true =>
     cases p4 with
     | true => (go_wp2_with fail; go_ret; exact ⟨by rw [HR.o, Zbc hlt (by rw [← HV_.o, HP.o]; rfl)]; first | rfl | simp, HLb.o.trans HL7.o⟩)
     | false =>
     cases p5 with
     | true => (go_wp2_with fail; go_ret; exact ⟨by rw [HR.o, Zbc hlt (by rw [← HV_.o, HP.o]; rfl)]; first | rfl | simp, HLb.o.trans HL7.o⟩)
     | false =>
     go_wp2_with fail;refine (Zlo N _ F q.body Ab kb (HAT.o.ev.later HA7.o)).mono ?_;rintro e w8 ⟨rfl, hb⟩;have HL8 := zh (HL7.o.trans hb);have HA8 := zh (HA7.o.trans hb);obtain ⟨p6, hp6⟩ : ∃ z, z = okX (N + 1) q.body := ⟨_, rfl⟩;rw [← hp6];rw [← hp6] at HP;have HRBk := yC hb HRBk;clear hb hp6 r0 fr0 r1 r2 r3 r4 r5 r6 r7 r8;obtain ⟨r0, r1, r2, r3, r4, r5, r6, r7, r8⟩ := cz9 HRBk.o;have fr0 := fz HRBk.o
     cases p6 with
     | false => (go_wp2_with fail; go_ret; exact ⟨by rw [HR.o, Zbc hlt (by rw [← HV_.o, HP.o]; rfl)]; first | rfl | simp, HLb.o.trans HL8.o⟩)
     | true =>
     go_wp2_with fail
     go_roundw
     case rel => exact ⟨j + 1, by omega, by go_num, zh (Zhm HJ2.o (fun hi => by rw [← HV_.o, HP.o]; rfl)), HL8.o⟩
     case measure => simp [intOf]; omega
    ·obtain rfl : j = u.procedures.length := by omega
     go_wp2_with fail;go_ret;exact ⟨by rw [HR.o, Zk0 (fun i hi => HJ1.o i hi hi), Zk0 (fun i hi => HJ2.o i hi hi)]; rfl, HLb.o.trans HL.o⟩
theorem Zpj (N : Nat) (F : Nat → Prop) (w : World) (u : Zt) (A1 A2 A3 : Option Addr) (k1 k2 k3 : Nat) (hu : UV N F w u A1 A2 A3 k1 k2 k3) (ht : Spc w) (hok : okU (N + 1) u = true) (i : Nat) (hi : i < u.procedures.length) : Calls Tryz.prog 54 #[.agg #[.slice A1 u.aA.length k1, .slice A2 u.globals.length k2, .slice A3 u.procedures.length k3], .int .i64 i] w fun e w' => ∃ v', e = .returned v' ∧ Zax w w' (Zbn u u.procedures[i]) v' ∧ Zb w w' := by
 have hlen0 := hu.len;obtain ⟨iS, hiS, hz0, hz1, hz2⟩ := info_parts Zd2;have HU := zh hu;obtain ⟨hn1, hn2, hn3⟩ := hu.len;obtain ⟨wb, hlwb, HB, hwb⟩ := aN w (.cells #[.slice A1 u.aA.length k1, .slice A2 u.globals.length k2, .slice A3 u.procedures.length k3] 52);replace HB := zh HB;have HLb := zh hlwb;have HT := zh ht;clear ht;clear hlwb hu;have hi' : (i : Int) < (u.procedures.length : Int) := by omega
 have hi64 := (Za9 hok).2.2;have HOK := zh hok;have HOQ := zh (Zcg (Zex hok hi));clear hok;obtain ⟨pb, po, Ap, Al, Ab, kp, kl, kb, eA, hat⟩ := HU.o.proc hi;cases eA;have hlp := hat.lp;have hll := hat.ll;obtain ⟨q, hq⟩ : ∃ z, z = u.procedures[i] := ⟨_, rfl⟩;rw [← hq] at hat HOQ hlp hll ⊢;have HAT := zh hat;clear hq hat;have HUB := HB;have g0 := cz3 HB.o;have fg0 := fz HB.o;go_enter Tryz.func54, Tryz.ntmps54;go_wp2_with fail;refine (Zhd N F wb u _ _ _ k1 k2 k3 (HU.o.later HLb.o) (HT.o.below HLb.o)).mono ?_;rintro e w2 ⟨rfl, hb⟩;rw [HOK.o];have HL2 := zh (show Zb wb w2 from hb);clear hb;clear g0 fg0;have HB2 := zB HL2 HB;have g0 := cz3 HB2.o;have fg0 := fz HB2.o;have v1 : decide ((i : Int) < 0) = false := nU (by omega);have v2 : decide ((u.procedures.length : Int) ≤ (i : Int)) = false := nU (by omega);go_upto_region 3 with (fail);have hpb := Nat.lt_of_lt_of_le HAT.o.lt (HLb.o.trans HL2.o).size;have d0 := ((HLb.o.trans HL2.o).cell ⟨pb, _, none⟩ HAT.o.lt).trans HAT.o.c0;have d1 := ((HLb.o.trans HL2.o).cell ⟨pb, _, none⟩ HAT.o.lt).trans HAT.o.c1;have d2 := ((HLb.o.trans HL2.o).cell ⟨pb, _, none⟩ HAT.o.lt).trans HAT.o.c2;have d3 := ((HLb.o.trans HL2.o).cell ⟨pb, _, none⟩ HAT.o.lt).trans HAT.o.c3;have d4 := ((HLb.o.trans HL2.o).cell ⟨pb, _, none⟩ HAT.o.lt).trans HAT.o.c4;have d5 := ((HLb.o.trans HL2.o).cell ⟨pb, _, none⟩ HAT.o.lt).trans HAT.o.c5;have d6 := ((HLb.o.trans HL2.o).cell ⟨pb, _, none⟩ HAT.o.lt).trans HAT.o.c6;have d7 := ((HLb.o.trans HL2.o).cell ⟨pb, _, none⟩ HAT.o.lt).trans HAT.o.c7
 have d8 := ((HLb.o.trans HL2.o).cell ⟨pb, _, none⟩ HAT.o.lt).trans HAT.o.c8;obtain ⟨w4, hla, hrb, hw4⟩ := aN w2 (.cells #[.string q.name, .slice Ap q.params.length kp, .slice Al q.locals.length kl, .int .i64 q.body.kind, .string q.body.text, .int .i64 q.body.aB, .int .i64 q.body.line, .slice Ab q.body.kids.length kb, .int .i64 q.line] 106);have HA4 := zh hla;have HL4 := zh (Zb.trans (HLb.o.trans HL2.o) hla);have HW4 := zh hw4;have HUB4 := yC hla HB2;obtain ⟨QB, hQB⟩ : ∃ z, w2.heap.size = z := ⟨_, rfl⟩;rw [hQB] at hrb;have HQB := zh hrb;have HQE := zh hQB;clear hla hw4 hQB hrb;go_upto_region 4 with (fail);rw [HW4.o, HQE.o];clear d0 d1 d2 d3 d4 d5 d6 d7 d8;clear g0 fg0;refine Zx [6, 7] [] (by kernel_rfl) (fun W hW => ?_);have hlW : Zb w4 W := by rw [hW]; exact (Zb.refl _).drew
 have HLW := zh (HL4.o.trans hlW);have HQW := yC hlW HQB;have HUW := yC hlW HUB4;have HX1 := zh (show Zb W (W.alloc (.cells #[] Zc3)) from (Zb.refl _).alloc _);have HP6 := zh (show q.params.length ≤ 2097152 by have := HOQ.o.1; omega);clear hlW hW;refine uU 1 27 ?_;simp only [yN];refine uU 2 28 (hy := fun x hx => by have hxq := (hx.block _ (Za HQW.o)).trans HQW.o; have r0 := cz9 hxq; have fr0 := fz hxq; go_simp <;> with_reducible rfl) ?_;simp only [yN];refine uU 4 30 ?_;simp only [yN];refine uU 5 31 (hy := fun x hx => by have hxq := (hx.block _ (Za HQW.o)).trans HQW.o; have r0 := cz9 hxq; have fr0 := fz hxq; go_simp <;> with_reducible rfl) ?_;simp only [yN];refine Z5 0 (by kernel_rfl) rfl rfl ?_;go_wp2_with fail;refine ⟨(Zb.refl _).alloc _, ?_⟩;refine Z5 3 (by kernel_rfl) rfl rfl ?_;simp only [gA, gB, gC]
 go_wp2_with (at_builtin; refine Zdi (w0 := W) rfl _ _ 24 rfl iS Tryz.underlying24 hiS hz0 hz1 hz2 rfl (Zco rfl) (Nat.le_refl _) HX1.o rfl ((HAT.o.ps.later Zg HLW.o).later Zg HX1.o) HP6.o ?_; intro v1 Y1 h1 hl1)
 have HN1 := zh h1;have HY1 := zh hl1;clear h1 hl1;refine ⟨HY1.o, ?_⟩;refine Z6 [_, _] (by kernel_rfl) rfl rfl ?_;simp only [gA, gB, gC];have HWY := zh (HX1.o.trans HY1.o);have HYL := zh (HLW.o.trans HWY.o);have HUY := zB HWY HUW;have HQY := zB HWY HQW;have HNU := zh (show v1.ownBlock ≠ some w.heap.size from fun e => by have := (HN1.o.own e).1; have := Za HUW.o; omega);have HNQ := zh (show v1.ownBlock ≠ some QB from fun e => by have := (HN1.o.own e).1; have := Za HQW.o; omega);have hlen2 : q.params.length + q.locals.length ≤ 2097152 := by have := HOQ.o.1; have := HOQ.o.2.1; omega
 go_wp2_with (at_builtin; refine Zai (w0 := W) rfl _ _ 24 rfl iS Tryz.underlying24 hiS hz0 hz1 hz2 rfl HN1.o HWY.o rfl (HAT.o.ls.later Zg HYL.o) hlen2 ?_; intro v2 Y2 h2 hg2; have HN2 := zh h2; have hl5 := hg2.later0 HWY.o fun b e => (HN1.o.own e).1; have HL5 := zh hl5; have HUY2 := zh (hg2.box HNU.o HUY.o); have HQY2 := zh (hg2.box HNQ.o HQY.o); clear h2 hg2 hl5; have g0 := cz3 HUY2.o; have fg0 := fz HUY2.o; have r0 := cz9 HQY2.o; have fr0 := fz HQY2.o)
 refine (Zpi N N W F u _ _ _ k1 k2 k3 q.body Ab kb Y2 (q.params ++ q.locals) v2 (HU.o.later HLW.o) ⟨_, HOQ.o.2.2.2.2.1⟩ (HAT.o.ev.later HLW.o) HL5.o HN2.o (by rw [List.length_append]; have := HOQ.o; omega)).mono ?_;rintro e w6 ⟨v6, rfl, hr6, hg6⟩;have HR6 := zh (hr6.base HLW.o.size);have HL6 := zh (HLW.o.trans (hg6.later0 HL5.o fun b e => (HN2.o.own e).1));clear hr6 hg6;go_wp2_with fail;go_ret;exact ⟨_, rfl, HR6.o, HL6.o⟩
theorem Zpk (N : Nat) (F : Nat → Prop) (w : World) (u : Zt) (A1 A2 A3 : Option Addr) (k1 k2 k3 : Nat) (hu : UV N F w u A1 A2 A3 k1 k2 k3) (ht : Spc w) : Calls Tryz.prog 53 #[.agg #[.slice A1 u.aA.length k1, .slice A2 u.globals.length k2, .slice A3 u.procedures.length k3]] w (CkP N u w) := by
 obtain ⟨iS, hiS, hz0, hz1, hz2⟩ := info_parts Zd2;have HU := zh hu;obtain ⟨hn1, hn2, hn3⟩ := hu.len;obtain ⟨wb, hlwb, HB, hwb⟩ := aN w (.cells #[.slice A1 u.aA.length k1, .slice A2 u.globals.length k2, .slice A3 u.procedures.length k3] 52);replace HB := zh HB;have HLb := zh hlwb;have HT := zh (ht.below hlwb);clear ht;clear hlwb hu;have g0 := cz3 HB.o;have fg0 := fz HB.o;go_enter Tryz.func53, Tryz.ntmps53;go_wp2_with fail;refine (Zhd N F wb u A1 A2 A3 k1 k2 k3 (HU.o.later HLb.o) HT.o).mono ?_;rintro e w2 ⟨rfl, hb⟩;have HL2 := zh (show Zb wb w2 from hb);obtain ⟨t, ht⟩ : ∃ z, z = okU (N + 1) u := ⟨_, rfl⟩;rw [← ht];have HOKT := zh ht.symm;clear hb ht;clear g0 fg0;have HB2 := zB HL2 HB;have g0 := cz3 HB2.o;have fg0 := fz HB2.o
 cases t with
 | false =>
  go_wp2_with fail
  go_ret2
  exact ⟨⟨1, _, rfl, ⟨fun h => (by cases h), fun h => absurd h.ok (by rw [HOKT.o]; decide)⟩, HLb.o.trans HL2.o⟩⟩
 | true =>
 obtain ⟨h8, h12, h12'⟩ := Za9 HOKT.o;go_wp2_with fail;refine (Zgn w2).mono ?_;rintro e w3 ⟨rfl, hw3⟩;have HN3 := zh (show Zax wb w3 (Zav Zd0) _ by rw [hw3]; exact Ztc (HL2.o.size));have HL3 := zh (HL2.o.trans (show Zb w2 w3 by rw [hw3]; exact (Zb.refl _).alloc _));clear hw3;clear g0 fg0;have HB3 := zB HL3 HB;have g0 := cz3 HB3.o;have fg0 := fz HB3.o;go_wp2_with fail
 go_loopw [4, 5] (fun ov iv wr => ∃ j : Nat, j ≤ u.aA.length ∧ iv = .int .i64 j ∧ Hd (∀ i (h : i < u.aA.length), i < j → Zov u i u.aA[i] = true) ∧ Zax wb wr (Zav Zd0 ++ ((Zba u).take j)) ov ∧ Zb wb wr) (fun _ iv _ => u.aA.length - (intOf iv).toNat)
 case atStart => exact ⟨0, Nat.zero_le _, rfl, zh (fun i _ h => by omega), by simpa using HN3.o, HL3.o⟩
 case round =>
  obtain ⟨j, hj, rfl, HJ1, hsn, hl⟩ := hrel;obtain ⟨S, hS⟩ : ∃ z, z = Zav Zd0 ++ ((Zba u).take j) := ⟨_, rfl⟩;rw [← hS] at hsn;obtain ⟨Ao, co, rfl, -, -⟩ := hsn.form;rename_i wr;have HS := zh hS;have HSL := zh (show S.length ≤ 100 by rw [hS]; simp only [List.length_append, Zlx]; simp [Zba, Zdd]; omega);clear hS;have HL := zh hl;have HSr := zh hsn;have HNU := zh (show Value.ownBlock (.slice Ao S.length co) ≠ some w.heap.size from fun e => by have := (hsn.own e).1; have := Za HB.o; omega);clear hl hsn;clear g0 fg0;have HBk := zB HL HB;have g0 := cz3 HBk.o;have fg0 := fz HBk.o
  by_cases hlt : j < u.aA.length
  ·have hlt' : (j : Int) < (u.aA.length : Int) := by omega
   have HUr := zh (HU.o.later (HLb.o.trans HL.o));obtain ⟨pb, po, As, ks, eA, hat⟩ := HUr.o.rct hlt;cases eA;have hfl := hat.len;obtain ⟨r, hv_⟩ : ∃ z, z = u.aA[j] := ⟨_, rfl⟩;rw [← hv_] at hat hfl;have HV_ := zh hv_;have HAT := zh hat;have HNZ := zh hat.nm;have hpb := hat.lt;have d0 := hat.c0;have d1 := hat.c1;have d2 := hat.c2;clear hat hv_;have HOKJ := zh (show Zov u j u.aA[j] = (!(tkB ((Zba u).take j) r.name) && !twB r.fields) by rw [← HV_.o]; rfl);have HHAS := zh (show tkB ((Zba u).take j) r.name = Zbm S r.name by rw [HS.o]; exact Zns _ _);obtain ⟨t, ht⟩ : ∃ z, z = tkB ((Zba u).take j) r.name := ⟨_, rfl⟩;rw [← ht] at HOKJ HHAS;clear ht;go_wp2_with fail;refine (Zbv S _ r.name _ wr HSr.o.is).mono ?_;rintro e wz ⟨rfl, hw⟩;obtain rfl : wr = wz := hw.symm;have hge := Zdp S r.name;rw [← HHAS.o] at hge;obtain ⟨z, hz⟩ : ∃ z, z = Zak S r.name := ⟨_, rfl⟩;rw [← hz] at hge ⊢;clear hw hz
   cases t with
   | true =>
    go_upto_region 8 with (fail);refine Zb8 (fun W hW => ?_);have hlW : Zb wr W := by rw [hW]; exact (Zb.refl _).drew
    have HLW := zh hlW;have HEW := yC hlW HBk;have hpb2 := Nat.lt_of_lt_of_le hpb HLW.o.size;have d2 := (HLW.o.cell ⟨pb, _, none⟩ hpb).trans d2;clear hlW hW d0 d1;clear g0 fg0;have g0 := cz3 HEW.o;have fg0 := fz HEW.o
    repeat go_big_quiet_step (fail)
    refine wpQuiet_nil ?_;go_wp2_with fail
    go_ret2
    exact ⟨⟨2, _, rfl, ⟨fun h => (by cases h), fun h => absurd (h.nm.rc j hlt) (by rw [HOKJ.o]; simp)⟩, HLb.o.trans (HL.o.trans HLW.o)⟩⟩
   | false =>
   go_wp2_with fail;refine (Zj3 r.fields _ F wr HAT.o.fl).mono ?_;rintro e wz ⟨rfl, hw⟩;obtain rfl : wr = wz := hw.symm;obtain ⟨t2, ht2⟩ : ∃ z, z = twB r.fields := ⟨_, rfl⟩;rw [← ht2];rw [← ht2] at HOKJ;clear hw ht2
   cases t2 with
   | true =>
    go_upto_region 8 with (fail);refine Zb8 (fun W hW => ?_);have hlW : Zb wr W := by rw [hW]; exact (Zb.refl _).drew
    have HLW := zh hlW;have HEW := yC hlW HBk;have hpb2 := Nat.lt_of_lt_of_le hpb HLW.o.size;have d2 := (HLW.o.cell ⟨pb, _, none⟩ hpb).trans d2;clear hlW hW d0 d1;clear g0 fg0;have g0 := cz3 HEW.o;have fg0 := fz HEW.o
    repeat go_big_quiet_step (fail)
    refine wpQuiet_nil ?_;go_wp2_with fail
    go_ret2
    exact ⟨⟨2, _, rfl, ⟨fun h => (by cases h), fun h => absurd (h.nm.rc j hlt) (by rw [HOKJ.o]; simp)⟩, HLb.o.trans (HL.o.trans HLW.o)⟩⟩
   | false =>
    have hX : Zb wr (wr.alloc (.cells #[.string r.name] Zc3)) := (Zb.refl _).alloc _;have HXL := zh hX;have HRX := zh (HSr.o.later hX);clear hX
    go_wp2_with (at_builtin; refine Zai (w0 := wb) rfl _ _ 24 rfl iS Tryz.underlying24 hiS hz0 hz1 hz2 rfl HRX.o (HL.o.trans HXL.o) rfl (Zd1 wr HNZ.o) (by have := HSL.o; simp; omega) ?_; intro v2 Y hrow hgr; have HROW := zh hrow; have HLY := zh (hgr.later0 (HL.o.trans HXL.o) fun b e => (HRX.o.own e).1); clear hrow hgr)
    go_roundw
    case rel => exact ⟨j + 1, by omega, by go_num, zh (Zda HJ1.o (fun hi => by rw [HOKJ.o]; rfl)), by rw [show (Zba u).take (j + 1) = (Zba u).take j ++ [r.name] by rw [HV_.o]; exact Zfj hlt, ← List.append_assoc, ← HS.o]; exact HROW.o, HLY.o⟩
    case measure => simp [intOf]; omega
  ·obtain rfl : j = u.aA.length := by omega
   clear hlt;go_wp2_with fail
   go_loopw [4, 6] (fun ov iv wr => ∃ j : Nat, j ≤ u.globals.length ∧ iv = .int .i64 j ∧ Hd (∀ i (h : i < u.globals.length), i < j → Zow u i u.globals[i] = true) ∧ Zax wb wr (Zav Zd0 ++ (Zba u ++ u.globals.take j)) ov ∧ Zb wb wr) (fun _ iv _ => u.globals.length - (intOf iv).toNat)
   case atStart => exact ⟨0, Nat.zero_le _, rfl, zh (fun i _ h => by omega), by rw [List.take_zero, List.append_nil, ← show S = Zav Zd0 ++ Zba u by rw [HS.o, show u.aA.length = (Zba u).length by simp [Zba], List.take_length]]; exact HSr.o, HL.o⟩
   case round =>
    obtain ⟨j, hj, rfl, HJ2, hsn, hl⟩ := hrel;obtain ⟨S, hS⟩ : ∃ z, z = Zav Zd0 ++ (Zba u ++ u.globals.take j) := ⟨_, rfl⟩;rw [← hS] at hsn;obtain ⟨Ao, co, rfl, -, -⟩ := hsn.form;rename_i wr;have HS := zh hS;have HSL := zh (show S.length ≤ 100 by rw [hS]; simp only [List.length_append, Zlx]; simp [Zba, Zdd]; omega);clear hS;have HL := zh hl;have HSr := zh hsn;have HNU := zh (show Value.ownBlock (.slice Ao S.length co) ≠ some w.heap.size from fun e => by have := (hsn.own e).1; have := Za HB.o; omega);clear hl hsn;clear g0 fg0;have HBk := zB HL HB;have g0 := cz3 HBk.o;have fg0 := fz HBk.o
    by_cases hlt : j < u.globals.length
    ·have hlt' : (j : Int) < (u.globals.length : Int) := by omega
     obtain ⟨A', c', eA, _, _, hel⟩ := (HU.o.later (HLb.o.trans HL.o)).gl;cases eA;obtain ⟨gb, go, cs, rfl, -, hgb, ⟨rfl, hgz⟩, hgc⟩ := hel j hlt;have d0 := hgc 0 _ rfl;simp only [Nat.mul_one, Nat.add_zero] at d0;clear hgc hel;obtain ⟨g, hv_⟩ : ∃ z, z = u.globals[j] := ⟨_, rfl⟩;rw [← hv_] at d0 hgz;have HV_ := zh hv_;have HNZ := zh hgz;clear hv_ hgz;have HOKJ := zh (show Zow u j u.globals[j] = !(tkB (Zba u ++ u.globals.take j) g) by rw [← HV_.o]; rfl);have HHAS := zh (show tkB (Zba u ++ u.globals.take j) g = Zbm S g by rw [HS.o]; exact Zns _ _);obtain ⟨t, ht⟩ : ∃ z, z = tkB (Zba u ++ u.globals.take j) g := ⟨_, rfl⟩;rw [← ht] at HOKJ HHAS;clear ht;go_wp2_with fail;refine (Zbv S _ g _ wr HSr.o.is).mono ?_;rintro e wz ⟨rfl, hw⟩;obtain rfl : wr = wz := hw.symm;have hge := Zdp S g;rw [← HHAS.o] at hge;obtain ⟨z, hz⟩ : ∃ z, z = Zak S g := ⟨_, rfl⟩;rw [← hz] at hge ⊢;clear hw hz
     cases t with
     | true =>
      go_wp2_with fail
      go_ret2
      exact ⟨⟨2, _, rfl, ⟨fun h => (by cases h), fun h => absurd (h.nm.gl j hlt) (by rw [HOKJ.o]; simp)⟩, HLb.o.trans HL.o⟩⟩
     | false =>
      have hX : Zb wr (wr.alloc (.cells #[.string g] Zc3)) := (Zb.refl _).alloc _;have HXL := zh hX;have HRX := zh (HSr.o.later hX);clear hX
      go_wp2_with (at_builtin; refine Zai (w0 := wb) rfl _ _ 24 rfl iS Tryz.underlying24 hiS hz0 hz1 hz2 rfl HRX.o (HL.o.trans HXL.o) rfl (Zd1 wr HNZ.o) (by have := HSL.o; simp; omega) ?_; intro v2 Y hrow hgr; have HROW := zh hrow; have HLY := zh (hgr.later0 (HL.o.trans HXL.o) fun b e => (HRX.o.own e).1); clear hrow hgr)
      go_roundw
      case rel => exact ⟨j + 1, by omega, by go_num, zh (Zda HJ2.o (fun hi => by rw [HOKJ.o]; rfl)), by rw [show Zba u ++ u.globals.take (j + 1) = (Zba u ++ u.globals.take j) ++ [g] by rw [List.take_succ_eq_append_getElem hlt, ← List.append_assoc, ← HV_.o], ← List.append_assoc, ← HS.o]; exact HROW.o, HLY.o⟩
      case measure => simp [intOf]; omega
    ·obtain rfl : j = u.globals.length := by omega
     clear hlt;go_wp2_with fail
     go_loopw [4, 7, 8] (fun ov iv _ wr => ∃ j : Nat, j ≤ u.procedures.length ∧ iv = .int .i64 j ∧ Hd (∀ i (h : i < u.procedures.length), i < j → Zox u i u.procedures[i] = true) ∧ Zax wb wr (Zav Zd0 ++ ((Zba u ++ u.globals) ++ (Zdd u).take j)) ov ∧ Zb wb wr) (fun _ iv _ _ => u.procedures.length - (intOf iv).toNat)
     case atStart => exact ⟨0, Nat.zero_le _, rfl, zh (fun i _ h => by omega), by rw [List.take_zero, List.append_nil, ← show S = Zav Zd0 ++ (Zba u ++ u.globals) by rw [HS.o, List.take_length]]; exact HSr.o, HL.o⟩
     case round =>
      obtain ⟨j, hj, rfl, HJ3, hsn, hl⟩ := hrel;obtain ⟨S, hS⟩ : ∃ z, z = Zav Zd0 ++ ((Zba u ++ u.globals) ++ (Zdd u).take j) := ⟨_, rfl⟩;rw [← hS] at hsn;obtain ⟨Ao, co, rfl, -, -⟩ := hsn.form;rename_i wr;have HS := zh hS;have HSL := zh (show S.length ≤ 100 by rw [hS]; simp only [List.length_append, Zlx]; simp [Zba, Zdd]; omega);clear hS;have HL := zh hl;have HSr := zh hsn;have HNU := zh (show Value.ownBlock (.slice Ao S.length co) ≠ some w.heap.size from fun e => by have := (hsn.own e).1; have := Za HB.o; omega);clear hl hsn;clear g0 fg0;have HBk := zB HL HB;have g0 := cz3 HBk.o;have fg0 := fz HBk.o
      by_cases hlt : j < u.procedures.length
      ·have hlt' : (j : Int) < (u.procedures.length : Int) := by omega
       have HUr := zh (HU.o.later (HLb.o.trans HL.o));obtain ⟨pb, po, Ap, Al, Ab, kp, kl, kb, eA, hat⟩ := HUr.o.proc hlt;cases eA;have hlp := hat.lp;have hll := hat.ll;obtain ⟨q, hv_⟩ : ∃ z, z = u.procedures[j] := ⟨_, rfl⟩;rw [← hv_] at hat hlp hll;have HV_ := zh hv_;have HAT := zh hat;have d0 := hat.c0;have d1 := hat.c1;have d2 := hat.c2;have d3 := hat.c3;have d4 := hat.c4;have d5 := hat.c5;have d6 := hat.c6;have d7 := hat.c7;have d8 := hat.c8;clear hat hv_;obtain ⟨w4, hla, HRB, hw4⟩ := aN wr (.cells #[.string q.name, .slice Ap q.params.length kp, .slice Al q.locals.length kl, .int .i64 q.body.kind, .string q.body.text, .int .i64 q.body.aB, .int .i64 q.body.line, .slice Ab q.body.kids.length kb, .int .i64 q.line] 106);replace HRB := zh HRB;have HA4 := zh hla;have HL4 := zh (Zb.trans HL.o hla);have HW4 := zh hw4;have HB4 := yC hla HBk;obtain ⟨QB, hRB⟩ : ∃ z, wr.heap.size = z := ⟨_, rfl⟩;rw [hRB] at HRB;have HRE := zh hRB;clear hla hw4 hRB;go_upto_region 20 with (fail);rw [HW4.o, HRE.o];clear d0 d1 d2 d3 d4 d5 d6 d7 d8;have HNZ := zh HAT.o.nm;have HOKJ := zh (show Zox u j u.procedures[j] = (!(tkB ((Zba u ++ u.globals) ++ (Zdd u).take j) q.name) && !twB (q.params ++ q.locals)) by rw [← HV_.o]; rfl);have HR4 := zh (HSr.o.later HA4.o);have HOQ := zh (show q.params.length ≤ 6 ∧ q.locals.length ≤ 8 by rw [HV_.o]; have := Zcg (Zex HOKT.o hlt); exact ⟨this.1, this.2.1⟩);have hp6 := HOQ.o.1;have hp8 := HOQ.o.2;have HHAS := zh (show tkB ((Zba u ++ u.globals) ++ (Zdd u).take j) q.name = Zbm S q.name by rw [HS.o]; exact Zns _ _)
       obtain ⟨t, ht⟩ : ∃ z, z = tkB ((Zba u ++ u.globals) ++ (Zdd u).take j) q.name := ⟨_, rfl⟩;rw [← ht] at HOKJ HHAS;clear ht;have hge := Zdp S q.name;rw [← HHAS.o] at hge;obtain ⟨z, hz⟩ : ∃ z, z = Zak S q.name := ⟨_, rfl⟩;rw [← hz] at hge;have HZ := zh hz.symm;clear hz
       cases t with
       | true =>
        go_upto_region 20 with (fail);refine Zx [] [] (by kernel_rfl) (fun W hW => ?_);have hlW : Zb w4 W := by rw [hW]; exact (Zb.refl _).drew
        have HLW := zh hlW;have HQW := yC hlW HRB;have HRW := zh (HR4.o.later hlW);clear hlW hW;refine uU 0 94 ?_;simp only [yN];refine uU 1 95 ?_;simp only [yN];refine uU 2 96 (hy := fun x hx => by have hxq := (hx.block _ (Za HQW.o)).trans HQW.o; have r0 := cz9 hxq; have fr0 := fz hxq; go_simp <;> with_reducible rfl) ?_;simp only [yN];refine Z5 3 (by kernel_rfl) rfl rfl ?_;go_wp2_with fail;refine (Zbv S _ q.name _ W HRW.o.is).mono ?_;rintro e w5 ⟨rfl, hw⟩;obtain rfl : W = w5 := hw.symm;rw [HZ.o];clear hw;go_wp2_with fail;refine ⟨Zb.refl _, ?_⟩;refine uU 4 98 ?_;simp only [yN];refine uU 5 99 ?_;simp only [yN];refine Zam 6 (some 100) rfl rfl (by kernel_rfl) (fun _ _ _ h => h) rfl ?_;simp only [yN];refine Zam 7 (some 101) rfl rfl (by kernel_rfl) (fun _ _ _ h => h) rfl ?_;simp only [yN];refine Zam 8 (some 102) rfl rfl (by kernel_rfl) (fun _ _ _ h => h) rfl ?_;simp only [yN];refine Zam 9 (some 103) rfl rfl (by kernel_rfl) (fun _ _ _ h => h) rfl ?_;simp only [yN];refine Zam 10 (some 104) rfl rfl (by kernel_rfl) (fun _ _ _ h => h) rfl ?_;simp only [yN];refine Zam 11 (some 105) rfl rfl (by kernel_rfl) (fun _ _ _ h => h) rfl ?_;simp only [yN];refine Zam 12 (some 106) rfl rfl (by kernel_rfl) (fun _ _ _ h => h) rfl ?_;simp only [yN];refine Zam 13 (some 107) rfl rfl (by kernel_rfl) (fun _ _ _ h => h) rfl ?_;simp only [yN];refine uU 14 108 ?_;simp only [yN];refine Z6 [] (by kernel_rfl) rfl rfl ?_
        go_upto_region 21 with (fail);refine Zb8 (fun W3 hW3 => ?_);have hlW : Zb W W3 := by rw [hW3]; exact (Zb.refl _).drew
        have HLW3 := zh hlW;have HEW := yC hlW HQW;clear hlW hW3;have r0 := cz9 HEW.o;have fr0 := fz HEW.o
        repeat go_big_quiet_step (fail)
        refine wpQuiet_nil ?_;go_wp2_with fail
        go_ret2
        exact ⟨⟨2, _, rfl, ⟨fun h => (by cases h), fun h => absurd (h.nm.pr j hlt) (by rw [HOKJ.o]; simp)⟩, HLb.o.trans (HL4.o.trans (HLW.o.trans HLW3.o))⟩⟩
       | false =>
        go_upto_region 20 with (fail);refine Zx [12, 13, 14] [] (by kernel_rfl) (fun W hW => ?_);have hlW : Zb w4 W := by rw [hW]; exact (Zb.refl _).drew
        have HLW := zh hlW;have HQW := yC hlW HRB;have HRW := zh (HR4.o.later hlW);clear hlW hW;refine uU 0 94 ?_;simp only [yN];refine uU 1 95 ?_;simp only [yN];refine uU 2 96 (hy := fun x hx => by have hxq := (hx.block _ (Za HQW.o)).trans HQW.o; have r0 := cz9 hxq; have fr0 := fz hxq; go_simp <;> with_reducible rfl) ?_;simp only [yN];refine Z5 3 (by kernel_rfl) rfl rfl ?_;go_wp2_with fail;refine (Zbv S _ q.name _ W HRW.o.is).mono ?_;rintro e w5 ⟨rfl, hw⟩;obtain rfl : W = w5 := hw.symm;rw [HZ.o];clear hw;go_wp2_with fail;refine ⟨Zb.refl _, ?_⟩;refine uU 4 98 ?_;simp only [yN];refine uU 5 99 ?_;simp only [yN];refine uU 7 101 ?_;simp only [yN];refine uU 8 102 (hy := fun x hx => by have hxq := (hx.block _ (Za HQW.o)).trans HQW.o; have r0 := cz9 hxq; have fr0 := fz hxq; go_simp <;> with_reducible rfl) ?_;simp only [yN];refine uU 10 104 ?_;simp only [yN];refine uU 11 105 (hy := fun x hx => by have hxq := (hx.block _ (Za HQW.o)).trans HQW.o; have r0 := cz9 hxq; have fr0 := fz hxq; go_simp <;> with_reducible rfl) ?_;simp only [yN];refine Z5 6 (by kernel_rfl) rfl rfl ?_;go_wp2_with fail;have HXA := zh (show Zb W (W.alloc (.cells #[] Zc3)) from (Zb.refl _).alloc _);refine ⟨HXA.o, ?_⟩;refine Z5 9 (by kernel_rfl) rfl rfl ?_;simp only [gA, gB, gC]
        go_wp2_with (at_builtin; go_loud (refine Zd8 (w0 := W) (by first | rfl | simp [Region.wanted, yielded]) _ _ 24 rfl iS Tryz.underlying24 hiS hz0 hz1 hz2 rfl (Zco rfl) (Nat.le_refl _) HXA.o rfl ((HAT.o.ps.later Zg (HA4.o.trans HLW.o)).later Zg HXA.o) (by omega) ?_); intro v1 Y1 h1 hl1)
        have HN1 := zh h1;have HY0 := zh hl1;have HY1 := zh (HXA.o.trans hl1);clear h1 hl1;refine ⟨HY0.o, ?_⟩;refine Z6 [_, _, _] (by kernel_rfl) rfl rfl ?_;simp only [gA, gB, gC]
        go_wp2_with (at_builtin; go_loud (refine Zep (w0 := W) (by first | rfl | simp [Region.wanted, yielded]) _ _ 24 rfl iS Tryz.underlying24 hiS hz0 hz1 hz2 rfl HN1.o HY1.o rfl ((HAT.o.ls.later Zg (HA4.o.trans HLW.o)).later Zg HY1.o) (by omega) ?_); intro v2 Y2 h2 hg2; have HN2 := zh h2; have HY2 := zh (hg2.later0 HY1.o fun b e => (HN1.o.own e).1); clear h2 hg2)
        refine (Zj3 _ v2 _ Y2 HN2.o.is).mono ?_;rintro e w6 ⟨rfl, hw⟩;obtain rfl : Y2 = w6 := hw.symm;obtain ⟨t2, ht2⟩ : ∃ z, z = twB (q.params ++ q.locals) := ⟨_, rfl⟩;rw [← ht2];rw [← ht2] at HOKJ;have HL6 := zh (HL4.o.trans (HLW.o.trans HY2.o));have HR6 := zh (HRW.o.later HY2.o);have HQ6 := zB HY2 HQW;clear hw ht2
        cases t2 with
        | true =>
         go_upto_region 21 with (fail);refine Zb8 (fun W3 hW3 => ?_);have hlW : Zb Y2 W3 := by rw [hW3]; exact (Zb.refl _).drew
         have HLW3 := zh hlW;have HEW := yC hlW HQ6;clear hlW hW3;have r0 := cz9 HEW.o;have fr0 := fz HEW.o
         repeat go_big_quiet_step (fail)
         refine wpQuiet_nil ?_;go_wp2_with fail
         go_ret2
         exact ⟨⟨2, _, rfl, ⟨fun h => (by cases h), fun h => absurd (h.nm.pr j hlt) (by rw [HOKJ.o]; simp)⟩, HLb.o.trans (HL4.o.trans ((HLW.o.trans HY2.o).trans HLW3.o))⟩⟩
        | false =>
         have hX : Zb Y2 (Y2.alloc (.cells #[.string q.name] Zc3)) := (Zb.refl _).alloc _;have HXL := zh hX;have HRX := zh (HR6.o.later hX);clear hX;have r0 := cz9 HQ6.o;have fr0 := fz HQ6.o
         go_wp2_with (at_builtin; refine Zai (w0 := wb) rfl _ _ 24 rfl iS Tryz.underlying24 hiS hz0 hz1 hz2 rfl HRX.o (HL6.o.trans HXL.o) rfl (Zd1 Y2 HNZ.o) (by have := HSL.o; simp; omega) ?_; intro v3 Y hrow hgr; have HROW := zh hrow; have HLY := zh (hgr.later0 (HL6.o.trans HXL.o) fun b e => (HRX.o.own e).1); clear hrow hgr)
         go_roundw
         case rel => exact ⟨j + 1, by omega, by go_num, zh (Zda HJ3.o (fun hi => by rw [HOKJ.o]; rfl)), by rw [show (Zba u ++ u.globals) ++ (Zdd u).take (j + 1) = ((Zba u ++ u.globals) ++ (Zdd u).take j) ++ [q.name] by rw [show (Zdd u).take (j + 1) = (Zdd u).take j ++ [q.name] by rw [HV_.o]; exact Zfj hlt, List.append_assoc (Zba u ++ u.globals)], ← List.append_assoc (Zav Zd0), ← HS.o]; exact HROW.o, HLY.o⟩
         case measure => simp [intOf]; omega
      ·obtain rfl : j = u.procedures.length := by omega
       clear hlt;go_wp2_with fail
       go_loopw [9, 10, 11, 12, 13, 14] (fun mv iv _ _ _ _ wr => ∃ (j : Nat) (mb : Bool), j ≤ u.procedures.length ∧ iv = .int .i64 j ∧ mv = .bool mb ∧ Hd ((u.procedures.take j).any Ztb = mb) ∧ Hd (∀ i (h : i < u.procedures.length), i < j → ckX u (Zbn u u.procedures[i]) (N + 1) u.procedures[i].body false false = true ∧ (Zbn u u.procedures[i]).length + csX u.procedures[i].body ≤ 24) ∧ Zb wb wr) (fun _ iv _ _ _ _ _ => u.procedures.length - (intOf iv).toNat)
       case atStart => exact ⟨0, false, Nat.zero_le _, rfl, rfl, zh rfl, zh (fun i _ h => by omega), HL.o⟩
       case round =>
        obtain ⟨j, mb, hj, rfl, rfl, HMB, HJ4, hl⟩ := hrel;rename_i wr;have HL := zh hl;clear hl;clear g0 fg0;have HBk := zB HL HB;have g0 := cz3 HBk.o;have fg0 := fz HBk.o
        by_cases hlt : j < u.procedures.length
        ·have hlt' : (j : Int) < (u.procedures.length : Int) := by omega
         have HOQ := zh (Zcg (Zex HOKT.o hlt));have HLO := zh (Zop (u := u) (Zex HOKT.o hlt));have HUr := zh (HU.o.later (HLb.o.trans HL.o));obtain ⟨pb, po, Ap, Al, Ab, kp, kl, kb, eA, hat⟩ := HUr.o.proc hlt;cases eA;have hlp := hat.lp;have hll := hat.ll;obtain ⟨q, hv_⟩ : ∃ z, z = u.procedures[j] := ⟨_, rfl⟩;rw [← hv_] at hat hlp hll;have HV_ := zh hv_;have HAT := zh hat;have d0 := hat.c0;have d1 := hat.c1;have d2 := hat.c2;have d3 := hat.c3;have d4 := hat.c4;have d5 := hat.c5;have d6 := hat.c6;have d7 := hat.c7;have d8 := hat.c8;clear hat hv_;obtain ⟨w4, hla, HRB, hw4⟩ := aN wr (.cells #[.string q.name, .slice Ap q.params.length kp, .slice Al q.locals.length kl, .int .i64 q.body.kind, .string q.body.text, .int .i64 q.body.aB, .int .i64 q.body.line, .slice Ab q.body.kids.length kb, .int .i64 q.line] 106);replace HRB := zh HRB;have HA4 := zh hla;have HL4 := zh (Zb.trans HL.o hla);have HW4 := zh hw4;have HB4 := yC hla HBk;obtain ⟨QB, hRB⟩ : ∃ z, wr.heap.size = z := ⟨_, rfl⟩;rw [hRB] at HRB;have HRE := zh hRB;clear hla hw4 hRB;go_upto_region 28 with (fail);rw [HW4.o, HRE.o];clear d0 d1 d2 d3 d4 d5 d6 d7 d8;rw [← HV_.o] at HOQ HLO;clear g0 fg0;have g0 := cz3 HB4.o;have fg0 := fz HB4.o;have r0 := cz9 HRB.o;have fr0 := fz HRB.o;have HJJ := zh (show (ckX u (Zbn u u.procedures[j]) (N + 1) u.procedures[j].body false false = true ∧ (Zbn u u.procedures[j]).length + csX u.procedures[j].body ≤ 24) ↔ (ckX u (Zbn u q) (N + 1) q.body false false = true ∧ (Zbn u q).length + csX q.body ≤ 24) by rw [← HV_.o])
         go_wp2_with fail;refine (Zpj N F w4 u _ _ _ k1 k2 k3 (HU.o.later (HLb.o.trans HL4.o)) (HT.o.below HL4.o) HOKT.o j hlt).mono ?_;rintro e w5 ⟨vv, rfl, hr, hb⟩;rw [← HV_.o] at hr;obtain ⟨Av, cv, rfl, -, -⟩ := hr.form;have HN5 := zh hr;have HA5 := zh (HA4.o.trans hb);have HL5 := zh (HL4.o.trans hb);have HQ5 := yC hb HRB;have HB5 := yC hb HB4;clear hr hb;clear g0 fg0;clear r0 fr0;have g0 := cz3 HB5.o;have fg0 := fz HB5.o;have r0 := cz9 HQ5.o;have fr0 := fz HQ5.o;go_wp2_with fail;refine (Zly N N F w5 u _ _ _ k1 k2 k3 (Zbn u q) _ _ q.body Ab kb false false (HU.o.later (HLb.o.trans HL5.o)) HN5.o.is (HAT.o.ev.later HA5.o)).mono ?_;rintro e w6 ⟨z, l, rfl, hz, hb⟩;have HA6 := zh (HA5.o.trans hb);have HL6 := zh (HL5.o.trans hb);have HQ6 := yC hb HQ5;obtain ⟨t, ht⟩ : ∃ t, t = ckX u (Zbn u q) (N + 1) q.body false false := ⟨_, rfl⟩;rw [← ht] at hz HJJ;clear hb ht;clear g0 fg0;clear r0 fr0;have r0 := cz9 HQ6.o;have fr0 := fz HQ6.o
         cases t with
         | false =>
          have n0 : (z != (0 : Int)) = true := by rw [bne, hz]; rfl
          have H0 := zh (show z ≠ 0 by simpa using hz);have HBAD := zh (show ¬ _ from fun h => by have := (HJJ.o.1 h).1; cases this);clear hz;go_wp2_with fail
          go_ret2
          exact ⟨⟨z, l, rfl, ⟨fun h => absurd h H0.o, fun h => absurd (h.pr j hlt) HBAD.o⟩, HLb.o.trans HL6.o⟩⟩
         | true =>
         obtain rfl : z = 0 := by simpa using hz
         clear hz;go_wp2_with fail;refine (Zro N w6 F q.body Ab kb (HAT.o.ev.later HA6.o) (by have := HOQ.o; omega)).mono ?_;rintro e w7 ⟨rfl, hb⟩;have HL7 := zh (HL6.o.trans hb);have HQ7 := yC hb HQ6;clear hb;clear r0 fr0;have r0 := cz9 HQ7.o;have fr0 := fz HQ7.o;have tw : wrap64 (((Zbn u q).length : Int) + ((csX q.body : Nat) : Int)) = ((Zbn u q).length : Int) + ((csX q.body : Nat) : Int) := by
          have h1 := HOQ.o.2.2.1;have h2 := Zgh q.body;have h3 := HLO.o;exact IntWalk.wrap64_in _ (by omega)
         have HTW := zh tw;clear tw
         by_cases hb : (24 : Int) < wrap64 (((Zbn u q).length : Int) + ((csX q.body : Nat) : Int))
         ·have HBAD := zh (show ¬ _ from fun h => by have h3 := (HJJ.o.1 h).2; have h4 := hb; rw [HTW.o] at h4; omega);have v1 : decide ((24 : Int) < wrap64 (((Zbn u q).length : Int) + ((csX q.body : Nat) : Int))) = true := nT hb;have HBV := zh hb;clear hb;go_upto_region 33 with (fail);refine Zb8 (fun W3 hW3 => ?_);have hlW : Zb w7 W3 := by rw [hW3]; exact (Zb.refl _).drew
          have HLW3 := zh hlW;have HEW := yC hlW HQ7;clear hlW hW3;clear r0 fr0;have r0 := cz9 HEW.o;have fr0 := fz HEW.o
          repeat go_big_quiet_step (fail)
          refine wpQuiet_nil ?_;go_wp2_with fail
          go_ret2
          exact ⟨⟨7, _, rfl, ⟨fun h => (by cases h), fun h => absurd (h.pr j hlt) HBAD.o⟩, HLb.o.trans (HL7.o.trans HLW3.o)⟩⟩
         have HGOOD := zh (HJJ.o.2 ⟨by simp, by have h4 := hb; rw [HTW.o] at h4; omega⟩);have hp : decide ((24 : Int) < wrap64 (((Zbn u q).length : Int) + ((csX q.body : Nat) : Int))) = false := nU hb;clear hb;go_upto_region 34 with (fail);clear hp;obtain ⟨b1, h1⟩ : ∃ z, (q.name.toList == [109, 97, 105, 110]) = z := ⟨_, rfl⟩;obtain ⟨b2, h2⟩ : ∃ z, ((q.params.length : Int) == 0) = z := ⟨_, rfl⟩;have HM := zh (show (u.procedures.take (j + 1)).any Ztb = (mb || (b1 && b2)) by rw [Zhb hlt, HMB.o, ← HV_.o, ← h1, ← h2]; rfl)
         cases mb <;> cases b1 <;> cases b2
         all_goals (go_wp2_with fail; go_roundw)
         all_goals first
          | exact ⟨j + 1, _, by omega, by go_num, rfl, zh HM.o, zh (Zda HJ4.o (fun _ => HGOOD.o)), HL7.o⟩
          | (simp [intOf]; omega)
        ·obtain rfl : j = u.procedures.length := by omega
         clear hlt;have HMN := zh (show u.procedures.any Ztb = mb by rw [← HMB.o, List.take_length])
         cases mb with
         | false =>
          go_wp2_with fail
          go_ret2
          exact ⟨⟨3, _, rfl, ⟨fun h => (by cases h), fun h => absurd ((Zxp _).2 h.mn) (by rw [HMN.o]; decide)⟩, HLb.o.trans HL.o⟩⟩
         | true =>
          go_wp2_with fail
          go_ret2
          exact ⟨⟨0, _, rfl, ⟨fun _ => ⟨HOKT.o, ⟨fun i h => HJ1.o i h h, fun i h => HJ2.o i h h, fun i h => HJ3.o i h h⟩, fun i h => HJ4.o i h h, (Zxp _).1 HMN.o⟩, fun _ => rfl⟩, HLb.o.trans HL.o⟩⟩
theorem Zb.both {w y : World} (h : Zb w y) (p : Addr) (v : Value) : Zb (w.setCell p v) (y.setCell p v) :=
 ⟨h.os, h.tape, h.output, by simpa using h.size, fun k hk => by
  have hk' : k < w.heap.size := by simpa using hk
  simp only [World.setCell];rw [Array.getElem?_modify, Array.getElem?_modify, h.block k hk']⟩
theorem Zte (N : Nat) (F : Nat → Prop) (w : World) (u : Zt) (A1 A2 A3 : Option Addr) (k1 k2 k3 : Nat) (hu : UV N F w u A1 A2 A3 k1 k2 k3) (ht : Spc w) (hglb : u.globals.length ≤ 2097152) (hszr : Zp Zk u.aA ≤ 2097152) : Calls Tryz.prog 15 #[.agg #[.slice A1 u.aA.length k1, .slice A2 u.globals.length k2, .slice A3 u.procedures.length k3]] w (Zli w (lwR N u)) := by
 obtain ⟨w1, hw1⟩ : ∃ z, ((w.alloc (.cells #[.slice A1 u.aA.length k1, .slice A2 u.globals.length k2, .slice A3 u.procedures.length k3] 52)).alloc (.cells #[.slice none 0 0, .slice none 0 0, .slice none 0 0, .int .i64 0] TPg)) = z := ⟨_, rfl⟩;have hl1 : Zb w w1 := by rw [← hw1]; exact ((Zb.refl _).alloc _).alloc _
 have hub : w1.heap[w.heap.size]? = some (.cells #[.slice A1 u.aA.length k1, .slice A2 u.globals.length k2, .slice A3 u.procedures.length k3] 52 (0, 0)) := by rw [← hw1]; exact ((Zb.refl _).alloc _).block w.heap.size (by simp) |>.trans (heap_alloc_new w _)
 have hz : w1.heap[w.heap.size + 1]? = some (.cells #[.slice none 0 0, .slice none 0 0, .slice none 0 0, .int .i64 0] TPg (0, 0)) := by rw [← hw1]; exact Zco (by simp)
 obtain ⟨UB, hUB⟩ : ∃ z, w.heap.size = z := ⟨_, rfl⟩;obtain ⟨ZB, hZB⟩ : ∃ z, w.heap.size + 1 = z := ⟨_, rfl⟩;have HZB := zh (show w.heap.size ≤ ZB ∧ ZB < w1.heap.size from ⟨by omega, by rw [← hZB]; exact Za hz⟩);rw [hZB] at hz;rw [hUB] at hub;have HUBE := zh hUB;have HZB2 := zh hZB;have HLb := zh hl1;have HB := zh hub;have HZ := zh hz;have HU := zh hu;have HT := zh (ht.below hl1);have hn3 := hu.len.2.2;have HSPL := zh (World.block_lt_of_cell? w _ (ht.cell Zfh 0 (by decide +kernel)));clear hl1 hub hz hUB hZB hu ht;obtain ⟨Rr, hR⟩ : ∃ z, z = lwR N u := ⟨_, rfl⟩;rw [← hR];have HR := zh hR;clear hR;have g0 := cz3 HB.o;have fg0 := fz HB.o;go_enter Tryz.func15, Tryz.ntmps15;go_upto_region 1 with (fail)
 try rw [hw1]
 rw [HZB2.o, HUBE.o];clear hw1;go_wp2_with fail;refine (Zpk N F w1 u A1 A2 A3 k1 k2 k3 (HU.o.later HLb.o) HT.o).mono ?_;rintro e w2 hp;obtain ⟨z, l, rfl, hz, hb⟩ := hp.h;have HL2 := zh (show Zb w1 w2 from hb);have HZ2 := yC hb HZ;have HB2 := yC hb HB;have HZZ := zh hz;clear hb hz hp g0 fg0
 by_cases h0 : z = 0
 case neg =>
  have n0 : (z != (0 : Int)) = true := bne_iff_ne.2 h0;have H0 := zh h0;clear h0;have z0 := cz4 HZ2.o;have fz0 := fz HZ2.o;go_wp2_with fail;have hd := Zli.zero (Zbw HZB.o.1 zPg w2 0 (HLb.o.trans HL2.o));simp only [Zb3, zPg, Nat.zero_add, Nat.reduceAdd] at hd;rw [show Rr = (⟨[], [], [], 0⟩, false) by rw [HR.o]; unfold lwR; rw [if_neg fun h => H0.o (HZZ.o.2 h)]];exact bodyPost_ret (v := .tuple #[.agg #[.slice none 0 0, .slice none 0 0, .slice none 0 0, .int .i64 0], .bool false]) (by simp [results, Tryz.results15, go_sem, z0, fz0]) rfl hd
 case pos =>
 subst h0;have HOC := zh (HZZ.o.1 rfl);clear HZZ;obtain ⟨iN, hiN, hn0', hn1', hn2'⟩ := info_parts Zem;have HU2 := zh (HU.o.later (HLb.o.trans HL2.o));have hxl : Zb w2 (w2.alloc (.cells #[] 9)) := (Zb.refl _).alloc _;have HXL := zh hxl;have e1 := (hxl.block _ (Za HB2.o)).trans HB2.o;clear hxl;go_upto_region 4 with (fail);have g0 := cz3 e1;have fg0 := fz e1;clear e1
 repeat (go_not_at_region 5; first | (go_says (at_builtin; refine Zcs Zfi (by decide) rfl _ _ 24 rfl 9 iN (.string ⟨#[]⟩) 16 Tryz.underlying24 hiN hn0' hn1' hn2' rfl rfl (heap_alloc_new w2 _) rfl (HU2.o.gl.later Zg HXL.o) hglb (by decide) ?_; intro v6 y2 hr6 hl6; obtain ⟨Ag, cg, rfl, -⟩ := id hr6; have HR6 := zh hr6; have HL6 := zh hl6; clear hr6 hl6)) | go_values | go_skip | go_guarded | go_step | go_upon | go_back)
 clear g0 fg0;obtain ⟨w3, OB, hl, hn, h1, h2⟩ := al y2 (.cells #[.slice none 0 0, .slice none 0 0, .slice Ag u.globals.length cg, .int .i64 0] TPg);rw [h1, h2];have HOB := zh hn;have HOBE := zh h2;have HL3 := zh hl;clear hl hn h1 h2;have HL23 := zh (show Zb w2 w3 from HXL.o.trans (HL6.o.trans HL3.o));have hszs : w2.heap.size < (w2.alloc (.cells #[] 9)).heap.size ∧ y2.heap.size = OB ∧ OB < w3.heap.size ∧ (w2.alloc (.cells #[] 9)).heap.size ≤ y2.heap.size := ⟨by simp, HOBE.o, Za HOB.o, HL6.o.size⟩;have HS3 := zh (show LuS w2 w3 OB [] [] u.globals 0 (fun _ => False) (fun _ => False) (fun b => (w2.alloc (.cells #[] 9)).heap.size ≤ b ∧ b < y2.heap.size) (.slice none 0 0) (.slice none 0 0) (.slice Ag u.globals.length cg) from
  ⟨HOB.o, Zz.nil _ _ _ _ _, Zz.nil _ _ _ _ _, (HR6.o.trim Zj).keep Zg (fun b hb => hb) (Zc.later HL3.o), by omega, fun b hb => by
   rcases hb with hb | hb | hb
   ·exact hb.elim
   ·exact hb.elim
   ·exact ⟨by omega, by omega, by omega⟩, fun _ h => h.elim, fun _ h => h.elim, HL23.o⟩)
 clear hszs
 go_upto_block 0 with (fail)
 refine @Z8 _ luRl ?R1 _ _ _ _ ?h1 ?k1
 case h1 =>
  refine Zvg N F u A1 A2 A3 k1 k2 k3 w2 w3 UB ZB OB _ _ undef undef undef undef undef undef undef HU2 HB2 hszr HS3 (zh ?hf1)
  case hf1 => exact FrV.mk' rfl rfl rfl rfl rfl rfl rfl rfl rfl rfl rfl rfl rfl
 case k1 =>
 rintro a' w3' ⟨⟨v7, v8, hf⟩, R, ev, hs⟩;obtain ⟨fr, rfl⟩ := hf.opn;obtain ⟨Ae, ce, rfl, -⟩ := id hs.re;obtain ⟨U, hU⟩ : ∃ z, z = (fun b => (w2.alloc (.cells #[] 9)).heap.size ≤ b ∧ b < y2.heap.size) := ⟨_, rfl⟩;rw [← hU] at hs;have HS4 := zh hs;clear hf hs hU;go_wp2_with fail;refine wp_loop_ghost_k (fun g a wr => ∃ (j : Nat) (H : Nat → Prop) (rv v10 v11 v12 v13 v14 : Value), g + j = u.procedures.length ∧ FrV UB ZB (.pointer (some ⟨OB, 0, none⟩)) v7 v8 (.int .i64 j) v10 v11 v12 v13 v14 a ∧ LuS w2 wr OB ((u.procedures.take j).map (rtU N u)) u.aA u.globals (mnU u j) H R U rv (.slice Ae u.aA.length ce) (.slice Ag u.globals.length cg)) u.procedures.length ⟨0, _, _, _, _, _, _, _, by omega, FrV.mk' rfl rfl rfl rfl rfl rfl rfl rfl rfl rfl rfl rfl rfl, HS4.o⟩ ?_;clear fr;rintro gk a wr ⟨j, H, rv, v10, v11, v12, v13, v14, hg, hf, hs⟩ J K' hJ hK;obtain ⟨fr, rfl⟩ := hf.opn;clear hf;have hj : j ≤ u.procedures.length := by omega
 obtain ⟨M, hM⟩ : ∃ z, z = (u.procedures.take j).map (rtU N u) := ⟨_, rfl⟩;rw [← hM] at hs;have HM := zh hM;obtain ⟨Ar, cr, rfl, -⟩ := id hs.rr;have HSr := zh hs;have HL := zh (show Zb w1 wr from HL2.o.trans hs.bel);have HBk := zB HL HB;clear hM hs;have g0 := cz3 HBk.o;have fg0 := fz HBk.o
 by_cases hlt : j < u.procedures.length
 ·have hlt' : (j : Int) < (u.procedures.length : Int) := by omega
  have HOQ := zh (Zcg (Zex HOC.o.ok hlt));have HPR := zh (HOC.o.pr j hlt).2;have HUr := zh (HU.o.later (HLb.o.trans HL.o));obtain ⟨pb, po, Ap, Al, Ab, kp, kl, kb, eA, hat⟩ := HUr.o.proc hlt;cases eA;have hlp := hat.lp;have hll := hat.ll;obtain ⟨q, hv_⟩ : ∃ z, z = u.procedures[j] := ⟨_, rfl⟩;rw [← hv_] at hat hlp hll;have HV_ := zh hv_;have HAT := zh hat;have d0 := hat.c0;have d1 := hat.c1;have d2 := hat.c2;have d3 := hat.c3;have d4 := hat.c4;have d5 := hat.c5;have d6 := hat.c6;have d7 := hat.c7;have d8 := hat.c8;clear hat hv_;obtain ⟨w4, hla, HRB, hw4⟩ := aN wr (.cells #[.string q.name, .slice Ap q.params.length kp, .slice Al q.locals.length kl, .int .i64 q.body.kind, .string q.body.text, .int .i64 q.body.aB, .int .i64 q.body.line, .slice Ab q.body.kids.length kb, .int .i64 q.line] 106);replace HRB := zh HRB;have HA4 := zh hla;have HL4 := zh (Zb.trans HL.o hla);have HW4 := zh hw4;have HB4 := yC hla HBk;obtain ⟨QB, hRB⟩ : ∃ z, wr.heap.size = z := ⟨_, rfl⟩;rw [hRB] at HRB;have HRE := zh hRB;clear hla hw4 hRB;go_upto_region 14 with (fail);rw [HW4.o, HRE.o];clear d0 d1 d2 d3 d4 d5 d6 d7 d8;rw [← HV_.o] at HOQ HPR;clear g0 fg0;have g0 := cz3 HB4.o;have fg0 := fz HB4.o;go_wp2_with fail;refine (Zpj N F w4 u _ _ _ k1 k2 k3 (HU.o.later (HLb.o.trans HL4.o)) (HT.o.below HL4.o) HOC.o.ok j hlt).mono ?_;rintro e w5 ⟨v5, rfl, hr5, hl5⟩;obtain ⟨L, hL⟩ : ∃ z, z = Zbn u u.procedures[j] := ⟨_, rfl⟩;rw [← hL] at hr5;obtain ⟨An, cn, rfl, -, -⟩ := hr5.form
  have HLE := zh hL;have HN5 := zh hr5;have HL5 := zh hl5;have HB5 := yC hl5 HB4;have HQ5 := yC hl5 HRB;rw [show Zbn u q = L by rw [HLE.o, HV_.o]] at HPR;clear hL hr5 hl5;clear g0 fg0;have g0 := cz3 HB5.o;have fg0 := fz HB5.o;go_upto_region 16 with (fail);obtain ⟨w6, LB, hl, hn, h1, h2⟩ := al w5 (.cells #[.slice A1 u.aA.length k1, .slice A2 u.globals.length k2, .slice (some ⟨pb, po, none⟩) u.procedures.length k3, .slice An L.length cn, .int .i64 L.length] TLs);rw [h1, h2];have HLW6 := zh hn;have HLW6E := zh h2;have HL6 := zh hl;clear hl hn h1 h2;clear g0 fg0;have HQ6 := zB HL6 HQ5;have HLA6 := zh (show Zb w4 w6 from HL5.o.trans HL6.o);have hszs : w.heap.size ≤ w4.heap.size ∧ w4.heap.size ≤ w5.heap.size ∧ w5.heap.size = LB ∧ LB < w6.heap.size ∧ QB < w4.heap.size ∧ wr.heap.size = QB := ⟨(HLb.o.trans HL4.o).size, HL5.o.size, HLW6E.o, Za HLW6.o, Za HRB.o, HRE.o⟩;have HSZS := zh hszs;have HLI := zh (show LwS (⟨N, F, u, A1, A2, some ⟨pb, po, none⟩, k1, k2, k3, j, L⟩ : Zaz) (fun b => (Value.slice An L.length cn).ownBlock = some b) An cn LB 0 w6 from ⟨HLW6.o, HU.o.later (HLb.o.trans (HL4.o.trans HLA6.o)), (HN5.o.spO.el Zj).later Zg HL6.o, fun b hb => by have := HU.o.flt b hb; omega, fun b hb => by have := (HN5.o.own hb).2; omega⟩);have HLG := zh (show ∀ b, (fun b => (Value.slice An L.length cn).ownBlock = some b) b → b < w6.heap.size from fun b hb => by have := (HN5.o.own hb).2; omega);have HLC := zh (show LoC (⟨N, F, u, A1, A2, some ⟨pb, po, none⟩, k1, k2, k3, j, L⟩ : Zaz) N q.body 0 from ⟨HOQ.o.2.2.2.2.1, Zld u L (N + 1) q.body (q.params ++ q.locals) (fun s hs => by rw [HLE.o, ← HV_.o]; exact hs), by have := HPR.o; omega, by have := HPR.o; show L.length ≤ 1000; omega⟩)
  clear hszs;obtain ⟨C, hC⟩ : ∃ z, z = low u L (N + 1) q.body ((L.length + 0 : Nat) : Int) := ⟨_, rfl⟩;have HC := zh hC;have r0 := cz9 HQ6.o;have fr0 := fz HQ6.o;go_wp2_with fail;refine (Zlw N (⟨N, F, u, A1, A2, some ⟨pb, po, none⟩, k1, k2, k3, j, L⟩ : Zaz) (fun b => (Value.slice An L.length cn).ownBlock = some b) An cn LB 0 w6 q.body Ab kb HLI.o HLG.o HOC.o.ok (HAT.o.ev.later (HA4.o.trans HLA6.o)) HLC.o).mono ?_;rintro e w8 hp;obtain ⟨Ac, qc, rfl, hcv⟩ := hp.core;rw [show low ((⟨N, F, u, A1, A2, some ⟨pb, po, none⟩, k1, k2, k3, j, L⟩ : Zaz)).u ((⟨N, F, u, A1, A2, some ⟨pb, po, none⟩, k1, k2, k3, j, L⟩ : Zaz)).L (N + 1) q.body ((((⟨N, F, u, A1, A2, some ⟨pb, po, none⟩, k1, k2, k3, j, L⟩ : Zaz)).L.length + 0 : Nat) : Int) = C from hC.symm] at hcv ⊢;have HCV := zh hcv;have HT8 := zh hp.tn;have HS8 := zh hp.st;have HQ8 := zh (hp.tn.has HQ6.o (by have := HSZS.o; omega));have HL48 := zh (show Zb w4 w8 from Below.trans HLA6.o (Zde hp.tn.keep hp.tn.below (fun b hb => by have := HSZS.o; omega) HLA6.o.size));clear hp hcv hC;clear r0 fr0;go_upto_region 17 with (fail);obtain ⟨w9, CB, hl, hn, h1, h2⟩ := al w8 (.cells #[.int .i64 C.kind, .int .i64 C.op, .int .i64 C.aB, .int .i64 C.line, .string C.text, .slice Ac C.kids.length qc] Z7);rw [h1, h2];have HCB := zh hn;have HCBE := zh h2;have HL9 := zh hl;clear hl hn h1 h2;have HXL9 := zh (show Zb w9 (w9.alloc (.cells #[] 9)) from (Zb.refl _).alloc _)
  go_upto_block 4 with (at_builtin; go_loud (refine Zdi (w0 := w9) rfl _ _ 24 rfl iN Tryz.underlying24 hiN hn0' hn1' hn2' rfl (heap_alloc_new w9 _) (Nat.le_refl _) HXL9.o rfl (HS8.o.lo.later Zg (HL9.o.trans HXL9.o)) (by have := HPR.o; show L.length ≤ 2097152; omega) ?_; intro v14 w10 hnr hl; obtain ⟨A14, c14, hv14, -, -⟩ := hnr.form; change v14 = .slice A14 L.length c14 at hv14; subst hv14; have HN10 := zh (show Zax w9 w10 L (.slice A14 L.length c14) from hnr); have HL10 := zh (show Zb w9 w10 from HXL9.o.trans hl); clear hnr hl))
  have HLB10 := zh ((HL10.o.block _ (Za ((HL9.o.block _ (Za HS8.o.blk)).trans HS8.o.blk))).trans ((HL9.o.block _ (Za HS8.o.blk)).trans HS8.o.blk));refine @Z8 _ luNx ?R2 _ _ _ _ ?h2 ?k2
  case h2 =>
   refine Zvf w9 w10 UB ZB LB (csX q.body) (L.length + (0 + csX q.body)) (.slice A14 L.length c14) L _ _ _ _ (.pointer (some ⟨OB, 0, none⟩)) v7 v8 (.int .i64 j) (.pointer (some ⟨QB, 0, none⟩)) (.slice An L.length cn) (.pointer (some ⟨CB, 0, none⟩)) HN10 HLB10 HL10 (zh ⟨fun e => by have h1 := (HN10.o.own e).1; have h2 := Za HS8.o.blk; have h3 := HL9.o.size; omega, by omega⟩) (zh HPR.o) (zh ?hf2)
   case hf2 => exact FrV.mk' rfl rfl rfl rfl rfl rfl rfl rfl rfl rfl rfl rfl rfl
  case k2 =>
  rintro a' y ⟨sv2, hf, hnr, hng⟩;obtain ⟨fr2, rfl⟩ := hf.opn;obtain ⟨SL, hSL⟩ : ∃ z, z = L ++ List.replicate (csX q.body) (⟨#[]⟩ : ByteArray) := ⟨_, rfl⟩;rw [← hSL] at hnr;have HSL := zh hSL;obtain ⟨As, cs, rfl, -, -⟩ := hnr.form;have HNy := zh hnr;have HL9y := zh hng.la;have HL4y := zh (show Zb w4 y from HL48.o.trans (HL9.o.trans hng.la));have HLy := zh (show Zb wr y from HA4.o.trans HL4y.o);have HQy := zh (((HL9.o.trans HL9y.o).block _ (Za HQ8.o)).trans HQ8.o);have HCBy := zB HL9y HCB;have HCVy := zh (show CV (Iv w6.heap.size w8.heap.size) y C (.slice Ac C.kids.length qc) from HCV.o.later (HL9.o.trans HL9y.o));have HCBE := zh (show w8.heap.size = CB from HCBE.o);clear hf hnr hng hSL;obtain ⟨b, hb⟩ : ∃ t : Bool, (q.name.toList == [109, 97, 105, 110]) = t := ⟨_, rfl⟩;have HBN := zh (show (bl q.name = [109, 97, 105, 110]) ↔ b = true by rw [← hb, beq_iff_eq, Zas]);have r0 := cz9 HQy.o;have fr0 := fz HQy.o;have HSy := zh (HSr.o.later HLy.o);have o0 := cz4 HSy.o.ob;have fo0 := fz HSy.o.ob;have HNO3 := zh (show OB < wr.heap.size from Za HSr.o.ob)
  cases b
  case' true => (
   go_upto_region 22 with (fail);clear hb r0 fr0 o0 fo0;have hx0 := HSr.o.main (j : Int);have hlx := HLy.o.both ⟨OB, 3, none⟩ (.int .i64 j);have hkk : Zc (fun b => b ≠ OB) y (y.setCell ⟨OB, 3, none⟩ (.int .i64 j)) := (Zc.refl _ _).set (fun h => h rfl) _ _;have hl0 : Zb w9 (y.setCell ⟨OB, 3, none⟩ (.int .i64 j)) ∨ True := .inr trivial;have hny := HNy.o.setNe OB 3 (.int .i64 j) (fun e => by have h1 := (HNy.o.own e).1; have h2 := (HL48.o.trans HL9.o).size; have := HSZS.o; have := HNO3.o; omega);obtain ⟨wx, hx⟩ : ∃ z, wr.setCell ⟨OB, 3, none⟩ (.int .i64 j) = z := ⟨_, rfl⟩;have hsx : wx.heap.size = wr.heap.size := by rw [← hx]; simp
   obtain ⟨y2, hy⟩ : ∃ z, y.setCell ⟨OB, 3, none⟩ (.int .i64 j) = z := ⟨_, rfl⟩;rw [hx] at hx0 hlx;rw [hy] at hlx hkk hny ⊢;have hmn := Zqu hlt (by rw [← HV_.o]; exact HBN.o.2 (by simp));rw [← hmn] at hx0)
  case' false => (
   go_upto_region 22 with (fail);clear hb r0 fr0 o0 fo0;have hx0 := HSr.o;have hlx := HLy.o;have hkk : Zc (fun b => b ≠ OB) y y := Zc.refl _ _;have hny := HNy.o;obtain ⟨wx, hx⟩ : ∃ z, wr = z := ⟨_, rfl⟩;have hsx : wx.heap.size = wr.heap.size := by rw [← hx]
   obtain ⟨y2, hy⟩ : ∃ z, y = z := ⟨_, rfl⟩;rw [hx] at hx0 hlx;rw [hy] at hlx hkk hny ⊢;have hkk : Zc (fun b => b ≠ OB) y y2 := hy ▸ Zc.refl _ _;have hmn := Zui hlt (by rw [← HV_.o]; exact fun h => by have := HBN.o.1 h; cases this);rw [← hmn] at hx0)
  all_goals (
   have HX0 := zh hx0;have HLX := zh hlx;have HNy2 := zh hny;have HSX := zh hsx;have HQ2 := zh ((hkk.same QB (by have := HSZS.o; have := HNO3.o; omega) (Za HQy.o)).trans HQy.o);have HCB2 := zh ((hkk.same CB (by have := HCBE.o; have := HNO3.o; have := HSZS.o; have := HL48.o.size; omega) (Za HCBy.o)).trans HCBy.o);have HCV2 := zh (HCVy.o.keep (fun _ h => h) (hkk.mono fun b hb e => by have := hb.1; have := HSZS.o; have := HNO3.o; omega));have HYS := zh hkk.size;have HS2 := zh (hx0.later hlx);clear hx0 hlx hny hsx hkk hmn hx hy
   try clear hl0
   have o0 := cz4 HS2.o.ob;have fo0 := fz HS2.o.ob;have r0 := cz9 HQ2.o;have fr0 := fz HQ2.o;have x0 := cz6 HCB2.o;have fx0 := fz HCB2.o;obtain ⟨iS, hiS, hz0, hz1, hz2⟩ := info_parts Zus;have hX2 : Zb y2 (y2.alloc (.cells #[.string q.name, .int .i64 q.params.length, .slice As SL.length cs, .int .i64 C.kind, .int .i64 C.op, .int .i64 C.aB, .int .i64 C.line, .string C.text, .slice Ac C.kids.length qc] TRt)) := (Zb.refl _).alloc _;have HX2 := zh hX2;have HROW2 := zh (HS2.o.rr.later Zez.is hX2);have HRT := zh (show rtU N u q = ⟨q.name, (q.params.length : Nat), SL, C⟩ by
    unfold rtU;rw [show Zbn u q = L by rw [HLE.o, HV_.o], ← HSL.o, HC.o]
    rfl)
   have hdis : ∀ b, (Value.slice As SL.length cs).ownBlock = some b → ¬ Iv w6.heap.size w8.heap.size b := fun b hb hk => by
    have h1 := (HNy2.o.own hb).1;have h2 := hk.2;have h3 := HL9.o.size
    omega
   have hel : Zb4 Zbe (fun b => (Value.slice As SL.length cs).ownBlock = some b ∨ Iv w6.heap.size w8.heap.size b) y2 ⟨q.name, (q.params.length : Nat), SL, C⟩ [.string q.name, .int .i64 q.params.length, .slice As SL.length cs, .int .i64 C.kind, .int .i64 C.op, .int .i64 C.aB, .int .i64 C.line, .string C.text, .slice Ac C.kids.length qc] := Zlj HAT.o.nm (by unfold Zy; omega) HNy2.o.spO HCV2.o (fun b hb => ⟨.inl hb, hdis b hb⟩) (fun b hb => .inr hb);rw [← HRT.o] at hel;have HEL := zh (Zez.is.keep hel (fun _ h => h) (Zc.later hX2));clear hdis hel;have HEB := zh (show ∀ b, ((Value.slice As SL.length cs).ownBlock = some b ∨ Iv w6.heap.size w8.heap.size b) → wx.heap.size ≤ b ∧ b < y2.heap.size from fun b hb => by
    have h1 := HSZS.o;have h2 := HL48.o.size;have h3 := HL9.o.size;have h4 := HSX.o;have h5 := HL9y.o.size;have h6 := HYS.o
    rcases hb with hb | hb
    ·have := HNy2.o.own hb; omega
    ·have := hb.1; have := hb.2; omega)
   have HNO := zh (show ∀ b, ((Value.slice As SL.length cs).ownBlock = some b ∨ Iv w6.heap.size w8.heap.size b) → ¬ H b from fun b hb hh => by
    have h1 := (HX0.o.d b (.inl hh)).2.1;have := HEB.o b hb
    omega)
   have hml : M.length ≤ 134217728 := by rw [HM.o]; have := (Za9 HOC.o.ok).2.2; simp; omega
   obtain ⟨M2, hM2⟩ : ∃ z, z = M ++ [rtU N u q] := ⟨_, rfl⟩;have HM2 := zh hM2;clear hX2 hM2
   repeat (go_not_at_region 12; first | (go_says (at_builtin; refine Za4 Zez rfl _ _ 35 rfl TRt iS (.agg #[.string ⟨#[]⟩, .int .i64 0, .slice none 0 0, .int .i64 0, .int .i64 0, .int .i64 0, .int .i64 0, .string ⟨#[]⟩, .slice none 0 0]) 120 Tryz.underlying35 hiS hz0 hz1 hz2 rfl rfl HROW2.o ⟨y2.heap.size, 0, none⟩ 1 rfl (rtU N u q) [.string q.name, .int .i64 q.params.length, .slice As SL.length cs, .int .i64 C.kind, .int .i64 C.op, .int .i64 C.aB, .int .i64 C.line, .string C.text, .slice Ac C.kids.length qc] (Zg5 y2 _ TRt) (Zy5 _ _ _ _ _ _ _ _ _ rfl rfl rfl rfl rfl rfl rfl rfl rfl) HEL.o HNO.o hml (by decide) ?_; intro v2 Y hrow hkp hb0; rw [← HM2.o] at hrow; obtain ⟨A2', c2, rfl, -⟩ := id hrow; have HRW := zh hrow; have HKP := zh hkp; have HB0 := zh hb0; have hcy := (hkp.same OB (fun hh => (HX0.o.d OB (.inl hh)).2.2 rfl) (Nat.lt_of_lt_of_le (Za HS2.o.ob) HX2.o.size)).trans ((HX2.o.block _ (Za HS2.o.ob)).trans HS2.o.ob); clear hrow hkp hb0 x0 fx0 r0 fr0 o0 fo0; have o0 := cz4 hcy; have fo0 := fz hcy; clear hcy)) | go_values | go_skip | go_guarded | go_step | go_upon | go_back)
   clear o0 fo0;have hps := HX0.o.pushH (HLX.o.trans HX2.o) (a := rtU N u q) (E := fun b => (Value.slice As SL.length cs).ownBlock = some b ∨ Iv w6.heap.size w8.heap.size b) (fun b hb => ⟨(HEB.o b hb).1, Nat.lt_of_lt_of_le (HEB.o b hb).2 HX2.o.size⟩) (HM2.o ▸ HRW.o) HKP.o HB0.o;rw [← HM2.o] at hps;have HPS := zh hps;clear hps;go_wp2_with fail;refine Handed.intro (gk - 1) (by omega) (hJ _ _ _ ⟨j + 1, _, _, _, _, _, _, _, by omega, FrV.mk' rfl rfl rfl rfl rfl rfl rfl (congrArg some (congrArg (Value.int .i64) (by first | rfl | (rw [IntWalk.wrap64_in _ (by omega)]; rfl)))) rfl rfl rfl rfl rfl, HPS.o.eqs (by rw [HM2.o, HM.o, Zlg hlt, HV_.o]) rfl⟩)
  )
 ·obtain rfl : j = u.procedures.length := by omega
  rw [List.take_length] at HM;have HZr := zh ((Below.block HL.o _ (Za HZ.o)).trans HZ.o);have hm64 : Zy (mnU u u.procedures.length) := by have := Zni u u.procedures.length; unfold Zy; omega
  have HD := zh (HSr.o.done hm64 (HLb.o.trans HL2.o) HZB.o.1 (Nat.lt_of_lt_of_le HZB.o.2 HL2.o.size) true);clear hm64;have o0 := cz4 HSr.o.ob;have fo0 := fz HSr.o.ob;have z0 := cz4 HZr.o;have fz0 := fz HZr.o;go_wp2_with fail;have hd := HD.o;simp only [Zb3, Nat.zero_add, Nat.reduceAdd] at hd;rw [show Rr = (⟨M, u.aA, u.globals, mnU u u.procedures.length⟩, true) by rw [HR.o, HM.o]; unfold lwR Zv8; rw [if_pos HOC.o, List.take_length]];exact bodyPost_ret (v := .tuple #[.agg #[.slice Ar M.length cr, .slice Ae u.aA.length ce, .slice Ag u.globals.length cg, .int .i64 (mnU u u.procedures.length)], .bool true]) (by simp [results, Tryz.results15, go_sem, z0, fz0]) rfl hd
def Zi2 (mK : Ze → Int → Ze) (cK : Ze → Nat) (r : Ze) (k : Int) : Ze := { kind := k, text := Z9 (k + 1), aB := k + 2, line := k + 3, kids := Zbs mK cK r.kids (k + 4) }
def Zc7 (cK : Ze → Nat) (r : Ze) : Nat := 4 + (Zd cK r.kids)
def Zd4 (mK : Ze → Int → Ze) (cK : Ze → Nat) (r : Zag) (k : Int) : Zag := { name := Z9 (k), params := Zbs Zer (fun _ => 1) r.params (k + 1), locals := Zbs Zer (fun _ => 1) r.locals ((k + 1 + (Zd (fun _ => 1) r.params : Nat))), body := { kind := ((k + 1 + (Zd (fun _ => 1) r.params : Nat)) + (Zd (fun _ => 1) r.locals : Nat)), text := Z9 (((k + 1 + (Zd (fun _ => 1) r.params : Nat)) + (Zd (fun _ => 1) r.locals : Nat)) + 1), aB := ((k + 1 + (Zd (fun _ => 1) r.params : Nat)) + (Zd (fun _ => 1) r.locals : Nat)) + 2, line := ((k + 1 + (Zd (fun _ => 1) r.params : Nat)) + (Zd (fun _ => 1) r.locals : Nat)) + 3, kids := Zbs mK cK r.body.kids (((k + 1 + (Zd (fun _ => 1) r.params : Nat)) + (Zd (fun _ => 1) r.locals : Nat)) + 4) }, line := (((k + 1 + (Zd (fun _ => 1) r.params : Nat)) + (Zd (fun _ => 1) r.locals : Nat)) + 4 + (Zd cK r.body.kids : Nat)) }
def Zaf (cK : Ze → Nat) (r : Zag) : Nat := 6 + (Zd (fun _ => 1) r.params + (Zd (fun _ => 1) r.locals + (Zd cK r.body.kids)))
def Zvr (mK : Ze → Int → Ze) (cK : Ze → Nat) (r : Zt) (k : Int) : Zt := { r with aA := Zbs Zby Zl r.aA (k), globals := Zbs Zer (fun _ => 1) r.globals (k + (Zd Zl r.aA : Nat)), procedures := Zbs (Zd4 mK cK) (Zaf cK) r.procedures (k + (Zd Zl r.aA : Nat) + (Zd (fun _ => 1) r.globals : Nat)) }
def Zeg (cK : Ze → Nat) (r : Zt) : Nat := Zd Zl r.aA + Zd (fun _ => 1) r.globals + Zd (Zaf cK) r.procedures
def Zhe : Nat → Ze → Nat
 | 0 => fun _ => 0
 | n + 1 => Zc7 (Zhe n)
def Zzb : Nat → Ze → Int → Ze
 | 0 => fun r _ => r
 | n + 1 => Zi2 (Zzb n) (Zhe n)
section
structure Zhs {α : Type} (S : Zaj α) (T : TypeId) (lo hi : Nat) (u : World) (q : α) (B : Nat) (F : Nat → Prop) (cs : List Value) : Prop where
 blk : u.heap[B]? = some (.cells cs.toArray T (0, 0))
 sp : S F u q cs
 dom : ∀ b, F b → lo ≤ b ∧ b < hi
 loB : lo ≤ B
 hiB : B < hi
 nB : ¬ F B
 le : hi ≤ u.heap.size
section
variable {α β : Type} {S El : Zaj α} {S' : Zaj β} {T T' : TypeId} {size : Nat} {lo hi lo' hi' : Nat} {u v : World} {q q' : α} {q2 : β} {B B' : Nat} {F F' : Nat → Prop} {cs cs' : List Value}
theorem Zhs.move (hS : Zcp S El size) (h : Zhs S T lo hi u q B F cs) (hs : u.heap.size ≤ v.heap.size) (hb : ∀ b, lo ≤ b → b < hi → v.heap[b]? = u.heap[b]?) : Zhs S T lo hi v q B F cs :=
 ⟨(hb B h.loB h.hiB).trans h.blk, hS.is.keep h.sp (fun _ h => h) ⟨hs, fun b hF _ => hb b (h.dom b hF).1 (h.dom b hF).2⟩, h.dom, h.loB, h.hiB, h.nB, Nat.le_trans h.le hs⟩
theorem Zhs.later (hS : Zcp S El size) (h : Zhs S T lo hi u q B F cs) (hl : Zb u v) : Zhs S T lo hi v q B F cs :=
 h.move hS hl.size fun b _ hb => hl.block b (Nat.lt_of_lt_of_le hb h.le)
theorem Zhs.apart (hS : Zcp S El size) (h : Zhs S T lo hi u q B F cs) (h' : Zhs S' T' lo' hi' u q2 B' F' cs') (hk : Zc (fun y => ¬ F' y) u v) (hd : hi ≤ lo' ∨ hi' ≤ lo) : Zhs S T lo hi v q B F cs :=
 h.move hS hk.size fun b h1 h2 => hk.same b (fun hF => by have := h'.dom b hF; omega) (Nat.lt_of_lt_of_le h2 h.le)
theorem Zhs.turned (h : Zhs S T lo hi u q B F cs) (hk : Zc (fun y => ¬ F y) u v) (hsp : S F v q' cs) : Zhs S T lo hi v q' B F cs :=
 ⟨(hk.same B h.nB (Za h.blk)).trans h.blk, hsp, h.dom, h.loB, h.hiB, h.nB, Nat.le_trans h.le hk.size⟩
theorem Zhs.below (h : Zhs S T lo hi u q B F cs) (hk : Zc (fun y => ¬ F y) u v) (h0 : Below 0 u v) {n : Nat} (hn : n ≤ lo) : Below n u v :=
 Zde hk h0 (fun b hb => Nat.le_trans hn (h.dom b hb).1) (Nat.le_trans hn (Nat.le_trans h.loB (Nat.le_of_lt (Za h.blk))))
theorem Zfx (hS : Zcp S El size) {W : World} (hW : Zb W u) (hsp : S F u q cs) (hF : ∀ b, F b → W.heap.size ≤ b) :
  Zhs S T W.heap.size (u.heap.size + 1) (u.alloc (.cells cs.toArray T)) q u.heap.size (fun b => F b ∧ b < u.heap.size) cs ∧ Zb W (u.alloc (.cells cs.toArray T)) := by
 have hl : Zb u (u.alloc (.cells cs.toArray T)) := (Zb.refl u).alloc _;refine ⟨⟨Zco rfl, ?_, fun b hb => ⟨hF b hb.1, by have := hb.2; omega⟩, hW.size, by omega, fun h => by have := h.2; omega, by simp⟩, hW.trans hl⟩;exact hS.is.keep (hS.trim hsp) (fun _ h => h) (Zc.later hl)
end
theorem Zpl : ∀ (n : Nat) (c : Ze), Zhe n c ≤ 4 + 4 * Zfz n c
 | 0, _ => Nat.zero_le _
 | n + 1, c => by
  have := Zfe (Zhe n) (Zfz n) 4 4 (Zpl n) (by omega) c.kids;simp only [Zhe, Zfz, Zc7, Zat]
  omega
theorem Zvs (n : Nat) (u : Zt) : Zeg (Zhe n) u ≤ 6 * Zb5 (Zfz n) u := by
 have h1 := Zoz u.aA;have h2 := Zf5 u.globals;have h3 := Zfe (Zaf (Zhe n)) (Zn (Zfz n)) 6 6 (fun q => by
  have h1 := Zf5 q.params;have h2 := Zf5 q.locals;have h3 := Zfe (Zhe n) (Zfz n) 4 4 (Zpl n) (by omega) q.body.kids;simp only [Zaf, Zn, Zat]
  omega) (by omega) u.procedures
 simp only [Zeg, Zb5]
 omega
theorem Zpm (sz : Ze → Nat) : ∀ (l : List Ze), (∀ x ∈ l, Zc6 x ≤ sz x + 1) → Zcc l ≤ Zp sz l
 | [], _ => by simp [Zcc]
 | a :: l, h => by
  have h1 := h a (by simp);have h2 := Zpm sz l (fun x hx => h x (by simp [hx]));simp only [Zp, Za2, Zcc, List.length_cons] at *
  omega
theorem Zpn {F : Nat → Prop} {w : World} : ∀ (n : Nat) (l : List Ze) (v : Value), Zq (Ze4 n) 5 F w l v → Zcc l ≤ Zp (Zfz n) l
 | 0, l, v, h => by
  obtain ⟨A, c, _, _, _, hel⟩ := h
  cases l with
  | nil => simp [Zcc]
  | cons a l =>
   obtain ⟨_, _, _, _, _, _, hE, _⟩ := hel 0 (by simp);exact hE.elim
 | n + 1, l, v, h => by
  obtain ⟨A, c, _, _, _, hel⟩ := h;refine Zpm _ _ fun x hx => ?_;obtain ⟨i, hi, rfl⟩ := List.getElem_of_mem hx;obtain ⟨_, _, _, _, _, _, hE, _⟩ := hel i hi;obtain ⟨vk, _, _, _, _, _, hk⟩ := hE;have := Zpn n _ _ hk;rw [Zfu];simp only [Zfz, Zat]
  omega
theorem Ztf {F : Nat → Prop} {w : World} {n : Nat} {l : List Zag} {v : Value} (h : Zq (Zbb (Ze4 n)) 9 F w l v) (q : Zag) (hq : q ∈ l) : Zc6 q.body ≤ Zp (Zn (Zfz n)) l + 1 := by
 obtain ⟨A, c, _, _, _, hel⟩ := h;obtain ⟨i, hi, rfl⟩ := List.getElem_of_mem hq;obtain ⟨_, _, _, _, _, _, ⟨_, _, _, _, _, _, _, _, _, _, _, hk, _⟩, _⟩ := hel i hi;have h1 := Zpn n _ _ hk;have h2 := Zd9 (Zn (Zfz n)) l l[i] (List.getElem_mem hi);rw [Zfu];unfold Zp;simp only [Zn, Zat] at h2 ⊢
 omega
theorem Zvt {N : Nat} {F : Nat → Prop} {w : World} {u : Zt} {A1 A2 A3 : Option Addr} {k1 k2 k3 : Nat} (h : Zk4 (Zn3 N) F w u [.slice A1 u.aA.length k1, .slice A2 u.globals.length k2, .slice A3 u.procedures.length k3]) : UV N (fun b => F b ∧ b < w.heap.size) w u A1 A2 A3 k1 k2 k3 := by
 obtain ⟨v0, v1, v2, e, h0, h1, h2⟩ := (Zcd (Zbj N) (Zab N)).el ((Zcd (Zbj N) (Zab N)).trim h);simp only [List.cons.injEq, and_true] at e;obtain ⟨rfl, rfl, rfl⟩ := e;exact ⟨h0, h1, h2, fun b hb => hb.2⟩
end
section
section
variable {S K : Zaj Zf} {mK : Zf → Int → Zf} {cK sK : Zf → Nat}
theorem Zcl (l : List ByteArray) (v : Value) (F : Nat → Prop) (w : World) (k : Int) (hk : 1 ≤ k) (hk1 : k + (Zd (fun _ => 1) l : Nat) ≤ 1099511627776) (hr : Zz Zah 1 9 F w l v) :
  Calls Tryz.prog 45 #[v, .int .i64 k] w fun e w' => e = .returned (.int .i64 (k + (Zd (fun _ => 1) l : Nat))) ∧ Zz Zah 1 9 F w' (Zbs Zer (fun _ => 1) l k) v ∧ Zc (fun y => ¬ F y) w w' ∧ Below 0 w w' := by
 have hr0 := hr;obtain ⟨A, cp, rfl, hc, hcm, hel⟩ := hr;have HCM := zh hcm;unfold maxLen at hcm
 by_cases h0 : l.length = 0
 ·obtain rfl : l = [] := List.eq_nil_of_length_eq_zero h0;have HR := zh hr0;clear hel hr0;go_enter Tryz.func45, Tryz.ntmps45;go_wp2_with fail;refine wp_loop_rounds 1 ?_;rw [rounds_succ];go_wp2_with fail;go_ret;exact ⟨by simp [Zd], HR.o, Zc.refl _ _, Below.refl _ _⟩
 clear hr0;obtain ⟨b, o, cur0, tag, rfl, hFb, hb0, hcp, hall⟩ := hel (by omega);have HS0 : Hd (SAt Zah 1 9 F b o (o + cp * 1) tag w (Zel Zer (fun _ => 1) l k 0)) := zh (by rw [Zea]; exact ⟨cur0, hb0, hcp.2, hall⟩);have HO0 := zh hcp.1;have HK1 := zh hk1;clear hel hb0 hcp hall hk1;have HFB := zh hFb;go_enter Tryz.func45, Tryz.ntmps45;go_wp2_with fail
 go_loopw [1, 5] (fun kv i wr => ∃ j : Nat, j ≤ l.length ∧ i = .int .i64 j ∧ kv = .int .i64 (k + (Zd (fun _ => 1) (l.take j) : Nat)) ∧ SAt Zah 1 9 F b o (o + cp * 1) tag wr (Zel Zer (fun _ => 1) l k j) ∧ Zc (fun y => ¬ F y) w wr ∧ Below 0 w wr) (fun _ i _ => l.length - (intOf i).toNat)
 case atStart => exact ⟨0, Nat.zero_le _, rfl, by simp [Zd], HS0.o, Zc.refl _ _, Below.refl _ _⟩
 case round =>
  obtain ⟨j, hj, rfl, rfl, hat, hkw, hk0⟩ := hrel;have HAT := zh hat;have HKW := zh hkw;have HK0W := zh hk0;have HLE := zh (Za1 (fun _ => 1) l j);obtain ⟨y, hy⟩ : ∃ y : Int, k + (Zd (fun _ => 1) (l.take j) : Nat) = y := ⟨_, rfl⟩;have hy1 : 1 ≤ y := by omega
  have hy2 : y ≤ 1099511627776 := by have := HK1.o; have := HLE.o; omega
  rw [hy];have HY := zh hy;clear hy hat hkw hk0 HLE
  by_cases hlt : j < l.length
  ·have hlt' : (j : Int) < l.length := by omega
   have HCT := zh (Zb0 (fun _ => 1) l j hlt);have HCL := zh (Za1 (fun _ => 1) l (j + 1));obtain ⟨cur, cs, hb, hs, hst⟩ := HAT.o.open_ Zj.is (i := j) (by rw [Z2]; exact hlt);rw [Zgb Zer (fun _ => 1) l k j hlt] at hs;have HB := zh hb;have HST := zh (hst (by decide));obtain ⟨rfl, _⟩ := hs;clear hst hb;have HK : Hd (Zc (fun y => y ≠ b ∧ ¬ ((F y ∧ y ≠ b) ∧ tag y = j)) wr wr) := zh (Zc.refl _ _);have HK0 : Hd (Below 0 wr wr) := zh (Below.refl _ _);have HCE := zh (show (fun _ : ByteArray => (1 : Nat)) l[j] = 1 from rfl);have n0_1 : y + 1 + 1 = y + 2 := by omega
   go_wp2_with fail;clear  n0_1;refine (Za5 (y) _ (by omega) (by have := HCE.o; have := HCT.o; have := HCL.o; have := HK1.o; have := HY.o; omega)).mono ?_;rintro e w1 ⟨rfl, hb1⟩;replace HST := zh (HST.o.keep (Below.block hb1 _ HST.o.lt));replace HK := zh (HK.o.trans (Zc.later hb1));replace HK0 := zh (HK0.o.trans (Below.mono hb1 (Nat.zero_le _)));clear hb1;have c0 := HST.o.cell (q := 0) rfl;have f0 := HST.o.frozen (o + j);simp only [Nat.add_zero, Nat.mul_one] at c0;have n1_1 : y + 1 + 1 = y + 2 := by omega
   have n1_2 : y + 2 + 1 = y + 3 := by omega
   replace HST := zh (HST.o.set 0 (by simp) (.string (Z9 (y))));simp only [List.set_cons_zero, List.set_cons_succ, Nat.add_zero, Nat.mul_one] at HST;replace HK := zh (HK.o.set (B := b) (fun h => h.1 rfl) (o + j) (.string (Z9 (y))));replace HK0 := zh (HK0.o.setCell (p := ⟨b, o + j, none⟩) (Nat.zero_le _) (.string (Z9 (y))));go_wp2_with fail
   go_roundw
   case rel =>
    refine ⟨j + 1, by omega, by go_num, by have := HCE.o; have := HCT.o; have := HCL.o; have := HK1.o; have := HY.o; congr 1; omega, ?_, HKW.o.trans (HK.o.mono fun z h => ⟨fun e => h (by rw [e]; exact HFB.o), fun h2 => h h2.1.1⟩), HK0W.o.trans HK0.o⟩;rw [Zeb _ _ _ _ _ hlt, HY.o];exact SAt.put Zj.is HAT.o (i := j) (by rw [Z2]; exact hlt) HB.o (show St _ b (o + j * 1) cur _ _ from by rw [Nat.mul_one]; exact HST.o) (HK.o.mono fun z h => ⟨h.1.2, fun h2 => h.2 h2.2⟩) ⟨rfl, (show (Z9 (y)).size ≤ maxLen by have := HCE.o; have := HCT.o; have := HCL.o; have := HK1.o; have := HY.o; have := Zdk (k := y) (by omega); unfold maxLen; omega)⟩
   case measure => simp [intOf]; omega
  ·have hjl : j = l.length := by omega
   go_wp2_with fail;go_ret;subst hjl;have hrow := HAT.o.row HFB.o (c := cp) (by rw [Z2]; exact hc) HCM.o ⟨HO0.o, Nat.le_refl _⟩;rw [Z2] at hrow;refine ⟨Zu ?_, hrow, HKW.o, HK0W.o⟩;have := HY.o;rw [List.take_length] at this;exact this.symm
theorem Ze5 (l : List Z3) (v : Value) (F : Nat → Prop) (w : World) (k : Int) (hk : 1 ≤ k) (hk1 : k + (Zd Zl l : Nat) ≤ 1099511627776) (hr : Zz Zac 3 101 F w l v) :
  Calls Tryz.prog 44 #[v, .int .i64 k] w fun e w' => e = .returned (.int .i64 (k + (Zd Zl l : Nat))) ∧ Zz Zac 3 101 F w' (Zbs Zby Zl l k) v ∧ Zc (fun y => ¬ F y) w w' ∧ Below 0 w w' := by
 have hr0 := hr;obtain ⟨A, cp, rfl, hc, hcm, hel⟩ := hr;have HCM := zh hcm;unfold maxLen at hcm
 by_cases h0 : l.length = 0
 ·obtain rfl : l = [] := List.eq_nil_of_length_eq_zero h0;have HR := zh hr0;clear hel hr0;go_enter Tryz.func44, Tryz.ntmps44;go_wp2_with fail;refine wp_loop_rounds 1 ?_;rw [rounds_succ];go_wp2_with fail;go_ret;exact ⟨by simp [Zd], HR.o, Zc.refl _ _, Below.refl _ _⟩
 clear hr0;obtain ⟨b, o, cur0, tag, rfl, hFb, hb0, hcp, hall⟩ := hel (by omega);have HS0 : Hd (SAt Zac 3 101 F b o (o + cp * 3) tag w (Zel Zby Zl l k 0)) := zh (by rw [Zea]; exact ⟨cur0, hb0, hcp.2, hall⟩);have HO0 := zh hcp.1;have HK1 := zh hk1;clear hel hb0 hcp hall hk1;have HFB := zh hFb;go_enter Tryz.func44, Tryz.ntmps44;go_wp2_with fail
 go_loopw [1, 5] (fun kv i wr => ∃ j : Nat, j ≤ l.length ∧ i = .int .i64 j ∧ kv = .int .i64 (k + (Zd Zl (l.take j) : Nat)) ∧ SAt Zac 3 101 F b o (o + cp * 3) tag wr (Zel Zby Zl l k j) ∧ Zc (fun y => ¬ F y) w wr ∧ Below 0 w wr) (fun _ i _ => l.length - (intOf i).toNat)
 case atStart => exact ⟨0, Nat.zero_le _, rfl, by simp [Zd], HS0.o, Zc.refl _ _, Below.refl _ _⟩
 case round =>
  obtain ⟨j, hj, rfl, rfl, hat, hkw, hk0⟩ := hrel;have HAT := zh hat;have HKW := zh hkw;have HK0W := zh hk0;have HLE := zh (Za1 Zl l j);obtain ⟨y, hy⟩ : ∃ y : Int, k + (Zd Zl (l.take j) : Nat) = y := ⟨_, rfl⟩;have hy1 : 1 ≤ y := by omega
  have hy2 : y ≤ 1099511627776 := by have := HK1.o; have := HLE.o; omega
  rw [hy];have HY := zh hy;clear hy hat hkw hk0 HLE
  by_cases hlt : j < l.length
  ·have hlt' : (j : Int) < l.length := by omega
   have HCT := zh (Zb0 Zl l j hlt);have HCL := zh (Za1 Zl l (j + 1));obtain ⟨cur, cs, hb, hs, hst⟩ := HAT.o.open_ Zh.is (i := j) (by rw [Z2]; exact hlt);rw [Zgb Zby Zl l k j hlt] at hs;have HB := zh hb;have HST := zh (hst (by decide));obtain ⟨tg, aE, rfl, aK, aL, aM⟩ := hs;have Rfields := zh aL;clear aK aL aM;clear hst hb;have HK : Hd (Zc (fun y => y ≠ b ∧ ¬ ((F y ∧ y ≠ b) ∧ tag y = j)) wr wr) := zh (Zc.refl _ _);have HK0 : Hd (Below 0 wr wr) := zh (Below.refl _ _);have HCE := zh (show Zl l[j] = 2 + (Zd (fun _ => 1) l[j].fields) from rfl);have n0_1 : y + 1 + 1 = y + 2 := by omega
   go_wp2_with fail;clear  n0_1;refine (Za5 (y) _ (by omega) (by have := HCE.o; have := HCT.o; have := HCL.o; have := HK1.o; have := HY.o; omega)).mono ?_;rintro e w1 ⟨rfl, hb1⟩;replace HST := zh (HST.o.keep (Below.block hb1 _ HST.o.lt));replace Rfields := zh (Rfields.o.keep Zj.is (fun _ h => h) (Zc.later hb1));replace HK := zh (HK.o.trans (Zc.later hb1));replace HK0 := zh (HK0.o.trans (Below.mono hb1 (Nat.zero_le _)));clear hb1;have c0 := HST.o.cell (q := 0) rfl;have f0 := HST.o.frozen (o + j * 3);have c1 := HST.o.cell (q := 1) rfl;simp only [Nat.add_zero] at c0;have n1_1 : y + 1 + 1 = y + 2 := by omega
   have n1_2 : y + 2 + 1 = y + 3 := by omega
   go_wp2_with fail;clear c0 f0 c1 n1_1 n1_2;replace HST := zh (HST.o.set 0 (by simp) (.string (Z9 (y))));simp only [List.set_cons_zero, List.set_cons_succ, Nat.add_zero] at HST;replace Rfields := zh (Rfields.o.keep Zj.is (fun _ h => h) ((Zc.refl _ w1).set (B := b) (fun h => h.1.1.2 rfl) (o + j * 3) (.string (Z9 (y)))));replace HK := zh (HK.o.set (B := b) (fun h => h.1 rfl) (o + j * 3) (.string (Z9 (y))));replace HK0 := zh (HK0.o.setCell (p := ⟨b, o + j * 3, none⟩) (Nat.zero_le _) (.string (Z9 (y))));refine (Zcl l[j].fields aE _ _ (y + 1) (by omega) (by have := HCE.o; have := HCT.o; have := HCL.o; have := HK1.o; have := HY.o; omega) Rfields.o).mono ?_;rintro e w2 ⟨rfl, hr2, hk2, hz2⟩;replace HST := zh (HST.o.keep (hk2.same b (fun h => h.1.1.2 rfl) HST.o.lt));replace Rfields := zh hr2;replace HK := zh (HK.o.trans (hk2.mono fun y h h2 => h.2 h2.1));replace HK0 := zh (HK0.o.trans hz2);clear hr2 hk2 hz2;obtain ⟨y2, hy2⟩ : ∃ z : Int, y + 1 + (Zd (fun _ => 1) l[j].fields : Nat) = z := ⟨_, rfl⟩;rw [hy2];have HY2 := zh hy2;have hl2 : 1 ≤ y2 := by omega
   have hu2 : y2 ≤ 1099511627776 := by have := HCE.o; have := HCT.o; have := HCL.o; have := HK1.o; have := HY.o; omega
   clear hy2;have c2 := HST.o.cell (q := 2) rfl;have f2 := HST.o.frozen (o + j * 3 + 2);have n2_1 : y2 + 1 + 1 = y2 + 2 := by omega
   have n2_2 : y2 + 2 + 1 = y2 + 3 := by omega
   replace HST := zh (HST.o.set 2 (by simp) (.int .i64 (y2)));simp only [List.set_cons_zero, List.set_cons_succ] at HST;replace Rfields := zh (Rfields.o.keep Zj.is (fun _ h => h) ((Zc.refl _ w2).set (B := b) (fun h => h.1.1.2 rfl) (o + j * 3 + 2) (.int .i64 (y2))));replace HK := zh (HK.o.set (B := b) (fun h => h.1 rfl) (o + j * 3 + 2) (.int .i64 (y2)));replace HK0 := zh (HK0.o.setCell (p := ⟨b, o + j * 3 + 2, none⟩) (Nat.zero_le _) (.int .i64 (y2)));go_wp2_with fail
   go_roundw
   case rel =>
    refine ⟨j + 1, by omega, by go_num, by have := HCE.o; have := HCT.o; have := HCL.o; have := HK1.o; have := HY.o; have := HY2.o; congr 1; omega, ?_, HKW.o.trans (HK.o.mono fun z h => ⟨fun e => h (by rw [e]; exact HFB.o), fun h2 => h h2.1.1⟩), HK0W.o.trans HK0.o⟩;rw [Zeb _ _ _ _ _ hlt, HY.o];exact SAt.put Zh.is HAT.o (i := j) (by rw [Z2]; exact hlt) HB.o HST.o (HK.o.mono fun z h => ⟨h.1.2, fun h2 => h.2 h2.2⟩) ⟨tg, _, by have eHY2 := HY2.o; subst eHY2; rfl, (show (Z9 (y)).size ≤ maxLen by have := HCE.o; have := HCT.o; have := HCL.o; have := HK1.o; have := HY.o; have := HY2.o; have := Zdk (k := y) (by omega); unfold maxLen; omega), (by have eHY2 := HY2.o; subst eHY2; exact Rfields.o), (show Zy ((y + 1 + (Zd (fun _ => 1) l[j].fields : Nat))) by have := HCE.o; have := HCT.o; have := HCL.o; have := HK1.o; have := HY.o; have := HY2.o; unfold Zy; omega)⟩
   case measure => simp [intOf]; omega
  ·have hjl : j = l.length := by omega
   go_wp2_with fail;go_ret;subst hjl;have hrow := HAT.o.row HFB.o (c := cp) (by rw [Z2]; exact hc) HCM.o ⟨HO0.o, Nat.le_refl _⟩;rw [Z2] at hrow;refine ⟨Zu ?_, hrow, HKW.o, HK0W.o⟩;have := HY.o;rw [List.take_length] at this;exact this.symm
def Zi3 (S : Zaj Zf) (mK : Zf → Int → Zf) (cK : Zf → Nat) : Prop := ∀ (l : List Zf) (v : Value) (F : Nat → Prop) (w : World) (k : Int) (hk : 1 ≤ k) (hk1 : k + (Zd cK l : Nat) ≤ 1099511627776) (hr : Zz S 6 68 F w l v),
 Calls Tryz.prog 88 #[v, .int .i64 k] w fun e w' => e = .returned (.int .i64 (k + (Zd cK l : Nat))) ∧ Zz S 6 68 F w' (Zbs mK cK l k) v ∧ Zc (fun y => ¬ F y) w w' ∧ Below 0 w w'
theorem Zlz (hS : Zcp S K 6) (hK : Zbf K 6) (hkid : Zi3 S mK cK) : Zi3 (Zk3 S) (Zgj mK cK) (Zbk cK) := by
 intro l v F w k hk hk1 hr;have hr0 := hr;obtain ⟨A, cp, rfl, hc, hcm, hel⟩ := hr;have HCM := zh hcm;unfold maxLen at hcm
 by_cases h0 : l.length = 0
 ·obtain rfl : l = [] := List.eq_nil_of_length_eq_zero h0;have HR := zh hr0;clear hel hr0;go_enter Tryz.func88, Tryz.ntmps88;go_wp2_with fail;refine wp_loop_rounds 1 ?_;rw [rounds_succ];go_wp2_with fail;go_ret;exact ⟨by simp [Zd], HR.o, Zc.refl _ _, Below.refl _ _⟩
 clear hr0;obtain ⟨b, o, cur0, tag, rfl, hFb, hb0, hcp, hall⟩ := hel (by omega);have HS0 : Hd (SAt (Zk3 S) 6 68 F b o (o + cp * 6) tag w (Zel (Zgj mK cK) (Zbk cK) l k 0)) := zh (by rw [Zea]; exact ⟨cur0, hb0, hcp.2, hall⟩);have HO0 := zh hcp.1;have HK1 := zh hk1;clear hel hb0 hcp hall hk1;have HFB := zh hFb;go_enter Tryz.func88, Tryz.ntmps88;go_wp2_with fail
 go_loopw [1, 5] (fun kv i wr => ∃ j : Nat, j ≤ l.length ∧ i = .int .i64 j ∧ kv = .int .i64 (k + (Zd (Zbk cK) (l.take j) : Nat)) ∧ SAt (Zk3 S) 6 68 F b o (o + cp * 6) tag wr (Zel (Zgj mK cK) (Zbk cK) l k j) ∧ Zc (fun y => ¬ F y) w wr ∧ Below 0 w wr) (fun _ i _ => l.length - (intOf i).toNat)
 case atStart => exact ⟨0, Nat.zero_le _, rfl, by simp [Zd], HS0.o, Zc.refl _ _, Below.refl _ _⟩
 case round =>
  obtain ⟨j, hj, rfl, rfl, hat, hkw, hk0⟩ := hrel;have HAT := zh hat;have HKW := zh hkw;have HK0W := zh hk0;have HLE := zh (Za1 (Zbk cK) l j);obtain ⟨y, hy⟩ : ∃ y : Int, k + (Zd (Zbk cK) (l.take j) : Nat) = y := ⟨_, rfl⟩;have hy1 : 1 ≤ y := by omega
  have hy2 : y ≤ 1099511627776 := by have := HK1.o; have := HLE.o; omega
  rw [hy];have HY := zh hy;clear hy hat hkw hk0 HLE
  by_cases hlt : j < l.length
  ·have hlt' : (j : Int) < l.length := by omega
   have HCT := zh (Zb0 (Zbk cK) l j hlt);have HCL := zh (Za1 (Zbk cK) l (j + 1));obtain ⟨cur, cs, hb, hs, hst⟩ := HAT.o.open_ (Zi9 hS hK).is (i := j) (by rw [Z2]; exact hlt);rw [Zgb (Zgj mK cK) (Zbk cK) l k j hlt] at hs;have HB := zh hb;have HST := zh (hst (by decide));obtain ⟨tg, vkids, rfl, aH, hop, aI, aM, aJ, hkids⟩ := hs;have Rkids := zh hkids;clear aH hop aI aM aJ hkids;clear hst hb;have HK : Hd (Zc (fun y => y ≠ b ∧ ¬ ((F y ∧ y ≠ b) ∧ tag y = j)) wr wr) := zh (Zc.refl _ _);have HK0 : Hd (Below 0 wr wr) := zh (Below.refl _ _);have HCE := zh (show (Zbk cK) l[j] = 5 + (Zd cK l[j].kids) from rfl);have c0 := HST.o.cell (q := 0) rfl;have f0 := HST.o.frozen (o + j * 6);have c1 := HST.o.cell (q := 1) rfl;have f1 := HST.o.frozen (o + j * 6 + 1);have c2 := HST.o.cell (q := 2) rfl;have f2 := HST.o.frozen (o + j * 6 + 2);have c3 := HST.o.cell (q := 3) rfl;have f3 := HST.o.frozen (o + j * 6 + 3);simp only [Nat.add_zero] at c0;have n0_1 : y + 1 + 1 = y + 2 := by omega
   have n0_2 : y + 2 + 1 = y + 3 := by omega
   have n0_3 : y + 3 + 1 = y + 4 := by omega
   have n0_4 : y + 4 + 1 = y + 5 := by omega
   have n0_5 : y + 5 + 1 = y + 6 := by omega
   go_wp2_with fail;clear c0 f0 c1 f1 c2 f2 c3 f3 n0_1 n0_2 n0_3 n0_4 n0_5;replace HST := zh ((((HST.o.set 0 (by simp) (.int .i64 (y))).set 1 (by simp) (.int .i64 (y + 1))).set 2 (by simp) (.int .i64 (y + 2))).set 3 (by simp) (.int .i64 (y + 3)));simp only [List.set_cons_zero, List.set_cons_succ, Nat.add_zero] at HST;replace Rkids := zh (Rkids.o.keep hS.is (fun _ h => h) (((((Zc.refl _ wr).set (B := b) (fun h => h.1.1.2 rfl) (o + j * 6) (.int .i64 (y))).set (B := b) (fun h => h.1.1.2 rfl) (o + j * 6 + 1) (.int .i64 (y + 1))).set (B := b) (fun h => h.1.1.2 rfl) (o + j * 6 + 2) (.int .i64 (y + 2))).set (B := b) (fun h => h.1.1.2 rfl) (o + j * 6 + 3) (.int .i64 (y + 3))));replace HK := zh ((((HK.o.set (B := b) (fun h => h.1 rfl) (o + j * 6) (.int .i64 (y))).set (B := b) (fun h => h.1 rfl) (o + j * 6 + 1) (.int .i64 (y + 1))).set (B := b) (fun h => h.1 rfl) (o + j * 6 + 2) (.int .i64 (y + 2))).set (B := b) (fun h => h.1 rfl) (o + j * 6 + 3) (.int .i64 (y + 3)));replace HK0 := zh ((((HK0.o.setCell (p := ⟨b, o + j * 6, none⟩) (Nat.zero_le _) (.int .i64 (y))).setCell (p := ⟨b, o + j * 6 + 1, none⟩) (Nat.zero_le _) (.int .i64 (y + 1))).setCell (p := ⟨b, o + j * 6 + 2, none⟩) (Nat.zero_le _) (.int .i64 (y + 2))).setCell (p := ⟨b, o + j * 6 + 3, none⟩) (Nat.zero_le _) (.int .i64 (y + 3)));refine (Za5 (y + 4) _ (by omega) (by have := HCE.o; have := HCT.o; have := HCL.o; have := HK1.o; have := HY.o; omega)).mono ?_;rintro e w1 ⟨rfl, hb1⟩;replace HST := zh (HST.o.keep (Below.block hb1 _ HST.o.lt))
   replace Rkids := zh (Rkids.o.keep hS.is (fun _ h => h) (Zc.later hb1));replace HK := zh (HK.o.trans (Zc.later hb1));replace HK0 := zh (HK0.o.trans (Below.mono hb1 (Nat.zero_le _)));clear hb1;have c4 := HST.o.cell (q := 4) rfl;have f4 := HST.o.frozen (o + j * 6 + 4);have c5 := HST.o.cell (q := 5) rfl;have n1_1 : y + 1 + 1 = y + 2 := by omega
   have n1_2 : y + 2 + 1 = y + 3 := by omega
   have n1_3 : y + 3 + 1 = y + 4 := by omega
   have n1_4 : y + 4 + 1 = y + 5 := by omega
   have n1_5 : y + 5 + 1 = y + 6 := by omega
   have n1_6 : y + 6 + 1 = y + 7 := by omega
   go_wp2_with fail;clear c4 f4 c5 n1_1 n1_2 n1_3 n1_4 n1_5 n1_6;replace HST := zh (HST.o.set 4 (by simp) (.string (Z9 (y + 4))));simp only [List.set_cons_zero, List.set_cons_succ] at HST;replace Rkids := zh (Rkids.o.keep hS.is (fun _ h => h) ((Zc.refl _ w1).set (B := b) (fun h => h.1.1.2 rfl) (o + j * 6 + 4) (.string (Z9 (y + 4)))));replace HK := zh (HK.o.set (B := b) (fun h => h.1 rfl) (o + j * 6 + 4) (.string (Z9 (y + 4))));replace HK0 := zh (HK0.o.setCell (p := ⟨b, o + j * 6 + 4, none⟩) (Nat.zero_le _) (.string (Z9 (y + 4))));refine (hkid l[j].kids vkids _ _ (y + 5) (by omega) (by have := HCE.o; have := HCT.o; have := HCL.o; have := HK1.o; have := HY.o; omega) Rkids.o).mono ?_;rintro e w2 ⟨rfl, hr2, hk2, hz2⟩;replace HST := zh (HST.o.keep (hk2.same b (fun h => h.1.1.2 rfl) HST.o.lt));replace Rkids := zh hr2;replace HK := zh (HK.o.trans (hk2.mono fun y h h2 => h.2 h2.1));replace HK0 := zh (HK0.o.trans hz2);clear hr2 hk2 hz2;obtain ⟨y2, hy2⟩ : ∃ z : Int, y + 5 + (Zd cK l[j].kids : Nat) = z := ⟨_, rfl⟩;rw [hy2];have HY2 := zh hy2;have hl2 : 1 ≤ y2 := by omega
   have hu2 : y2 ≤ 1099511627776 := by have := HCE.o; have := HCT.o; have := HCL.o; have := HK1.o; have := HY.o; omega
   clear hy2;go_wp2_with fail
   go_roundw
   case rel =>
    refine ⟨j + 1, by omega, by go_num, by have := HCE.o; have := HCT.o; have := HCL.o; have := HK1.o; have := HY.o; have := HY2.o; congr 1; omega, ?_, HKW.o.trans (HK.o.mono fun z h => ⟨fun e => h (by rw [e]; exact HFB.o), fun h2 => h h2.1.1⟩), HK0W.o.trans HK0.o⟩;rw [Zeb _ _ _ _ _ hlt, HY.o];exact SAt.put (Zi9 hS hK).is HAT.o (i := j) (by rw [Z2]; exact hlt) HB.o HST.o (HK.o.mono fun z h => ⟨h.1.2, fun h2 => h.2 h2.2⟩) ⟨tg, _, by have eHY2 := HY2.o; subst eHY2; rfl, (show Zy (y) by have := HCE.o; have := HCT.o; have := HCL.o; have := HK1.o; have := HY.o; have := HY2.o; unfold Zy; omega), (show Zy (y + 1) by have := HCE.o; have := HCT.o; have := HCL.o; have := HK1.o; have := HY.o; have := HY2.o; unfold Zy; omega), (show Zy (y + 2) by have := HCE.o; have := HCT.o; have := HCL.o; have := HK1.o; have := HY.o; have := HY2.o; unfold Zy; omega), (show Zy (y + 3) by have := HCE.o; have := HCT.o; have := HCL.o; have := HK1.o; have := HY.o; have := HY2.o; unfold Zy; omega), (show (Z9 (y + 4)).size ≤ maxLen by have := HCE.o; have := HCT.o; have := HCL.o; have := HK1.o; have := HY.o; have := HY2.o; have := Zdk (k := y + 4) (by omega); unfold maxLen; omega), (by have eHY2 := HY2.o; subst eHY2; exact Rkids.o)⟩
   case measure => simp [intOf]; omega
  ·have hjl : j = l.length := by omega
   go_wp2_with fail;go_ret;subst hjl;have hrow := HAT.o.row HFB.o (c := cp) (by rw [Z2]; exact hc) HCM.o ⟨HO0.o, Nat.le_refl _⟩;rw [Z2] at hrow;refine ⟨Zu ?_, hrow, HKW.o, HK0W.o⟩;have := HY.o;rw [List.take_length] at this;exact this.symm
theorem Zhy : ∀ n, Zi3 (Ze3 n) (mkN n) (Zhr n)
 | 0 => by
  intro l v F w k hk hk1 hr;have hr0 := hr;obtain ⟨A, cp, rfl, hc, hcm, hel⟩ := hr;unfold maxLen at hcm;have h0 : l.length = 0 := by
   rcases Nat.eq_zero_or_pos l.length with h | h
   ·exact h
   ·obtain ⟨b, o, cur0, tag, rfl, hFb, hb0, hcp, hall⟩ := hel (by omega);obtain ⟨cs, hs, _⟩ := hall 0 h;exact hs.elim
  obtain rfl : l = [] := List.eq_nil_of_length_eq_zero h0;have HR := zh hr0;clear hel hr0 h0;go_enter Tryz.func88, Tryz.ntmps88;go_wp2_with fail;refine wp_loop_rounds 1 ?_;rw [rounds_succ];go_wp2_with fail;go_ret;exact ⟨by simp [Zd], HR.o, Zc.refl _ _, Below.refl _ _⟩
 | n + 1 => Zlz (Zw n) (Zr n) (Zhy n)
theorem Zjt (hS : Zcp S K 6) (hK : Zbf K 6) (hkid : Zi3 S mK cK) (l : List Zbi) (v : Value) (F : Nat → Prop) (w : World) (k : Int) (hk : 1 ≤ k) (hk1 : k + (Zd (Zo cK) l : Nat) ≤ 1099511627776) (hr : Zz (Zb4 S) 9 70 F w l v) :
  Calls Tryz.prog 43 #[v, .int .i64 k] w fun e w' => e = .returned (.int .i64 (k + (Zd (Zo cK) l : Nat))) ∧ Zz (Zb4 S) 9 70 F w' (Zbs (Zdl mK cK) (Zo cK) l k) v ∧ Zc (fun y => ¬ F y) w w' ∧ Below 0 w w' := by
 have hr0 := hr;obtain ⟨A, cp, rfl, hc, hcm, hel⟩ := hr;have HCM := zh hcm;unfold maxLen at hcm
 by_cases h0 : l.length = 0
 ·obtain rfl : l = [] := List.eq_nil_of_length_eq_zero h0;have HR := zh hr0;clear hel hr0;go_enter Tryz.func43, Tryz.ntmps43;go_wp2_with fail;refine wp_loop_rounds 1 ?_;rw [rounds_succ];go_wp2_with fail;go_ret;exact ⟨by simp [Zd], HR.o, Zc.refl _ _, Below.refl _ _⟩
 clear hr0;obtain ⟨b, o, cur0, tag, rfl, hFb, hb0, hcp, hall⟩ := hel (by omega);have HS0 : Hd (SAt (Zb4 S) 9 70 F b o (o + cp * 9) tag w (Zel (Zdl mK cK) (Zo cK) l k 0)) := zh (by rw [Zea]; exact ⟨cur0, hb0, hcp.2, hall⟩);have HO0 := zh hcp.1;have HK1 := zh hk1;clear hel hb0 hcp hall hk1;have HFB := zh hFb;go_enter Tryz.func43, Tryz.ntmps43;go_wp2_with fail
 go_loopw [1, 5] (fun kv i wr => ∃ j : Nat, j ≤ l.length ∧ i = .int .i64 j ∧ kv = .int .i64 (k + (Zd (Zo cK) (l.take j) : Nat)) ∧ SAt (Zb4 S) 9 70 F b o (o + cp * 9) tag wr (Zel (Zdl mK cK) (Zo cK) l k j) ∧ Zc (fun y => ¬ F y) w wr ∧ Below 0 w wr) (fun _ i _ => l.length - (intOf i).toNat)
 case atStart => exact ⟨0, Nat.zero_le _, rfl, by simp [Zd], HS0.o, Zc.refl _ _, Below.refl _ _⟩
 case round =>
  obtain ⟨j, hj, rfl, rfl, hat, hkw, hk0⟩ := hrel;have HAT := zh hat;have HKW := zh hkw;have HK0W := zh hk0;have HLE := zh (Za1 (Zo cK) l j);obtain ⟨y, hy⟩ : ∃ y : Int, k + (Zd (Zo cK) (l.take j) : Nat) = y := ⟨_, rfl⟩;have hy1 : 1 ≤ y := by omega
  have hy2 : y ≤ 1099511627776 := by have := HK1.o; have := HLE.o; omega
  rw [hy];have HY := zh hy;clear hy hat hkw hk0 HLE
  by_cases hlt : j < l.length
  ·have hlt' : (j : Int) < l.length := by omega
   have HCT := zh (Zb0 (Zo cK) l j hlt);have HCL := zh (Za1 (Zo cK) l (j + 1));obtain ⟨cur, cs, hb, hs, hst⟩ := HAT.o.open_ (Zbo hS hK).is (i := j) (by rw [Z2]; exact hlt);rw [Zgb (Zdl mK cK) (Zo cK) l k j hlt] at hs;have HB := zh hb;have HST := zh (hst (by decide));obtain ⟨tg, vslots, vbodykids, rfl, aK, hparams, hslots, hbody_kind, hbody_op, hbody_number, hbody_line, hbody_text, hbody_kids⟩ := hs;have Rslots := zh hslots;have Rbody_kids := zh hbody_kids;clear aK hparams hslots hbody_kind hbody_op hbody_number hbody_line hbody_text hbody_kids;clear hst hb;have HK : Hd (Zc (fun y => y ≠ b ∧ ¬ ((F y ∧ y ≠ b) ∧ tag y = j)) wr wr) := zh (Zc.refl _ _);have HK0 : Hd (Below 0 wr wr) := zh (Below.refl _ _);have HCE := zh (show (Zo cK) l[j] = 7 + (Zd (fun _ => 1) l[j].slots + (Zd cK l[j].body.kids)) from rfl);have n0_1 : y + 1 + 1 = y + 2 := by omega
   go_wp2_with fail;clear  n0_1;refine (Za5 (y) _ (by omega) (by have := HCE.o; have := HCT.o; have := HCL.o; have := HK1.o; have := HY.o; omega)).mono ?_;rintro e w1 ⟨rfl, hb1⟩;replace HST := zh (HST.o.keep (Below.block hb1 _ HST.o.lt));replace Rslots := zh (Rslots.o.keep Zj.is (fun _ h => h) (Zc.later hb1));replace Rbody_kids := zh (Rbody_kids.o.keep hS.is (fun _ h => h) (Zc.later hb1));replace HK := zh (HK.o.trans (Zc.later hb1));replace HK0 := zh (HK0.o.trans (Below.mono hb1 (Nat.zero_le _)));clear hb1;have c0 := HST.o.cell (q := 0) rfl;have f0 := HST.o.frozen (o + j * 9);have c1 := HST.o.cell (q := 1) rfl;have f1 := HST.o.frozen (o + j * 9 + 1);have c2 := HST.o.cell (q := 2) rfl;simp only [Nat.add_zero] at c0;have n1_1 : y + 1 + 1 = y + 2 := by omega
   have n1_2 : y + 2 + 1 = y + 3 := by omega
   have n1_3 : y + 3 + 1 = y + 4 := by omega
   go_wp2_with fail;clear c0 f0 c1 f1 c2 n1_1 n1_2 n1_3;replace HST := zh ((HST.o.set 0 (by simp) (.string (Z9 (y)))).set 1 (by simp) (.int .i64 (y + 1)));simp only [List.set_cons_zero, List.set_cons_succ, Nat.add_zero] at HST;replace Rslots := zh (Rslots.o.keep Zj.is (fun _ h => h) (((Zc.refl _ w1).set (B := b) (fun h => h.1.1.2 rfl) (o + j * 9) (.string (Z9 (y)))).set (B := b) (fun h => h.1.1.2 rfl) (o + j * 9 + 1) (.int .i64 (y + 1))));replace Rbody_kids := zh (Rbody_kids.o.keep hS.is (fun _ h => h) (((Zc.refl _ w1).set (B := b) (fun h => h.1.1.2 rfl) (o + j * 9) (.string (Z9 (y)))).set (B := b) (fun h => h.1.1.2 rfl) (o + j * 9 + 1) (.int .i64 (y + 1))));replace HK := zh ((HK.o.set (B := b) (fun h => h.1 rfl) (o + j * 9) (.string (Z9 (y)))).set (B := b) (fun h => h.1 rfl) (o + j * 9 + 1) (.int .i64 (y + 1)));replace HK0 := zh ((HK0.o.setCell (p := ⟨b, o + j * 9, none⟩) (Nat.zero_le _) (.string (Z9 (y)))).setCell (p := ⟨b, o + j * 9 + 1, none⟩) (Nat.zero_le _) (.int .i64 (y + 1)));refine (Zcl l[j].slots vslots _ _ (y + 2) (by omega) (by have := HCE.o; have := HCT.o; have := HCL.o; have := HK1.o; have := HY.o; omega) Rslots.o).mono ?_;rintro e w2 ⟨rfl, hr2, hk2, hz2⟩;replace HST := zh (HST.o.keep (hk2.same b (fun h => h.1.1.2 rfl) HST.o.lt));replace Rslots := zh hr2;replace Rbody_kids := zh (Rbody_kids.o.keep hS.is (fun _ h => h) (hk2.mono fun y h h2 => absurd (h.2.symm.trans h2.2) (by decide)));replace HK := zh (HK.o.trans (hk2.mono fun y h h2 => h.2 h2.1))
   replace HK0 := zh (HK0.o.trans hz2);clear hr2 hk2 hz2;obtain ⟨y2, hy2⟩ : ∃ z : Int, y + 2 + (Zd (fun _ => 1) l[j].slots : Nat) = z := ⟨_, rfl⟩;rw [hy2];have HY2 := zh hy2;have hl2 : 1 ≤ y2 := by omega
   have hu2 : y2 ≤ 1099511627776 := by have := HCE.o; have := HCT.o; have := HCL.o; have := HK1.o; have := HY.o; omega
   clear hy2;have c3 := HST.o.cell (q := 3) rfl;have f3 := HST.o.frozen (o + j * 9 + 3);have c4 := HST.o.cell (q := 4) rfl;have f4 := HST.o.frozen (o + j * 9 + 4);have c5 := HST.o.cell (q := 5) rfl;have f5 := HST.o.frozen (o + j * 9 + 5);have c6 := HST.o.cell (q := 6) rfl;have f6 := HST.o.frozen (o + j * 9 + 6);have n2_1 : y2 + 1 + 1 = y2 + 2 := by omega
   have n2_2 : y2 + 2 + 1 = y2 + 3 := by omega
   have n2_3 : y2 + 3 + 1 = y2 + 4 := by omega
   have n2_4 : y2 + 4 + 1 = y2 + 5 := by omega
   have n2_5 : y2 + 5 + 1 = y2 + 6 := by omega
   go_wp2_with fail;clear c3 f3 c4 f4 c5 f5 c6 f6 n2_1 n2_2 n2_3 n2_4 n2_5;replace HST := zh ((((HST.o.set 3 (by simp) (.int .i64 (y2))).set 4 (by simp) (.int .i64 (y2 + 1))).set 5 (by simp) (.int .i64 (y2 + 2))).set 6 (by simp) (.int .i64 (y2 + 3)));simp only [List.set_cons_zero, List.set_cons_succ] at HST;replace Rslots := zh (Rslots.o.keep Zj.is (fun _ h => h) (((((Zc.refl _ w2).set (B := b) (fun h => h.1.1.2 rfl) (o + j * 9 + 3) (.int .i64 (y2))).set (B := b) (fun h => h.1.1.2 rfl) (o + j * 9 + 4) (.int .i64 (y2 + 1))).set (B := b) (fun h => h.1.1.2 rfl) (o + j * 9 + 5) (.int .i64 (y2 + 2))).set (B := b) (fun h => h.1.1.2 rfl) (o + j * 9 + 6) (.int .i64 (y2 + 3))));replace Rbody_kids := zh (Rbody_kids.o.keep hS.is (fun _ h => h) (((((Zc.refl _ w2).set (B := b) (fun h => h.1.1.2 rfl) (o + j * 9 + 3) (.int .i64 (y2))).set (B := b) (fun h => h.1.1.2 rfl) (o + j * 9 + 4) (.int .i64 (y2 + 1))).set (B := b) (fun h => h.1.1.2 rfl) (o + j * 9 + 5) (.int .i64 (y2 + 2))).set (B := b) (fun h => h.1.1.2 rfl) (o + j * 9 + 6) (.int .i64 (y2 + 3))));replace HK := zh ((((HK.o.set (B := b) (fun h => h.1 rfl) (o + j * 9 + 3) (.int .i64 (y2))).set (B := b) (fun h => h.1 rfl) (o + j * 9 + 4) (.int .i64 (y2 + 1))).set (B := b) (fun h => h.1 rfl) (o + j * 9 + 5) (.int .i64 (y2 + 2))).set (B := b) (fun h => h.1 rfl) (o + j * 9 + 6) (.int .i64 (y2 + 3)));replace HK0 := zh ((((HK0.o.setCell (p := ⟨b, o + j * 9 + 3, none⟩) (Nat.zero_le _) (.int .i64 (y2))).setCell (p := ⟨b, o + j * 9 + 4, none⟩) (Nat.zero_le _) (.int .i64 (y2 + 1))).setCell (p := ⟨b, o + j * 9 + 5, none⟩) (Nat.zero_le _) (.int .i64 (y2 + 2))).setCell (p := ⟨b, o + j * 9 + 6, none⟩) (Nat.zero_le _) (.int .i64 (y2 + 3)))
   refine (Za5 (y2 + 4) _ (by omega) (by have := HCE.o; have := HCT.o; have := HCL.o; have := HK1.o; have := HY.o; have := HY2.o; omega)).mono ?_;rintro e w3 ⟨rfl, hb3⟩;replace HST := zh (HST.o.keep (Below.block hb3 _ HST.o.lt));replace Rslots := zh (Rslots.o.keep Zj.is (fun _ h => h) (Zc.later hb3));replace Rbody_kids := zh (Rbody_kids.o.keep hS.is (fun _ h => h) (Zc.later hb3));replace HK := zh (HK.o.trans (Zc.later hb3));replace HK0 := zh (HK0.o.trans (Below.mono hb3 (Nat.zero_le _)));clear hb3;have c7 := HST.o.cell (q := 7) rfl;have f7 := HST.o.frozen (o + j * 9 + 7);have c8 := HST.o.cell (q := 8) rfl;have n3_1 : y2 + 1 + 1 = y2 + 2 := by omega
   have n3_2 : y2 + 2 + 1 = y2 + 3 := by omega
   have n3_3 : y2 + 3 + 1 = y2 + 4 := by omega
   have n3_4 : y2 + 4 + 1 = y2 + 5 := by omega
   have n3_5 : y2 + 5 + 1 = y2 + 6 := by omega
   have n3_6 : y2 + 6 + 1 = y2 + 7 := by omega
   go_wp2_with fail;clear c7 f7 c8 n3_1 n3_2 n3_3 n3_4 n3_5 n3_6;replace HST := zh (HST.o.set 7 (by simp) (.string (Z9 (y2 + 4))));simp only [List.set_cons_zero, List.set_cons_succ] at HST;replace Rslots := zh (Rslots.o.keep Zj.is (fun _ h => h) ((Zc.refl _ w3).set (B := b) (fun h => h.1.1.2 rfl) (o + j * 9 + 7) (.string (Z9 (y2 + 4)))));replace Rbody_kids := zh (Rbody_kids.o.keep hS.is (fun _ h => h) ((Zc.refl _ w3).set (B := b) (fun h => h.1.1.2 rfl) (o + j * 9 + 7) (.string (Z9 (y2 + 4)))));replace HK := zh (HK.o.set (B := b) (fun h => h.1 rfl) (o + j * 9 + 7) (.string (Z9 (y2 + 4))));replace HK0 := zh (HK0.o.setCell (p := ⟨b, o + j * 9 + 7, none⟩) (Nat.zero_le _) (.string (Z9 (y2 + 4))));refine (hkid l[j].body.kids vbodykids _ _ (y2 + 5) (by omega) (by have := HCE.o; have := HCT.o; have := HCL.o; have := HK1.o; have := HY.o; have := HY2.o; omega) Rbody_kids.o).mono ?_;rintro e w4 ⟨rfl, hr4, hk4, hz4⟩;replace HST := zh (HST.o.keep (hk4.same b (fun h => h.1.1.2 rfl) HST.o.lt));replace Rbody_kids := zh hr4;replace Rslots := zh (Rslots.o.keep Zj.is (fun _ h => h) (hk4.mono fun y h h2 => absurd (h.2.symm.trans h2.2) (by decide)));replace HK := zh (HK.o.trans (hk4.mono fun y h h2 => h.2 h2.1));replace HK0 := zh (HK0.o.trans hz4);clear hr4 hk4 hz4;obtain ⟨y4, hy4⟩ : ∃ z : Int, y2 + 5 + (Zd cK l[j].body.kids : Nat) = z := ⟨_, rfl⟩;rw [hy4];have HY4 := zh hy4;have hl4 : 1 ≤ y4 := by omega
   have hu4 : y4 ≤ 1099511627776 := by have := HCE.o; have := HCT.o; have := HCL.o; have := HK1.o; have := HY.o; have := HY2.o; omega
   clear hy4;go_wp2_with fail
   go_roundw
   case rel =>
    refine ⟨j + 1, by omega, by go_num, by have := HCE.o; have := HCT.o; have := HCL.o; have := HK1.o; have := HY.o; have := HY2.o; have := HY4.o; congr 1; omega, ?_, HKW.o.trans (HK.o.mono fun z h => ⟨fun e => h (by rw [e]; exact HFB.o), fun h2 => h h2.1.1⟩), HK0W.o.trans HK0.o⟩;rw [Zeb _ _ _ _ _ hlt, HY.o];exact SAt.put (Zbo hS hK).is HAT.o (i := j) (by rw [Z2]; exact hlt) HB.o HST.o (HK.o.mono fun z h => ⟨h.1.2, fun h2 => h.2 h2.2⟩) ⟨tg, _, _, by have eHY2 := HY2.o; subst eHY2; have eHY4 := HY4.o; subst eHY4; rfl, (show (Z9 (y)).size ≤ maxLen by have := HCE.o; have := HCT.o; have := HCL.o; have := HK1.o; have := HY.o; have := HY2.o; have := HY4.o; have := Zdk (k := y) (by omega); unfold maxLen; omega), (show Zy (y + 1) by have := HCE.o; have := HCT.o; have := HCL.o; have := HK1.o; have := HY.o; have := HY2.o; have := HY4.o; unfold Zy; omega), (by have eHY2 := HY2.o; subst eHY2; have eHY4 := HY4.o; subst eHY4; exact Rslots.o), (show Zy ((y + 2 + (Zd (fun _ => 1) l[j].slots : Nat))) by have := HCE.o; have := HCT.o; have := HCL.o; have := HK1.o; have := HY.o; have := HY2.o; have := HY4.o; unfold Zy; omega), (show Zy ((y + 2 + (Zd (fun _ => 1) l[j].slots : Nat)) + 1) by have := HCE.o; have := HCT.o; have := HCL.o; have := HK1.o; have := HY.o; have := HY2.o; have := HY4.o; unfold Zy; omega), (show Zy ((y + 2 + (Zd (fun _ => 1) l[j].slots : Nat)) + 2) by have := HCE.o; have := HCT.o; have := HCL.o; have := HK1.o; have := HY.o; have := HY2.o; have := HY4.o; unfold Zy; omega), (show Zy ((y + 2 + (Zd (fun _ => 1) l[j].slots : Nat)) + 3) by have := HCE.o; have := HCT.o; have := HCL.o; have := HK1.o; have := HY.o; have := HY2.o; have := HY4.o; unfold Zy; omega), (show (Z9 ((y + 2 + (Zd (fun _ => 1) l[j].slots : Nat)) + 4)).size ≤ maxLen by have := HCE.o; have := HCT.o; have := HCL.o; have := HK1.o; have := HY.o; have := HY2.o; have := HY4.o; have := Zdk (k := (y + 2 + (Zd (fun _ => 1) l[j].slots : Nat)) + 4) (by omega); unfold maxLen; omega), (by have eHY2 := HY2.o; subst eHY2; have eHY4 := HY4.o; subst eHY4; exact Rbody_kids.o)⟩
   case measure => simp [intOf]; omega
  ·have hjl : j = l.length := by omega
   go_wp2_with fail;go_ret;subst hjl;have hrow := HAT.o.row HFB.o (c := cp) (by rw [Z2]; exact hc) HCM.o ⟨HO0.o, Nat.le_refl _⟩;rw [Z2] at hrow;refine ⟨Zu ?_, hrow, HKW.o, HK0W.o⟩;have := HY.o;rw [List.take_length] at this;exact this.symm
theorem Zkv (hS : Zcp S K 6) (hK : Zbf K 6) (hkid : Zi3 S mK cK) (r : Za7) (cs : List Value) (F : Nat → Prop) (w : World) (k : Int) (hk : 1 ≤ k) (hk1 : k + ((Zbg cK) r : Nat) ≤ 1099511627776) (h : (Zfb S) F w r cs) :
  Calls Tryz.prog 11 #[.agg cs.toArray, .int .i64 k] w fun e w' => e = .returned (.int .i64 (k + ((Zbg cK) r : Nat))) ∧ (Zfb S) F w' ((Zka mK cK) r k) cs ∧ Zc (fun y => ¬ F y) w w' ∧ Below 0 w w' := by
 obtain ⟨tag, vroutines, aC, aD, rfl, hroutines, aF, aG, hmain⟩ := (Zm hS hK).trim h;clear h;have HCE := zh (show (Zbg cK) r = Zd (Zo cK) r.routines + Zd Zl r.aA + Zd (fun _ => 1) r.globals from rfl);have HK1 := zh hk1;clear hk1;have HP := zh (heap_alloc_new w (.cells #[vroutines, aC, aD, .int .i64 r.main] 37));have HK := zh (Zc.later (F := fun y => ¬ (F y ∧ y < w.heap.size)) ((Zb.refl w).alloc (.cells #[vroutines, aC, aD, .int .i64 r.main] 37)));have HK0 := zh ((Below.refl 0 w).alloc (Nat.zero_le _) (.cells #[vroutines, aC, aD, .int .i64 r.main] 37));have Rroutines := zh (hroutines.later (Zbo hS hK).is ((Zb.refl w).alloc (.cells #[vroutines, aC, aD, .int .i64 r.main] 37)));clear hroutines;have Rrecords := zh (aF.later Zh.is ((Zb.refl w).alloc (.cells #[vroutines, aC, aD, .int .i64 r.main] 37)));clear aF;have Rglobals := zh (aG.later Zj.is ((Zb.refl w).alloc (.cells #[vroutines, aC, aD, .int .i64 r.main] 37)));clear aG;have Hmain := zh hmain;clear hmain;go_enter Tryz.func11, Tryz.ntmps11;go_wp2_with fail;refine (Zjt hS hK hkid r.routines vroutines _ _ k (by omega) (by have := HCE.o; have := HK1.o; omega) Rroutines.o).mono ?_;rintro e w0 ⟨rfl, hr0, hk0, hz0⟩;replace HP := zh ((hk0.same _ (fun h => Nat.lt_irrefl _ h.1.2) (Za HP.o)).trans HP.o)
 replace Rroutines := zh hr0;replace Rrecords := zh (Rrecords.o.keep Zh.is (fun _ h => h) (hk0.mono fun y h h2 => absurd (h.2.symm.trans h2.2) (by decide)));replace Rglobals := zh (Rglobals.o.keep Zj.is (fun _ h => h) (hk0.mono fun y h h2 => absurd (h.2.symm.trans h2.2) (by decide)));replace HK := zh (HK.o.trans (hk0.mono fun y h h2 => h h2.1));replace HK0 := zh (HK0.o.trans hz0);clear hr0 hk0 hz0;obtain ⟨y0, hy0⟩ : ∃ z : Int, k + (Zd (Zo cK) r.routines : Nat) = z := ⟨_, rfl⟩;rw [hy0];have HY0 := zh hy0;have hl0 : 1 ≤ y0 := by omega
 have hu0 : y0 ≤ 1099511627776 := by have := HCE.o; have := HK1.o; omega
 clear hy0;have p1 := yq HP.o 1;simp only [nD, yE, yF] at p1;go_wp2_with fail;refine (Ze5 r.aA aC _ _ y0 (by omega) (by have := HCE.o; have := HK1.o; have := HY0.o; omega) Rrecords.o).mono ?_;rintro e w1 ⟨rfl, hr1, hk1, hz1⟩;clear p1;replace HP := zh ((hk1.same _ (fun h => Nat.lt_irrefl _ h.1.2) (Za HP.o)).trans HP.o);replace Rrecords := zh hr1;replace Rroutines := zh (Rroutines.o.keep (Zbo hS hK).is (fun _ h => h) (hk1.mono fun y h h2 => absurd (h.2.symm.trans h2.2) (by decide)));replace Rglobals := zh (Rglobals.o.keep Zj.is (fun _ h => h) (hk1.mono fun y h h2 => absurd (h.2.symm.trans h2.2) (by decide)));replace HK := zh (HK.o.trans (hk1.mono fun y h h2 => h h2.1));replace HK0 := zh (HK0.o.trans hz1);clear hr1 hk1 hz1;obtain ⟨y1, hy1⟩ : ∃ z : Int, y0 + (Zd Zl r.aA : Nat) = z := ⟨_, rfl⟩;rw [hy1];have HY1 := zh hy1;have hl1 : 1 ≤ y1 := by omega
 have hu1 : y1 ≤ 1099511627776 := by have := HCE.o; have := HK1.o; have := HY0.o; omega
 clear hy1;have p2 := yq HP.o 2;simp only [nD, yE, yF] at p2;go_wp2_with fail;refine (Zcl r.globals aD _ _ y1 (by omega) (by have := HCE.o; have := HK1.o; have := HY0.o; have := HY1.o; omega) Rglobals.o).mono ?_;rintro e w2 ⟨rfl, hr2, hk2, hz2⟩;clear p2;replace HP := zh ((hk2.same _ (fun h => Nat.lt_irrefl _ h.1.2) (Za HP.o)).trans HP.o);replace Rglobals := zh hr2;replace Rroutines := zh (Rroutines.o.keep (Zbo hS hK).is (fun _ h => h) (hk2.mono fun y h h2 => absurd (h.2.symm.trans h2.2) (by decide)));replace Rrecords := zh (Rrecords.o.keep Zh.is (fun _ h => h) (hk2.mono fun y h h2 => absurd (h.2.symm.trans h2.2) (by decide)));replace HK := zh (HK.o.trans (hk2.mono fun y h h2 => h h2.1));replace HK0 := zh (HK0.o.trans hz2);clear hr2 hk2 hz2;obtain ⟨y2, hy2⟩ : ∃ z : Int, y1 + (Zd (fun _ => 1) r.globals : Nat) = z := ⟨_, rfl⟩;rw [hy2];have HY2 := zh hy2;have hl2 : 1 ≤ y2 := by omega
 have hu2 : y2 ≤ 1099511627776 := by have := HCE.o; have := HK1.o; have := HY0.o; have := HY1.o; omega
 clear hy2;go_wp2_with fail;go_ret;refine ⟨Zu (by have := HCE.o; have := HK1.o; have := HY0.o; have := HY1.o; have := HY2.o; omega), ?_, HK.o.mono fun y h h2 => h h2.1, HK0.o⟩
 ·have eHY0 := HY0.o; subst eHY0;have eHY1 := HY1.o; subst eHY1;exact ⟨tag, _, _, _, rfl, Rroutines.o.keep (Zbo hS hK).is (fun b hb => ⟨hb.1.1, hb.2⟩) (Zc.refl _ _), Rrecords.o.keep Zh.is (fun b hb => ⟨hb.1.1, hb.2⟩) (Zc.refl _ _), Rglobals.o.keep Zj.is (fun b hb => ⟨hb.1.1, hb.2⟩) (Zc.refl _ _), Hmain.o⟩
end
end
section
section
variable {S K : Zaj Ze} {mK : Ze → Int → Ze} {cK sK : Ze → Nat}
def Zhf (S : Zaj Ze) (mK : Ze → Int → Ze) (cK : Ze → Nat) : Prop := ∀ (l : List Ze) (v : Value) (F : Nat → Prop) (w : World) (k : Int) (hk : 1 ≤ k) (hk1 : k + (Zd cK l : Nat) ≤ 1099511627776) (hr : Zz S 5 104 F w l v),
 Calls Tryz.prog 117 #[v, .int .i64 k] w fun e w' => e = .returned (.int .i64 (k + (Zd cK l : Nat))) ∧ Zz S 5 104 F w' (Zbs mK cK l k) v ∧ Zc (fun y => ¬ F y) w w' ∧ Below 0 w w'
theorem Zl0 (hS : Zcp S K 5) (hK : Zbf K 5) (hkid : Zhf S mK cK) : Zhf (Zgd S) (Zi2 mK cK) (Zc7 cK) := by
 intro l v F w k hk hk1 hr;have hr0 := hr;obtain ⟨A, cp, rfl, hc, hcm, hel⟩ := hr;have HCM := zh hcm;unfold maxLen at hcm
 by_cases h0 : l.length = 0
 ·obtain rfl : l = [] := List.eq_nil_of_length_eq_zero h0;have HR := zh hr0;clear hel hr0;go_enter Tryz.func117, Tryz.ntmps117;go_wp2_with fail;refine wp_loop_rounds 1 ?_;rw [rounds_succ];go_wp2_with fail;go_ret;exact ⟨by simp [Zd], HR.o, Zc.refl _ _, Below.refl _ _⟩
 clear hr0;obtain ⟨b, o, cur0, tag, rfl, hFb, hb0, hcp, hall⟩ := hel (by omega);have HS0 : Hd (SAt (Zgd S) 5 104 F b o (o + cp * 5) tag w (Zel (Zi2 mK cK) (Zc7 cK) l k 0)) := zh (by rw [Zea]; exact ⟨cur0, hb0, hcp.2, hall⟩);have HO0 := zh hcp.1;have HK1 := zh hk1;clear hel hb0 hcp hall hk1;have HFB := zh hFb;go_enter Tryz.func117, Tryz.ntmps117;go_wp2_with fail
 go_loopw [1, 5] (fun kv i wr => ∃ j : Nat, j ≤ l.length ∧ i = .int .i64 j ∧ kv = .int .i64 (k + (Zd (Zc7 cK) (l.take j) : Nat)) ∧ SAt (Zgd S) 5 104 F b o (o + cp * 5) tag wr (Zel (Zi2 mK cK) (Zc7 cK) l k j) ∧ Zc (fun y => ¬ F y) w wr ∧ Below 0 w wr) (fun _ i _ => l.length - (intOf i).toNat)
 case atStart => exact ⟨0, Nat.zero_le _, rfl, by simp [Zd], HS0.o, Zc.refl _ _, Below.refl _ _⟩
 case round =>
  obtain ⟨j, hj, rfl, rfl, hat, hkw, hk0⟩ := hrel;have HAT := zh hat;have HKW := zh hkw;have HK0W := zh hk0;have HLE := zh (Za1 (Zc7 cK) l j);obtain ⟨y, hy⟩ : ∃ y : Int, k + (Zd (Zc7 cK) (l.take j) : Nat) = y := ⟨_, rfl⟩;have hy1 : 1 ≤ y := by omega
  have hy2 : y ≤ 1099511627776 := by have := HK1.o; have := HLE.o; omega
  rw [hy];have HY := zh hy;clear hy hat hkw hk0 HLE
  by_cases hlt : j < l.length
  ·have hlt' : (j : Int) < l.length := by omega
   have HCT := zh (Zb0 (Zc7 cK) l j hlt);have HCL := zh (Za1 (Zc7 cK) l (j + 1));obtain ⟨cur, cs, hb, hs, hst⟩ := HAT.o.open_ (Zfc hS hK).is (i := j) (by rw [Z2]; exact hlt);rw [Zgb (Zi2 mK cK) (Zc7 cK) l k j hlt] at hs;have HB := zh hb;have HST := zh (hst (by decide));obtain ⟨tg, vkids, rfl, aH, aJ, aI, aM, hkids⟩ := hs;have Rkids := zh hkids;clear aH aJ aI aM hkids;clear hst hb;have HK : Hd (Zc (fun y => y ≠ b ∧ ¬ ((F y ∧ y ≠ b) ∧ tag y = j)) wr wr) := zh (Zc.refl _ _);have HK0 : Hd (Below 0 wr wr) := zh (Below.refl _ _);have HCE := zh (show (Zc7 cK) l[j] = 4 + (Zd cK l[j].kids) from rfl);have c0 := HST.o.cell (q := 0) rfl;have f0 := HST.o.frozen (o + j * 5);simp only [Nat.add_zero] at c0;have n0_1 : y + 1 + 1 = y + 2 := by omega
   have n0_2 : y + 2 + 1 = y + 3 := by omega
   go_wp2_with fail;clear c0 f0 n0_1 n0_2;replace HST := zh (HST.o.set 0 (by simp) (.int .i64 (y)));simp only [List.set_cons_zero, List.set_cons_succ, Nat.add_zero] at HST;replace Rkids := zh (Rkids.o.keep hS.is (fun _ h => h) ((Zc.refl _ wr).set (B := b) (fun h => h.1.1.2 rfl) (o + j * 5) (.int .i64 (y))));replace HK := zh (HK.o.set (B := b) (fun h => h.1 rfl) (o + j * 5) (.int .i64 (y)));replace HK0 := zh (HK0.o.setCell (p := ⟨b, o + j * 5, none⟩) (Nat.zero_le _) (.int .i64 (y)));refine (Za5 (y + 1) _ (by omega) (by have := HCE.o; have := HCT.o; have := HCL.o; have := HK1.o; have := HY.o; omega)).mono ?_;rintro e w1 ⟨rfl, hb1⟩;replace HST := zh (HST.o.keep (Below.block hb1 _ HST.o.lt));replace Rkids := zh (Rkids.o.keep hS.is (fun _ h => h) (Zc.later hb1));replace HK := zh (HK.o.trans (Zc.later hb1));replace HK0 := zh (HK0.o.trans (Below.mono hb1 (Nat.zero_le _)));clear hb1;have c1 := HST.o.cell (q := 1) rfl;have f1 := HST.o.frozen (o + j * 5 + 1);have c2 := HST.o.cell (q := 2) rfl;have f2 := HST.o.frozen (o + j * 5 + 2);have c3 := HST.o.cell (q := 3) rfl;have f3 := HST.o.frozen (o + j * 5 + 3);have c4 := HST.o.cell (q := 4) rfl;have n1_1 : y + 1 + 1 = y + 2 := by omega
   have n1_2 : y + 2 + 1 = y + 3 := by omega
   have n1_3 : y + 3 + 1 = y + 4 := by omega
   have n1_4 : y + 4 + 1 = y + 5 := by omega
   have n1_5 : y + 5 + 1 = y + 6 := by omega
   go_wp2_with fail;clear c1 f1 c2 f2 c3 f3 c4 n1_1 n1_2 n1_3 n1_4 n1_5;replace HST := zh (((HST.o.set 1 (by simp) (.string (Z9 (y + 1)))).set 2 (by simp) (.int .i64 (y + 2))).set 3 (by simp) (.int .i64 (y + 3)));simp only [List.set_cons_zero, List.set_cons_succ] at HST;replace Rkids := zh (Rkids.o.keep hS.is (fun _ h => h) ((((Zc.refl _ w1).set (B := b) (fun h => h.1.1.2 rfl) (o + j * 5 + 1) (.string (Z9 (y + 1)))).set (B := b) (fun h => h.1.1.2 rfl) (o + j * 5 + 2) (.int .i64 (y + 2))).set (B := b) (fun h => h.1.1.2 rfl) (o + j * 5 + 3) (.int .i64 (y + 3))));replace HK := zh (((HK.o.set (B := b) (fun h => h.1 rfl) (o + j * 5 + 1) (.string (Z9 (y + 1)))).set (B := b) (fun h => h.1 rfl) (o + j * 5 + 2) (.int .i64 (y + 2))).set (B := b) (fun h => h.1 rfl) (o + j * 5 + 3) (.int .i64 (y + 3)));replace HK0 := zh (((HK0.o.setCell (p := ⟨b, o + j * 5 + 1, none⟩) (Nat.zero_le _) (.string (Z9 (y + 1)))).setCell (p := ⟨b, o + j * 5 + 2, none⟩) (Nat.zero_le _) (.int .i64 (y + 2))).setCell (p := ⟨b, o + j * 5 + 3, none⟩) (Nat.zero_le _) (.int .i64 (y + 3)));refine (hkid l[j].kids vkids _ _ (y + 4) (by omega) (by have := HCE.o; have := HCT.o; have := HCL.o; have := HK1.o; have := HY.o; omega) Rkids.o).mono ?_;rintro e w2 ⟨rfl, hr2, hk2, hz2⟩;replace HST := zh (HST.o.keep (hk2.same b (fun h => h.1.1.2 rfl) HST.o.lt));replace Rkids := zh hr2;replace HK := zh (HK.o.trans (hk2.mono fun y h h2 => h.2 h2.1));replace HK0 := zh (HK0.o.trans hz2);clear hr2 hk2 hz2;obtain ⟨y2, hy2⟩ : ∃ z : Int, y + 4 + (Zd cK l[j].kids : Nat) = z := ⟨_, rfl⟩
   rw [hy2];have HY2 := zh hy2;have hl2 : 1 ≤ y2 := by omega
   have hu2 : y2 ≤ 1099511627776 := by have := HCE.o; have := HCT.o; have := HCL.o; have := HK1.o; have := HY.o; omega
   clear hy2;go_wp2_with fail
   go_roundw
   case rel =>
    refine ⟨j + 1, by omega, by go_num, by have := HCE.o; have := HCT.o; have := HCL.o; have := HK1.o; have := HY.o; have := HY2.o; congr 1; omega, ?_, HKW.o.trans (HK.o.mono fun z h => ⟨fun e => h (by rw [e]; exact HFB.o), fun h2 => h h2.1.1⟩), HK0W.o.trans HK0.o⟩;rw [Zeb _ _ _ _ _ hlt, HY.o];exact SAt.put (Zfc hS hK).is HAT.o (i := j) (by rw [Z2]; exact hlt) HB.o HST.o (HK.o.mono fun z h => ⟨h.1.2, fun h2 => h.2 h2.2⟩) ⟨tg, _, by have eHY2 := HY2.o; subst eHY2; rfl, (show Zy (y) by have := HCE.o; have := HCT.o; have := HCL.o; have := HK1.o; have := HY.o; have := HY2.o; unfold Zy; omega), (show (Z9 (y + 1)).size ≤ maxLen by have := HCE.o; have := HCT.o; have := HCL.o; have := HK1.o; have := HY.o; have := HY2.o; have := Zdk (k := y + 1) (by omega); unfold maxLen; omega), (show Zy (y + 2) by have := HCE.o; have := HCT.o; have := HCL.o; have := HK1.o; have := HY.o; have := HY2.o; unfold Zy; omega), (show Zy (y + 3) by have := HCE.o; have := HCT.o; have := HCL.o; have := HK1.o; have := HY.o; have := HY2.o; unfold Zy; omega), (by have eHY2 := HY2.o; subst eHY2; exact Rkids.o)⟩
   case measure => simp [intOf]; omega
  ·have hjl : j = l.length := by omega
   go_wp2_with fail;go_ret;subst hjl;have hrow := HAT.o.row HFB.o (c := cp) (by rw [Z2]; exact hc) HCM.o ⟨HO0.o, Nat.le_refl _⟩;rw [Z2] at hrow;refine ⟨Zu ?_, hrow, HKW.o, HK0W.o⟩;have := HY.o;rw [List.take_length] at this;exact this.symm
theorem Zhz : ∀ n, Zhf (Zn3 n) (Zzb n) (Zhe n)
 | 0 => by
  intro l v F w k hk hk1 hr;have hr0 := hr;obtain ⟨A, cp, rfl, hc, hcm, hel⟩ := hr;unfold maxLen at hcm;have h0 : l.length = 0 := by
   rcases Nat.eq_zero_or_pos l.length with h | h
   ·exact h
   ·obtain ⟨b, o, cur0, tag, rfl, hFb, hb0, hcp, hall⟩ := hel (by omega);obtain ⟨cs, hs, _⟩ := hall 0 h;exact hs.elim
  obtain rfl : l = [] := List.eq_nil_of_length_eq_zero h0;have HR := zh hr0;clear hel hr0 h0;go_enter Tryz.func117, Tryz.ntmps117;go_wp2_with fail;refine wp_loop_rounds 1 ?_;rw [rounds_succ];go_wp2_with fail;go_ret;exact ⟨by simp [Zd], HR.o, Zc.refl _ _, Below.refl _ _⟩
 | n + 1 => Zl0 (Zbj n) (Zab n) (Zhz n)
theorem Zia (hS : Zcp S K 5) (hK : Zbf K 5) (hkid : Zhf S mK cK) (l : List Zag) (v : Value) (F : Nat → Prop) (w : World) (k : Int) (hk : 1 ≤ k) (hk1 : k + (Zd (Zaf cK) l : Nat) ≤ 1099511627776) (hr : Zz (Zcb S) 9 106 F w l v) :
  Calls Tryz.prog 61 #[v, .int .i64 k] w fun e w' => e = .returned (.int .i64 (k + (Zd (Zaf cK) l : Nat))) ∧ Zz (Zcb S) 9 106 F w' (Zbs (Zd4 mK cK) (Zaf cK) l k) v ∧ Zc (fun y => ¬ F y) w w' ∧ Below 0 w w' := by
 have hr0 := hr;obtain ⟨A, cp, rfl, hc, hcm, hel⟩ := hr;have HCM := zh hcm;unfold maxLen at hcm
 by_cases h0 : l.length = 0
 ·obtain rfl : l = [] := List.eq_nil_of_length_eq_zero h0;have HR := zh hr0;clear hel hr0;go_enter Tryz.func61, Tryz.ntmps61;go_wp2_with fail;refine wp_loop_rounds 1 ?_;rw [rounds_succ];go_wp2_with fail;go_ret;exact ⟨by simp [Zd], HR.o, Zc.refl _ _, Below.refl _ _⟩
 clear hr0;obtain ⟨b, o, cur0, tag, rfl, hFb, hb0, hcp, hall⟩ := hel (by omega);have HS0 : Hd (SAt (Zcb S) 9 106 F b o (o + cp * 9) tag w (Zel (Zd4 mK cK) (Zaf cK) l k 0)) := zh (by rw [Zea]; exact ⟨cur0, hb0, hcp.2, hall⟩);have HO0 := zh hcp.1;have HK1 := zh hk1;clear hel hb0 hcp hall hk1;have HFB := zh hFb;go_enter Tryz.func61, Tryz.ntmps61;go_wp2_with fail
 go_loopw [1, 5] (fun kv i wr => ∃ j : Nat, j ≤ l.length ∧ i = .int .i64 j ∧ kv = .int .i64 (k + (Zd (Zaf cK) (l.take j) : Nat)) ∧ SAt (Zcb S) 9 106 F b o (o + cp * 9) tag wr (Zel (Zd4 mK cK) (Zaf cK) l k j) ∧ Zc (fun y => ¬ F y) w wr ∧ Below 0 w wr) (fun _ i _ => l.length - (intOf i).toNat)
 case atStart => exact ⟨0, Nat.zero_le _, rfl, by simp [Zd], HS0.o, Zc.refl _ _, Below.refl _ _⟩
 case round =>
  obtain ⟨j, hj, rfl, rfl, hat, hkw, hk0⟩ := hrel;have HAT := zh hat;have HKW := zh hkw;have HK0W := zh hk0;have HLE := zh (Za1 (Zaf cK) l j);obtain ⟨y, hy⟩ : ∃ y : Int, k + (Zd (Zaf cK) (l.take j) : Nat) = y := ⟨_, rfl⟩;have hy1 : 1 ≤ y := by omega
  have hy2 : y ≤ 1099511627776 := by have := HK1.o; have := HLE.o; omega
  rw [hy];have HY := zh hy;clear hy hat hkw hk0 HLE
  by_cases hlt : j < l.length
  ·have hlt' : (j : Int) < l.length := by omega
   have HCT := zh (Zb0 (Zaf cK) l j hlt);have HCL := zh (Za1 (Zaf cK) l (j + 1));obtain ⟨cur, cs, hb, hs, hst⟩ := HAT.o.open_ (Zae hS hK).is (i := j) (by rw [Z2]; exact hlt);rw [Zgb (Zd4 mK cK) (Zaf cK) l k j hlt] at hs;have HB := zh hb;have HST := zh (hst (by decide));obtain ⟨tg, vparams, vlocals, vbodykids, rfl, aK, hparams, hlocals, hbody_kind, hbody_text, hbody_number, hbody_line, hbody_kids, aM⟩ := hs;have Rparams := zh hparams;have Rlocals := zh hlocals;have Rbody_kids := zh hbody_kids;clear aK hparams hlocals hbody_kind hbody_text hbody_number hbody_line hbody_kids aM;clear hst hb;have HK : Hd (Zc (fun y => y ≠ b ∧ ¬ ((F y ∧ y ≠ b) ∧ tag y = j)) wr wr) := zh (Zc.refl _ _);have HK0 : Hd (Below 0 wr wr) := zh (Below.refl _ _);have HCE := zh (show (Zaf cK) l[j] = 6 + (Zd (fun _ => 1) l[j].params + (Zd (fun _ => 1) l[j].locals + (Zd cK l[j].body.kids))) from rfl);have n0_1 : y + 1 + 1 = y + 2 := by omega
   go_wp2_with fail;clear  n0_1;refine (Za5 (y) _ (by omega) (by have := HCE.o; have := HCT.o; have := HCL.o; have := HK1.o; have := HY.o; omega)).mono ?_;rintro e w1 ⟨rfl, hb1⟩;replace HST := zh (HST.o.keep (Below.block hb1 _ HST.o.lt));replace Rparams := zh (Rparams.o.keep Zj.is (fun _ h => h) (Zc.later hb1));replace Rlocals := zh (Rlocals.o.keep Zj.is (fun _ h => h) (Zc.later hb1));replace Rbody_kids := zh (Rbody_kids.o.keep hS.is (fun _ h => h) (Zc.later hb1));replace HK := zh (HK.o.trans (Zc.later hb1));replace HK0 := zh (HK0.o.trans (Below.mono hb1 (Nat.zero_le _)));clear hb1;have c0 := HST.o.cell (q := 0) rfl;have f0 := HST.o.frozen (o + j * 9);have c1 := HST.o.cell (q := 1) rfl;simp only [Nat.add_zero] at c0;have n1_1 : y + 1 + 1 = y + 2 := by omega
   have n1_2 : y + 2 + 1 = y + 3 := by omega
   go_wp2_with fail;clear c0 f0 c1 n1_1 n1_2;replace HST := zh (HST.o.set 0 (by simp) (.string (Z9 (y))));simp only [List.set_cons_zero, List.set_cons_succ, Nat.add_zero] at HST;replace Rparams := zh (Rparams.o.keep Zj.is (fun _ h => h) ((Zc.refl _ w1).set (B := b) (fun h => h.1.1.2 rfl) (o + j * 9) (.string (Z9 (y)))));replace Rlocals := zh (Rlocals.o.keep Zj.is (fun _ h => h) ((Zc.refl _ w1).set (B := b) (fun h => h.1.1.2 rfl) (o + j * 9) (.string (Z9 (y)))));replace Rbody_kids := zh (Rbody_kids.o.keep hS.is (fun _ h => h) ((Zc.refl _ w1).set (B := b) (fun h => h.1.1.2 rfl) (o + j * 9) (.string (Z9 (y)))));replace HK := zh (HK.o.set (B := b) (fun h => h.1 rfl) (o + j * 9) (.string (Z9 (y))));replace HK0 := zh (HK0.o.setCell (p := ⟨b, o + j * 9, none⟩) (Nat.zero_le _) (.string (Z9 (y))));refine (Zcl l[j].params vparams _ _ (y + 1) (by omega) (by have := HCE.o; have := HCT.o; have := HCL.o; have := HK1.o; have := HY.o; omega) Rparams.o).mono ?_;rintro e w2 ⟨rfl, hr2, hk2, hz2⟩;replace HST := zh (HST.o.keep (hk2.same b (fun h => h.1.1.2 rfl) HST.o.lt));replace Rparams := zh hr2;replace Rlocals := zh (Rlocals.o.keep Zj.is (fun _ h => h) (hk2.mono fun y h h2 => absurd (h.2.symm.trans h2.2) (by decide)));replace Rbody_kids := zh (Rbody_kids.o.keep hS.is (fun _ h => h) (hk2.mono fun y h h2 => absurd (h.2.symm.trans h2.2) (by decide)));replace HK := zh (HK.o.trans (hk2.mono fun y h h2 => h.2 h2.1));replace HK0 := zh (HK0.o.trans hz2)
   clear hr2 hk2 hz2;obtain ⟨y2, hy2⟩ : ∃ z : Int, y + 1 + (Zd (fun _ => 1) l[j].params : Nat) = z := ⟨_, rfl⟩;rw [hy2];have HY2 := zh hy2;have hl2 : 1 ≤ y2 := by omega
   have hu2 : y2 ≤ 1099511627776 := by have := HCE.o; have := HCT.o; have := HCL.o; have := HK1.o; have := HY.o; omega
   clear hy2;have c2 := HST.o.cell (q := 2) rfl;have n2_1 : y2 + 1 + 1 = y2 + 2 := by omega
   go_wp2_with fail;clear c2 n2_1;refine (Zcl l[j].locals vlocals _ _ (y2) (by omega) (by have := HCE.o; have := HCT.o; have := HCL.o; have := HK1.o; have := HY.o; have := HY2.o; omega) Rlocals.o).mono ?_;rintro e w3 ⟨rfl, hr3, hk3, hz3⟩;replace HST := zh (HST.o.keep (hk3.same b (fun h => h.1.1.2 rfl) HST.o.lt));replace Rlocals := zh hr3;replace Rparams := zh (Rparams.o.keep Zj.is (fun _ h => h) (hk3.mono fun y h h2 => absurd (h.2.symm.trans h2.2) (by decide)));replace Rbody_kids := zh (Rbody_kids.o.keep hS.is (fun _ h => h) (hk3.mono fun y h h2 => absurd (h.2.symm.trans h2.2) (by decide)));replace HK := zh (HK.o.trans (hk3.mono fun y h h2 => h.2 h2.1));replace HK0 := zh (HK0.o.trans hz3);clear hr3 hk3 hz3;obtain ⟨y3, hy3⟩ : ∃ z : Int, y2 + (Zd (fun _ => 1) l[j].locals : Nat) = z := ⟨_, rfl⟩;rw [hy3];have HY3 := zh hy3;have hl3 : 1 ≤ y3 := by omega
   have hu3 : y3 ≤ 1099511627776 := by have := HCE.o; have := HCT.o; have := HCL.o; have := HK1.o; have := HY.o; have := HY2.o; omega
   clear hy3;have c3 := HST.o.cell (q := 3) rfl;have f3 := HST.o.frozen (o + j * 9 + 3);have n3_1 : y3 + 1 + 1 = y3 + 2 := by omega
   have n3_2 : y3 + 2 + 1 = y3 + 3 := by omega
   go_wp2_with fail;clear c3 f3 n3_1 n3_2;replace HST := zh (HST.o.set 3 (by simp) (.int .i64 (y3)));simp only [List.set_cons_zero, List.set_cons_succ] at HST;replace Rparams := zh (Rparams.o.keep Zj.is (fun _ h => h) ((Zc.refl _ w3).set (B := b) (fun h => h.1.1.2 rfl) (o + j * 9 + 3) (.int .i64 (y3))));replace Rlocals := zh (Rlocals.o.keep Zj.is (fun _ h => h) ((Zc.refl _ w3).set (B := b) (fun h => h.1.1.2 rfl) (o + j * 9 + 3) (.int .i64 (y3))));replace Rbody_kids := zh (Rbody_kids.o.keep hS.is (fun _ h => h) ((Zc.refl _ w3).set (B := b) (fun h => h.1.1.2 rfl) (o + j * 9 + 3) (.int .i64 (y3))));replace HK := zh (HK.o.set (B := b) (fun h => h.1 rfl) (o + j * 9 + 3) (.int .i64 (y3)));replace HK0 := zh (HK0.o.setCell (p := ⟨b, o + j * 9 + 3, none⟩) (Nat.zero_le _) (.int .i64 (y3)));refine (Za5 (y3 + 1) _ (by omega) (by have := HCE.o; have := HCT.o; have := HCL.o; have := HK1.o; have := HY.o; have := HY2.o; have := HY3.o; omega)).mono ?_;rintro e w4 ⟨rfl, hb4⟩;replace HST := zh (HST.o.keep (Below.block hb4 _ HST.o.lt));replace Rparams := zh (Rparams.o.keep Zj.is (fun _ h => h) (Zc.later hb4));replace Rlocals := zh (Rlocals.o.keep Zj.is (fun _ h => h) (Zc.later hb4));replace Rbody_kids := zh (Rbody_kids.o.keep hS.is (fun _ h => h) (Zc.later hb4));replace HK := zh (HK.o.trans (Zc.later hb4));replace HK0 := zh (HK0.o.trans (Below.mono hb4 (Nat.zero_le _)));clear hb4;have c4 := HST.o.cell (q := 4) rfl;have f4 := HST.o.frozen (o + j * 9 + 4)
   have c5 := HST.o.cell (q := 5) rfl;have f5 := HST.o.frozen (o + j * 9 + 5);have c6 := HST.o.cell (q := 6) rfl;have f6 := HST.o.frozen (o + j * 9 + 6);have c7 := HST.o.cell (q := 7) rfl;have n4_1 : y3 + 1 + 1 = y3 + 2 := by omega
   have n4_2 : y3 + 2 + 1 = y3 + 3 := by omega
   have n4_3 : y3 + 3 + 1 = y3 + 4 := by omega
   have n4_4 : y3 + 4 + 1 = y3 + 5 := by omega
   have n4_5 : y3 + 5 + 1 = y3 + 6 := by omega
   go_wp2_with fail;clear c4 f4 c5 f5 c6 f6 c7 n4_1 n4_2 n4_3 n4_4 n4_5;replace HST := zh (((HST.o.set 4 (by simp) (.string (Z9 (y3 + 1)))).set 5 (by simp) (.int .i64 (y3 + 2))).set 6 (by simp) (.int .i64 (y3 + 3)));simp only [List.set_cons_zero, List.set_cons_succ] at HST;replace Rparams := zh (Rparams.o.keep Zj.is (fun _ h => h) ((((Zc.refl _ w4).set (B := b) (fun h => h.1.1.2 rfl) (o + j * 9 + 4) (.string (Z9 (y3 + 1)))).set (B := b) (fun h => h.1.1.2 rfl) (o + j * 9 + 5) (.int .i64 (y3 + 2))).set (B := b) (fun h => h.1.1.2 rfl) (o + j * 9 + 6) (.int .i64 (y3 + 3))));replace Rlocals := zh (Rlocals.o.keep Zj.is (fun _ h => h) ((((Zc.refl _ w4).set (B := b) (fun h => h.1.1.2 rfl) (o + j * 9 + 4) (.string (Z9 (y3 + 1)))).set (B := b) (fun h => h.1.1.2 rfl) (o + j * 9 + 5) (.int .i64 (y3 + 2))).set (B := b) (fun h => h.1.1.2 rfl) (o + j * 9 + 6) (.int .i64 (y3 + 3))));replace Rbody_kids := zh (Rbody_kids.o.keep hS.is (fun _ h => h) ((((Zc.refl _ w4).set (B := b) (fun h => h.1.1.2 rfl) (o + j * 9 + 4) (.string (Z9 (y3 + 1)))).set (B := b) (fun h => h.1.1.2 rfl) (o + j * 9 + 5) (.int .i64 (y3 + 2))).set (B := b) (fun h => h.1.1.2 rfl) (o + j * 9 + 6) (.int .i64 (y3 + 3))));replace HK := zh (((HK.o.set (B := b) (fun h => h.1 rfl) (o + j * 9 + 4) (.string (Z9 (y3 + 1)))).set (B := b) (fun h => h.1 rfl) (o + j * 9 + 5) (.int .i64 (y3 + 2))).set (B := b) (fun h => h.1 rfl) (o + j * 9 + 6) (.int .i64 (y3 + 3)));replace HK0 := zh (((HK0.o.setCell (p := ⟨b, o + j * 9 + 4, none⟩) (Nat.zero_le _) (.string (Z9 (y3 + 1)))).setCell (p := ⟨b, o + j * 9 + 5, none⟩) (Nat.zero_le _) (.int .i64 (y3 + 2))).setCell (p := ⟨b, o + j * 9 + 6, none⟩) (Nat.zero_le _) (.int .i64 (y3 + 3)))
   refine (hkid l[j].body.kids vbodykids _ _ (y3 + 4) (by omega) (by have := HCE.o; have := HCT.o; have := HCL.o; have := HK1.o; have := HY.o; have := HY2.o; have := HY3.o; omega) Rbody_kids.o).mono ?_;rintro e w5 ⟨rfl, hr5, hk5, hz5⟩;replace HST := zh (HST.o.keep (hk5.same b (fun h => h.1.1.2 rfl) HST.o.lt));replace Rbody_kids := zh hr5;replace Rparams := zh (Rparams.o.keep Zj.is (fun _ h => h) (hk5.mono fun y h h2 => absurd (h.2.symm.trans h2.2) (by decide)));replace Rlocals := zh (Rlocals.o.keep Zj.is (fun _ h => h) (hk5.mono fun y h h2 => absurd (h.2.symm.trans h2.2) (by decide)));replace HK := zh (HK.o.trans (hk5.mono fun y h h2 => h.2 h2.1));replace HK0 := zh (HK0.o.trans hz5);clear hr5 hk5 hz5;obtain ⟨y5, hy5⟩ : ∃ z : Int, y3 + 4 + (Zd cK l[j].body.kids : Nat) = z := ⟨_, rfl⟩;rw [hy5];have HY5 := zh hy5;have hl5 : 1 ≤ y5 := by omega
   have hu5 : y5 ≤ 1099511627776 := by have := HCE.o; have := HCT.o; have := HCL.o; have := HK1.o; have := HY.o; have := HY2.o; have := HY3.o; omega
   clear hy5;have c8 := HST.o.cell (q := 8) rfl;have f8 := HST.o.frozen (o + j * 9 + 8);have n5_1 : y5 + 1 + 1 = y5 + 2 := by omega
   have n5_2 : y5 + 2 + 1 = y5 + 3 := by omega
   replace HST := zh (HST.o.set 8 (by simp) (.int .i64 (y5)));simp only [List.set_cons_zero, List.set_cons_succ] at HST;replace Rparams := zh (Rparams.o.keep Zj.is (fun _ h => h) ((Zc.refl _ w5).set (B := b) (fun h => h.1.1.2 rfl) (o + j * 9 + 8) (.int .i64 (y5))));replace Rlocals := zh (Rlocals.o.keep Zj.is (fun _ h => h) ((Zc.refl _ w5).set (B := b) (fun h => h.1.1.2 rfl) (o + j * 9 + 8) (.int .i64 (y5))));replace Rbody_kids := zh (Rbody_kids.o.keep hS.is (fun _ h => h) ((Zc.refl _ w5).set (B := b) (fun h => h.1.1.2 rfl) (o + j * 9 + 8) (.int .i64 (y5))));replace HK := zh (HK.o.set (B := b) (fun h => h.1 rfl) (o + j * 9 + 8) (.int .i64 (y5)));replace HK0 := zh (HK0.o.setCell (p := ⟨b, o + j * 9 + 8, none⟩) (Nat.zero_le _) (.int .i64 (y5)));go_wp2_with fail
   go_roundw
   case rel =>
    refine ⟨j + 1, by omega, by go_num, by have := HCE.o; have := HCT.o; have := HCL.o; have := HK1.o; have := HY.o; have := HY2.o; have := HY3.o; have := HY5.o; congr 1; omega, ?_, HKW.o.trans (HK.o.mono fun z h => ⟨fun e => h (by rw [e]; exact HFB.o), fun h2 => h h2.1.1⟩), HK0W.o.trans HK0.o⟩;rw [Zeb _ _ _ _ _ hlt, HY.o];exact SAt.put (Zae hS hK).is HAT.o (i := j) (by rw [Z2]; exact hlt) HB.o HST.o (HK.o.mono fun z h => ⟨h.1.2, fun h2 => h.2 h2.2⟩) ⟨tg, _, _, _, by have eHY2 := HY2.o; subst eHY2; have eHY3 := HY3.o; subst eHY3; have eHY5 := HY5.o; subst eHY5; rfl, (show (Z9 (y)).size ≤ maxLen by have := HCE.o; have := HCT.o; have := HCL.o; have := HK1.o; have := HY.o; have := HY2.o; have := HY3.o; have := HY5.o; have := Zdk (k := y) (by omega); unfold maxLen; omega), (by have eHY2 := HY2.o; subst eHY2; have eHY3 := HY3.o; subst eHY3; have eHY5 := HY5.o; subst eHY5; exact Rparams.o), (by have eHY2 := HY2.o; subst eHY2; have eHY3 := HY3.o; subst eHY3; have eHY5 := HY5.o; subst eHY5; exact Rlocals.o), (show Zy (((y + 1 + (Zd (fun _ => 1) l[j].params : Nat)) + (Zd (fun _ => 1) l[j].locals : Nat))) by have := HCE.o; have := HCT.o; have := HCL.o; have := HK1.o; have := HY.o; have := HY2.o; have := HY3.o; have := HY5.o; unfold Zy; omega), (show (Z9 (((y + 1 + (Zd (fun _ => 1) l[j].params : Nat)) + (Zd (fun _ => 1) l[j].locals : Nat)) + 1)).size ≤ maxLen by have := HCE.o; have := HCT.o; have := HCL.o; have := HK1.o; have := HY.o; have := HY2.o; have := HY3.o; have := HY5.o; have := Zdk (k := ((y + 1 + (Zd (fun _ => 1) l[j].params : Nat)) + (Zd (fun _ => 1) l[j].locals : Nat)) + 1) (by omega); unfold maxLen; omega), (show Zy (((y + 1 + (Zd (fun _ => 1) l[j].params : Nat)) + (Zd (fun _ => 1) l[j].locals : Nat)) + 2) by have := HCE.o; have := HCT.o; have := HCL.o; have := HK1.o; have := HY.o; have := HY2.o; have := HY3.o; have := HY5.o; unfold Zy; omega), (show Zy (((y + 1 + (Zd (fun _ => 1) l[j].params : Nat)) + (Zd (fun _ => 1) l[j].locals : Nat)) + 3) by have := HCE.o; have := HCT.o; have := HCL.o; have := HK1.o; have := HY.o; have := HY2.o; have := HY3.o; have := HY5.o; unfold Zy; omega), (by have eHY2 := HY2.o; subst eHY2; have eHY3 := HY3.o; subst eHY3; have eHY5 := HY5.o; subst eHY5; exact Rbody_kids.o), (show Zy ((((y + 1 + (Zd (fun _ => 1) l[j].params : Nat)) + (Zd (fun _ => 1) l[j].locals : Nat)) + 4 + (Zd cK l[j].body.kids : Nat))) by have := HCE.o; have := HCT.o; have := HCL.o; have := HK1.o; have := HY.o; have := HY2.o; have := HY3.o; have := HY5.o; unfold Zy; omega)⟩
   case measure => simp [intOf]; omega
  ·have hjl : j = l.length := by omega
   go_wp2_with fail;go_ret;subst hjl;have hrow := HAT.o.row HFB.o (c := cp) (by rw [Z2]; exact hc) HCM.o ⟨HO0.o, Nat.le_refl _⟩;rw [Z2] at hrow;refine ⟨Zu ?_, hrow, HKW.o, HK0W.o⟩;have := HY.o;rw [List.take_length] at this;exact this.symm
theorem Znt (hS : Zcp S K 5) (hK : Zbf K 5) (hkid : Zhf S mK cK) (r : Zt) (cs : List Value) (F : Nat → Prop) (w : World) (k : Int) (hk : 1 ≤ k) (hk1 : k + ((Zeg cK) r : Nat) ≤ 1099511627776) (h : (Zk4 S) F w r cs) :
  Calls Tryz.prog 19 #[.agg cs.toArray, .int .i64 k] w fun e w' => e = .returned (.int .i64 (k + ((Zeg cK) r : Nat))) ∧ (Zk4 S) F w' ((Zvr mK cK) r k) cs ∧ Zc (fun y => ¬ F y) w w' ∧ Below 0 w w' := by
 obtain ⟨tag, aC, aD, vprocedures, rfl, aF, aG, hprocedures⟩ := (Zcd hS hK).trim h;clear h;have HCE := zh (show (Zeg cK) r = Zd Zl r.aA + Zd (fun _ => 1) r.globals + Zd (Zaf cK) r.procedures from rfl);have HK1 := zh hk1;clear hk1;have HP := zh (heap_alloc_new w (.cells #[aC, aD, vprocedures] 52));have HK := zh (Zc.later (F := fun y => ¬ (F y ∧ y < w.heap.size)) ((Zb.refl w).alloc (.cells #[aC, aD, vprocedures] 52)));have HK0 := zh ((Below.refl 0 w).alloc (Nat.zero_le _) (.cells #[aC, aD, vprocedures] 52));have Rrecords := zh (aF.later Zh.is ((Zb.refl w).alloc (.cells #[aC, aD, vprocedures] 52)));clear aF;have Rglobals := zh (aG.later Zj.is ((Zb.refl w).alloc (.cells #[aC, aD, vprocedures] 52)));clear aG;have Rprocedures := zh (hprocedures.later (Zae hS hK).is ((Zb.refl w).alloc (.cells #[aC, aD, vprocedures] 52)));clear hprocedures;go_enter Tryz.func19, Tryz.ntmps19;go_wp2_with fail;refine (Ze5 r.aA aC _ _ k (by omega) (by have := HCE.o; have := HK1.o; omega) Rrecords.o).mono ?_;rintro e w0 ⟨rfl, hr0, hk0, hz0⟩;replace HP := zh ((hk0.same _ (fun h => Nat.lt_irrefl _ h.1.2) (Za HP.o)).trans HP.o);replace Rrecords := zh hr0;replace Rglobals := zh (Rglobals.o.keep Zj.is (fun _ h => h) (hk0.mono fun y h h2 => absurd (h.2.symm.trans h2.2) (by decide)))
 replace Rprocedures := zh (Rprocedures.o.keep (Zae hS hK).is (fun _ h => h) (hk0.mono fun y h h2 => absurd (h.2.symm.trans h2.2) (by decide)));replace HK := zh (HK.o.trans (hk0.mono fun y h h2 => h h2.1));replace HK0 := zh (HK0.o.trans hz0);clear hr0 hk0 hz0;obtain ⟨y0, hy0⟩ : ∃ z : Int, k + (Zd Zl r.aA : Nat) = z := ⟨_, rfl⟩;rw [hy0];have HY0 := zh hy0;have hl0 : 1 ≤ y0 := by omega
 have hu0 : y0 ≤ 1099511627776 := by have := HCE.o; have := HK1.o; omega
 clear hy0;have p1 := yq HP.o 1;simp only [nD, yE, yF] at p1;go_wp2_with fail;refine (Zcl r.globals aD _ _ y0 (by omega) (by have := HCE.o; have := HK1.o; have := HY0.o; omega) Rglobals.o).mono ?_;rintro e w1 ⟨rfl, hr1, hk1, hz1⟩;clear p1;replace HP := zh ((hk1.same _ (fun h => Nat.lt_irrefl _ h.1.2) (Za HP.o)).trans HP.o);replace Rglobals := zh hr1;replace Rrecords := zh (Rrecords.o.keep Zh.is (fun _ h => h) (hk1.mono fun y h h2 => absurd (h.2.symm.trans h2.2) (by decide)));replace Rprocedures := zh (Rprocedures.o.keep (Zae hS hK).is (fun _ h => h) (hk1.mono fun y h h2 => absurd (h.2.symm.trans h2.2) (by decide)));replace HK := zh (HK.o.trans (hk1.mono fun y h h2 => h h2.1));replace HK0 := zh (HK0.o.trans hz1);clear hr1 hk1 hz1;obtain ⟨y1, hy1⟩ : ∃ z : Int, y0 + (Zd (fun _ => 1) r.globals : Nat) = z := ⟨_, rfl⟩;rw [hy1];have HY1 := zh hy1;have hl1 : 1 ≤ y1 := by omega
 have hu1 : y1 ≤ 1099511627776 := by have := HCE.o; have := HK1.o; have := HY0.o; omega
 clear hy1;have p2 := yq HP.o 2;simp only [nD, yE, yF] at p2;go_wp2_with fail;refine (Zia hS hK hkid r.procedures vprocedures _ _ y1 (by omega) (by have := HCE.o; have := HK1.o; have := HY0.o; have := HY1.o; omega) Rprocedures.o).mono ?_;rintro e w2 ⟨rfl, hr2, hk2, hz2⟩;clear p2;replace HP := zh ((hk2.same _ (fun h => Nat.lt_irrefl _ h.1.2) (Za HP.o)).trans HP.o);replace Rprocedures := zh hr2;replace Rrecords := zh (Rrecords.o.keep Zh.is (fun _ h => h) (hk2.mono fun y h h2 => absurd (h.2.symm.trans h2.2) (by decide)));replace Rglobals := zh (Rglobals.o.keep Zj.is (fun _ h => h) (hk2.mono fun y h h2 => absurd (h.2.symm.trans h2.2) (by decide)));replace HK := zh (HK.o.trans (hk2.mono fun y h h2 => h h2.1));replace HK0 := zh (HK0.o.trans hz2);clear hr2 hk2 hz2;obtain ⟨y2, hy2⟩ : ∃ z : Int, y1 + (Zd (Zaf cK) r.procedures : Nat) = z := ⟨_, rfl⟩;rw [hy2];have HY2 := zh hy2;have hl2 : 1 ≤ y2 := by omega
 have hu2 : y2 ≤ 1099511627776 := by have := HCE.o; have := HK1.o; have := HY0.o; have := HY1.o; omega
 clear hy2;go_wp2_with fail;go_ret;refine ⟨Zu (by have := HCE.o; have := HK1.o; have := HY0.o; have := HY1.o; have := HY2.o; omega), ?_, HK.o.mono fun y h h2 => h h2.1, HK0.o⟩
 ·have eHY0 := HY0.o; subst eHY0;have eHY1 := HY1.o; subst eHY1;exact ⟨tag, _, _, _, rfl, Rrecords.o.keep Zh.is (fun b hb => ⟨hb.1.1, hb.2⟩) (Zc.refl _ _), Rglobals.o.keep Zj.is (fun b hb => ⟨hb.1.1, hb.2⟩) (Zc.refl _ _), Rprocedures.o.keep (Zae hS hK).is (fun b hb => ⟨hb.1.1, hb.2⟩) (Zc.refl _ _)⟩
end
end
section
section
variable {S K : Zaj Zf} {mK : Zf → Int → Zf} {cK sK : Zf → Nat}
theorem Ze1 (l : List ByteArray) (v : Value) (F : Nat → Prop) (w : World) (k : Int) (hk : 1 ≤ k) (hk1 : k + (Zd (fun _ => 1) l : Nat) ≤ 1099511627776) (hr : Zq Zah 1 F w (Zbs Zer (fun _ => 1) l k) v) :
  Calls Tryz.prog 50 #[v, .int .i64 k] w fun e w' => e = .returned (.int .i64 (k + (Zd (fun _ => 1) l : Nat))) ∧ Below w.heap.size w w' := by
 obtain ⟨A, cp, rfl, hc, hcm, hel⟩ := hr;have HEL := zh hel;clear hel;simp only [Zbx] at hc ⊢;unfold maxLen at hcm;have HK1 := zh hk1;clear hk1;go_enter Tryz.func50, Tryz.ntmps50;go_wp2_with fail
 go_loopw [1, 5] (fun kv i wr => ∃ j : Nat, j ≤ l.length ∧ i = .int .i64 j ∧ kv = .int .i64 (k + (Zd (fun _ => 1) (l.take j) : Nat)) ∧ Below w.heap.size w wr) (fun _ i _ => l.length - (intOf i).toNat)
 case atStart => exact ⟨0, Nat.zero_le _, rfl, by simp [Zd], Below.refl _ _⟩
 case round =>
  obtain ⟨j, hj, rfl, rfl, hbel⟩ := hrel;have HBL := zh hbel;have HLE := zh (Za1 (fun _ => 1) l j);obtain ⟨y, hy⟩ : ∃ y : Int, k + (Zd (fun _ => 1) (l.take j) : Nat) = y := ⟨_, rfl⟩;have hy1 : 1 ≤ y := by omega
  have hy2 : y ≤ 1099511627776 := by have := HK1.o; have := HLE.o; omega
  rw [hy];have HY := zh hy;clear hy HLE hbel
  by_cases hlt : j < l.length
  ·have hlt' : (j : Int) < l.length := by omega
   have HCT := zh (Zb0 (fun _ => 1) l j hlt);have HCL := zh (Za1 (fun _ => 1) l (j + 1));obtain ⟨b, o, cs, rfl, hF, hbl, hE, hcell⟩ := HEL.o j (by rw [Zbx]; exact hlt);rw [Zhk Zer (fun _ => 1) l k j hlt, HY.o] at hE;obtain ⟨rfl, _⟩ := hE;have HC := zh hcell;clear hcell;have HCE := zh (show (fun _ : ByteArray => (1 : Nat)) l[j] = 1 from rfl);go_upto_region 4 with (fail);refine Zx [] [] (by kernel_rfl) (fun W1 hW1 => ?_);have hW1L : Zb wr W1 := by rw [hW1]; exact (Zb.refl _).drew
   replace HBL := zh (HBL.o.trans (Below.mono hW1L HBL.o.size));clear hW1 hW1L;have cW : W1.cell? ⟨b, o + j, none⟩ = some (.string (Z9 (y))) := by have hh := (HBL.o.cell (p := ⟨b, o + j * 1 + 0, none⟩) hbl).trans (HC.o 0 _ rfl); rw [Nat.mul_one] at hh; exact hh
   have hbW : b < W1.heap.size := Nat.lt_of_lt_of_le hbl HBL.o.size;have ysame : ((Z9 (y)).toList == (Z9 (y)).toList) = true := by simp
   refine uU 0 12 ?_;simp only [yN];refine uU 1 13 ?_;simp only [yN];refine uU 2 14 ?_;simp only [yN];refine uU 3 15 (hy := fun x hx => by have x0 := (hx.cell ⟨b, o + j, none⟩ hbW).trans cW; go_simp <;> with_reducible rfl) ?_;simp only [yN];refine uU 4 16 ?_;simp only [yN];refine Z5 5 (by kernel_rfl) rfl rfl ?_;go_wp2_with fail;refine (Za5 (y) W1 (by omega) (by have := HCE.o; have := HCT.o; have := HCL.o; have := HK1.o; have := HY.o; omega)).mono ?_;rintro e w1 ⟨rfl, hb1⟩;go_wp2_with fail;refine ⟨hb1, ?_⟩;refine uU 6 18 ?_;simp only [yN];refine Z6 [] (by kernel_rfl) rfl rfl ?_;replace HBL := zh (HBL.o.trans (Below.mono hb1 HBL.o.size));clear hb1 cW hbW ysame;have n1_1 : y + 1 + 1 = y + 2 := by omega
   go_wp2_with fail
   go_roundw
   case rel => exact ⟨j + 1, by omega, by go_num, by have := HCE.o; have := HCT.o; have := HCL.o; have := HK1.o; have := HY.o; congr 1; omega, HBL.o⟩
   case measure => simp [intOf]; omega
  ·have hjl : j = l.length := by omega
   go_wp2_with fail;go_ret;subst hjl;refine ⟨Zu ?_, HBL.o⟩;have := HY.o;rw [List.take_length] at this;exact this.symm
theorem Zht (l : List Z3) (v : Value) (F : Nat → Prop) (w : World) (k : Int) (hk : 1 ≤ k) (hk1 : k + (Zd Zl l : Nat) ≤ 1099511627776) (hr : Zq Zan 3 F w (Zbs Zby Zl l k) v) :
  Calls Tryz.prog 49 #[v, .int .i64 k] w fun e w' => e = .returned (.int .i64 (k + (Zd Zl l : Nat))) ∧ Below w.heap.size w w' := by
 obtain ⟨A, cp, rfl, hc, hcm, hel⟩ := hr;have HEL := zh hel;clear hel;simp only [Zbx] at hc ⊢;unfold maxLen at hcm;have HK1 := zh hk1;clear hk1;go_enter Tryz.func49, Tryz.ntmps49;go_wp2_with fail
 go_loopw [1, 5] (fun kv i wr => ∃ j : Nat, j ≤ l.length ∧ i = .int .i64 j ∧ kv = .int .i64 (k + (Zd Zl (l.take j) : Nat)) ∧ Below w.heap.size w wr) (fun _ i _ => l.length - (intOf i).toNat)
 case atStart => exact ⟨0, Nat.zero_le _, rfl, by simp [Zd], Below.refl _ _⟩
 case round =>
  obtain ⟨j, hj, rfl, rfl, hbel⟩ := hrel;have HBL := zh hbel;have HLE := zh (Za1 Zl l j);obtain ⟨y, hy⟩ : ∃ y : Int, k + (Zd Zl (l.take j) : Nat) = y := ⟨_, rfl⟩;have hy1 : 1 ≤ y := by omega
  have hy2 : y ≤ 1099511627776 := by have := HK1.o; have := HLE.o; omega
  rw [hy];have HY := zh hy;clear hy HLE hbel
  by_cases hlt : j < l.length
  ·have hlt' : (j : Int) < l.length := by omega
   have HCT := zh (Zb0 Zl l j hlt);have HCL := zh (Za1 Zl l (j + 1));obtain ⟨b, o, cs, rfl, hF, hbl, hE, hcell⟩ := HEL.o j (by rw [Zbx]; exact hlt);rw [Zhk Zby Zl l k j hlt, HY.o] at hE;have hE' : ∃ aE, cs = [.string (Z9 (y)), aE, .int .i64 ((y + 1 + (Zd (fun _ => 1) l[j].fields : Nat)))] ∧ Zq Zah 1 F w (Zbs Zer (fun _ => 1) l[j].fields (y + 1)) aE := by
    obtain ⟨aE, e, aK, aL, aM⟩ := hE;exact ⟨_, e, aL⟩
   obtain ⟨aE, rfl, aL⟩ := hE';clear hE;have Rfields := zh aL;clear aL;have HC := zh hcell;clear hcell;have HCE := zh (show Zl l[j] = 2 + (Zd (fun _ => 1) l[j].fields) from rfl);go_upto_region 4 with (fail);refine Zx [] [] (by kernel_rfl) (fun W1 hW1 => ?_);have hW1L : Zb wr W1 := by rw [hW1]; exact (Zb.refl _).drew
   replace HBL := zh (HBL.o.trans (Below.mono hW1L HBL.o.size));clear hW1 hW1L;have cW : W1.cell? ⟨b, o + j * 3, none⟩ = some (.string (Z9 (y))) := by have hh := (HBL.o.cell (p := ⟨b, o + j * 3 + 0, none⟩) hbl).trans (HC.o 0 _ rfl); exact hh
   have hbW : b < W1.heap.size := Nat.lt_of_lt_of_le hbl HBL.o.size;have ysame : ((Z9 (y)).toList == (Z9 (y)).toList) = true := by simp
   refine uU 0 12 ?_;simp only [yN];refine uU 1 13 ?_;simp only [yN];refine uU 2 14 ?_;simp only [yN];refine uU 3 15 ?_;simp only [yN];refine uU 4 16 (hy := fun x hx => by have x0 := (hx.cell ⟨b, o + j * 3, none⟩ hbW).trans cW; go_simp <;> with_reducible rfl) ?_;simp only [yN];refine uU 5 17 ?_;simp only [yN];refine Z5 6 (by kernel_rfl) rfl rfl ?_;go_wp2_with fail;refine (Za5 (y) W1 (by omega) (by have := HCE.o; have := HCT.o; have := HCL.o; have := HK1.o; have := HY.o; omega)).mono ?_;rintro e w1 ⟨rfl, hb1⟩;go_wp2_with fail;refine ⟨hb1, ?_⟩;refine uU 7 19 ?_;simp only [yN];refine Z6 [] (by kernel_rfl) rfl rfl ?_;replace HBL := zh (HBL.o.trans (Below.mono hb1 HBL.o.size));clear hb1 cW hbW ysame;have c1 : w1.cell? ⟨b, o + j * 3 + 1, none⟩ = some (aE) := by have hh := (HBL.o.cell (p := ⟨b, o + j * 3 + 1, none⟩) hbl).trans (HC.o 1 _ rfl); exact hh
   have n1_1 : y + 1 + 1 = y + 2 := by omega
   go_wp2_with fail;clear c1 n1_1;have HR2 : Hd (Zq Zah 1 F w (Zbs Zer (fun _ => 1) l[j].fields (y + 1)) aE) := zh (by exact Rfields.o);refine (Ze1 l[j].fields aE F _ (y + 1) (by omega) (by have := HCE.o; have := HCT.o; have := HCL.o; have := HK1.o; have := HY.o; omega) (HR2.o.keep Zg (fun _ h => h) (Zc.later HBL.o))).mono ?_;rintro e w2 ⟨rfl, hb2⟩;replace HBL := zh (HBL.o.trans (Below.mono hb2 HBL.o.size));clear hb2 HR2;obtain ⟨y2, hy2⟩ : ∃ z : Int, y + 1 + (Zd (fun _ => 1) l[j].fields : Nat) = z := ⟨_, rfl⟩;rw [hy2];have HY2 := zh hy2;have hl2 : 1 ≤ y2 := by omega
   have hu2 : y2 ≤ 1099511627776 := by have := HCE.o; have := HCT.o; have := HCL.o; have := HK1.o; have := HY.o; omega
   have ht2 : decide (y2 < 0) = false := by simp; omega
   clear hy2;have c2 : w2.cell? ⟨b, o + j * 3 + 2, none⟩ = some (.int .i64 (y2)) := by rw [← HY2.o]; have hh := (HBL.o.cell (p := ⟨b, o + j * 3 + 2, none⟩) hbl).trans (HC.o 2 _ rfl); exact hh
   have n2_1 : y2 + 1 + 1 = y2 + 2 := by omega
   go_wp2_with fail
   go_roundw
   case rel => exact ⟨j + 1, by omega, by go_num, by have := HCE.o; have := HCT.o; have := HCL.o; have := HK1.o; have := HY.o; have := HY2.o; congr 1; omega, HBL.o⟩
   case measure => simp [intOf]; omega
  ·have hjl : j = l.length := by omega
   go_wp2_with fail;go_ret;subst hjl;refine ⟨Zu ?_, HBL.o⟩;have := HY.o;rw [List.take_length] at this;exact this.symm
end
end
section
section
variable {S K : Zaj Zf} {mK : Zf → Int → Zf} {cK sK : Zf → Nat}
def Zi4 (K : Zaj Zf) (mK : Zf → Int → Zf) (cK : Zf → Nat) : Prop := ∀ (l : List Zf) (v : Value) (F : Nat → Prop) (w : World) (k : Int) (hk : 1 ≤ k) (hk1 : k + (Zd cK l : Nat) ≤ 1099511627776) (hr : Zq K 6 F w (Zbs mK cK l k) v),
 Calls Tryz.prog 118 #[v, .int .i64 k] w fun e w' => e = .returned (.int .i64 (k + (Zd cK l : Nat))) ∧ Below w.heap.size w w'
theorem Zl1 (hK : Zbf K 6) (hkid : Zi4 K mK cK) : Zi4 (Zgc K) (Zgj mK cK) (Zbk cK) := by
 intro l v F w k hk hk1 hr;obtain ⟨A, cp, rfl, hc, hcm, hel⟩ := hr;have HEL := zh hel;clear hel;simp only [Zbx] at hc ⊢;unfold maxLen at hcm;have HK1 := zh hk1;clear hk1;go_enter Tryz.func118, Tryz.ntmps118;go_wp2_with fail
 go_loopw [1, 5] (fun kv i wr => ∃ j : Nat, j ≤ l.length ∧ i = .int .i64 j ∧ kv = .int .i64 (k + (Zd (Zbk cK) (l.take j) : Nat)) ∧ Below w.heap.size w wr) (fun _ i _ => l.length - (intOf i).toNat)
 case atStart => exact ⟨0, Nat.zero_le _, rfl, by simp [Zd], Below.refl _ _⟩
 case round =>
  obtain ⟨j, hj, rfl, rfl, hbel⟩ := hrel;have HBL := zh hbel;have HLE := zh (Za1 (Zbk cK) l j);obtain ⟨y, hy⟩ : ∃ y : Int, k + (Zd (Zbk cK) (l.take j) : Nat) = y := ⟨_, rfl⟩;have hy1 : 1 ≤ y := by omega
  have hy2 : y ≤ 1099511627776 := by have := HK1.o; have := HLE.o; omega
  rw [hy];have HY := zh hy;clear hy HLE hbel
  by_cases hlt : j < l.length
  ·have hlt' : (j : Int) < l.length := by omega
   have HCT := zh (Zb0 (Zbk cK) l j hlt);have HCL := zh (Za1 (Zbk cK) l (j + 1));obtain ⟨b, o, cs, rfl, hF, hbl, hE, hcell⟩ := HEL.o j (by rw [Zbx]; exact hlt);rw [Zhk (Zgj mK cK) (Zbk cK) l k j hlt, HY.o] at hE;have hE' : ∃ vkids, cs = [.int .i64 (y), .int .i64 (y + 1), .int .i64 (y + 2), .int .i64 (y + 3), .string (Z9 (y + 4)), vkids] ∧ Zq K 6 F w (Zbs mK cK l[j].kids (y + 5)) vkids := by
    obtain ⟨vkids, e, aH, hop, aI, aM, aJ, hkids⟩ := hE;exact ⟨_, e, hkids⟩
   obtain ⟨vkids, rfl, hkids⟩ := hE';clear hE;have Rkids := zh hkids;clear hkids;have HC := zh hcell;clear hcell;have HCE := zh (show (Zbk cK) l[j] = 5 + (Zd cK l[j].kids) from rfl);have c0 : wr.cell? ⟨b, o + j * 6, none⟩ = some (.int .i64 (y)) := by have hh := (HBL.o.cell (p := ⟨b, o + j * 6 + 0, none⟩) hbl).trans (HC.o 0 _ rfl); exact hh
   have c1 : wr.cell? ⟨b, o + j * 6 + 1, none⟩ = some (.int .i64 (y + 1)) := by have hh := (HBL.o.cell (p := ⟨b, o + j * 6 + 1, none⟩) hbl).trans (HC.o 1 _ rfl); exact hh
   have c2 : wr.cell? ⟨b, o + j * 6 + 2, none⟩ = some (.int .i64 (y + 2)) := by have hh := (HBL.o.cell (p := ⟨b, o + j * 6 + 2, none⟩) hbl).trans (HC.o 2 _ rfl); exact hh
   have c3 : wr.cell? ⟨b, o + j * 6 + 3, none⟩ = some (.int .i64 (y + 3)) := by have hh := (HBL.o.cell (p := ⟨b, o + j * 6 + 3, none⟩) hbl).trans (HC.o 3 _ rfl); exact hh
   have n0_1 : y + 1 + 1 = y + 2 := by omega
   have n0_2 : y + 2 + 1 = y + 3 := by omega
   have n0_3 : y + 3 + 1 = y + 4 := by omega
   have n0_4 : y + 4 + 1 = y + 5 := by omega
   go_upto_region 16 with (fail);clear c0 c1 c2 c3 n0_1 n0_2 n0_3 n0_4;refine Zx [] [] (by kernel_rfl) (fun W1 hW1 => ?_);have hW1L : Zb wr W1 := by rw [hW1]; exact (Zb.refl _).drew
   replace HBL := zh (HBL.o.trans (Below.mono hW1L HBL.o.size));clear hW1 hW1L;have cW : W1.cell? ⟨b, o + j * 6 + 4, none⟩ = some (.string (Z9 (y + 4))) := by have hh := (HBL.o.cell (p := ⟨b, o + j * 6 + 4, none⟩) hbl).trans (HC.o 4 _ rfl); exact hh
   have hbW : b < W1.heap.size := Nat.lt_of_lt_of_le hbl HBL.o.size;have ysame : ((Z9 (y + 4)).toList == (Z9 (y + 4)).toList) = true := by simp
   refine uU 0 48 ?_;simp only [yN];refine uU 1 49 ?_;simp only [yN];refine uU 2 50 ?_;simp only [yN];refine uU 3 51 ?_;simp only [yN];refine uU 4 52 (hy := fun x hx => by have x0 := (hx.cell ⟨b, o + j * 6 + 4, none⟩ hbW).trans cW; go_simp <;> with_reducible rfl) ?_;simp only [yN];refine uU 5 53 ?_;simp only [yN];refine Z5 6 (by kernel_rfl) rfl rfl ?_;go_wp2_with fail;refine (Za5 (y + 4) W1 (by omega) (by have := HCE.o; have := HCT.o; have := HCL.o; have := HK1.o; have := HY.o; omega)).mono ?_;rintro e w1 ⟨rfl, hb1⟩;go_wp2_with fail;refine ⟨hb1, ?_⟩;refine uU 7 55 ?_;simp only [yN];refine Z6 [] (by kernel_rfl) rfl rfl ?_;replace HBL := zh (HBL.o.trans (Below.mono hb1 HBL.o.size));clear hb1 cW hbW ysame;have c5 : w1.cell? ⟨b, o + j * 6 + 5, none⟩ = some (vkids) := by have hh := (HBL.o.cell (p := ⟨b, o + j * 6 + 5, none⟩) hbl).trans (HC.o 5 _ rfl); exact hh
   have n1_1 : y + 1 + 1 = y + 2 := by omega
   have n1_2 : y + 2 + 1 = y + 3 := by omega
   have n1_3 : y + 3 + 1 = y + 4 := by omega
   have n1_4 : y + 4 + 1 = y + 5 := by omega
   have n1_5 : y + 5 + 1 = y + 6 := by omega
   go_wp2_with fail;clear c5 n1_1 n1_2 n1_3 n1_4 n1_5;have HR2 : Hd (Zq K 6 F w (Zbs mK cK l[j].kids (y + 5)) vkids) := zh (by exact Rkids.o);refine (hkid l[j].kids vkids F _ (y + 5) (by omega) (by have := HCE.o; have := HCT.o; have := HCL.o; have := HK1.o; have := HY.o; omega) (HR2.o.keep hK (fun _ h => h) (Zc.later HBL.o))).mono ?_;rintro e w2 ⟨rfl, hb2⟩;replace HBL := zh (HBL.o.trans (Below.mono hb2 HBL.o.size));clear hb2 HR2;obtain ⟨y2, hy2⟩ : ∃ z : Int, y + 5 + (Zd cK l[j].kids : Nat) = z := ⟨_, rfl⟩;rw [hy2];have HY2 := zh hy2;have hl2 : 1 ≤ y2 := by omega
   have hu2 : y2 ≤ 1099511627776 := by have := HCE.o; have := HCT.o; have := HCL.o; have := HK1.o; have := HY.o; omega
   have ht2 : decide (y2 < 0) = false := by simp; omega
   clear hy2;go_wp2_with fail
   go_roundw
   case rel => exact ⟨j + 1, by omega, by go_num, by have := HCE.o; have := HCT.o; have := HCL.o; have := HK1.o; have := HY.o; have := HY2.o; congr 1; omega, HBL.o⟩
   case measure => simp [intOf]; omega
  ·have hjl : j = l.length := by omega
   go_wp2_with fail;go_ret;subst hjl;refine ⟨Zu ?_, HBL.o⟩;have := HY.o;rw [List.take_length] at this;exact this.symm
theorem Zf2 : ∀ n, Zi4 (Zmk n) (mkN n) (Zhr n)
 | 0 => by
  intro l v F w k hk hk1 hr;obtain ⟨A, cp, rfl, hc, hcm, hel⟩ := hr;unfold maxLen at hcm;have h0 : l.length = 0 := by
   rcases Nat.eq_zero_or_pos l.length with h | h
   ·exact h
   ·obtain ⟨b, o, cs, e, hF, hbl, hE, hcell⟩ := hel 0 (by rw [Zbx]; exact h);exact hE.elim
  obtain rfl : l = [] := List.eq_nil_of_length_eq_zero h0;clear hel h0;go_enter Tryz.func118, Tryz.ntmps118;go_wp2_with fail;refine wp_loop_rounds 1 ?_;rw [rounds_succ];go_wp2_with fail;go_ret;exact ⟨by simp [Zd], Below.refl _ _⟩
 | n + 1 => Zl1 (Zr n) (Zf2 n)
theorem Zju (hK : Zbf K 6) (hkid : Zi4 K mK cK) (l : List Zbi) (v : Value) (F : Nat → Prop) (w : World) (k : Int) (hk : 1 ≤ k) (hk1 : k + (Zd (Zo cK) l : Nat) ≤ 1099511627776) (hr : Zq (Zc9 K) 9 F w (Zbs (Zdl mK cK) (Zo cK) l k) v) :
  Calls Tryz.prog 62 #[v, .int .i64 k] w fun e w' => e = .returned (.int .i64 (k + (Zd (Zo cK) l : Nat))) ∧ Below w.heap.size w w' := by
 obtain ⟨A, cp, rfl, hc, hcm, hel⟩ := hr;have HEL := zh hel;clear hel;simp only [Zbx] at hc ⊢;unfold maxLen at hcm;have HK1 := zh hk1;clear hk1;go_enter Tryz.func62, Tryz.ntmps62;go_wp2_with fail
 go_loopw [1, 5] (fun kv i wr => ∃ j : Nat, j ≤ l.length ∧ i = .int .i64 j ∧ kv = .int .i64 (k + (Zd (Zo cK) (l.take j) : Nat)) ∧ Below w.heap.size w wr) (fun _ i _ => l.length - (intOf i).toNat)
 case atStart => exact ⟨0, Nat.zero_le _, rfl, by simp [Zd], Below.refl _ _⟩
 case round =>
  obtain ⟨j, hj, rfl, rfl, hbel⟩ := hrel;have HBL := zh hbel;have HLE := zh (Za1 (Zo cK) l j);obtain ⟨y, hy⟩ : ∃ y : Int, k + (Zd (Zo cK) (l.take j) : Nat) = y := ⟨_, rfl⟩;have hy1 : 1 ≤ y := by omega
  have hy2 : y ≤ 1099511627776 := by have := HK1.o; have := HLE.o; omega
  rw [hy];have HY := zh hy;clear hy HLE hbel
  by_cases hlt : j < l.length
  ·have hlt' : (j : Int) < l.length := by omega
   have HCT := zh (Zb0 (Zo cK) l j hlt);have HCL := zh (Za1 (Zo cK) l (j + 1));obtain ⟨b, o, cs, rfl, hF, hbl, hE, hcell⟩ := HEL.o j (by rw [Zbx]; exact hlt);rw [Zhk (Zdl mK cK) (Zo cK) l k j hlt, HY.o] at hE;have hE' : ∃ vslots vbodykids, cs = [.string (Z9 (y)), .int .i64 (y + 1), vslots, .int .i64 ((y + 2 + (Zd (fun _ => 1) l[j].slots : Nat))), .int .i64 ((y + 2 + (Zd (fun _ => 1) l[j].slots : Nat)) + 1), .int .i64 ((y + 2 + (Zd (fun _ => 1) l[j].slots : Nat)) + 2), .int .i64 ((y + 2 + (Zd (fun _ => 1) l[j].slots : Nat)) + 3), .string (Z9 ((y + 2 + (Zd (fun _ => 1) l[j].slots : Nat)) + 4)), vbodykids] ∧ Zq Zah 1 F w (Zbs Zer (fun _ => 1) l[j].slots (y + 2)) vslots ∧ Zq K 6 F w (Zbs mK cK l[j].body.kids ((y + 2 + (Zd (fun _ => 1) l[j].slots : Nat)) + 5)) vbodykids := by
    obtain ⟨vslots, vbodykids, e, aK, hparams, hslots, hbody_kind, hbody_op, hbody_number, hbody_line, hbody_text, hbody_kids⟩ := hE;exact ⟨_, _, e, hslots, hbody_kids⟩
   obtain ⟨vslots, vbodykids, rfl, hslots, hbody_kids⟩ := hE';clear hE;have Rslots := zh hslots;clear hslots;have Rbody_kids := zh hbody_kids;clear hbody_kids;have HC := zh hcell;clear hcell;have HCE := zh (show (Zo cK) l[j] = 7 + (Zd (fun _ => 1) l[j].slots + (Zd cK l[j].body.kids)) from rfl);go_upto_region 4 with (fail);refine Zx [] [] (by kernel_rfl) (fun W1 hW1 => ?_);have hW1L : Zb wr W1 := by rw [hW1]; exact (Zb.refl _).drew
   replace HBL := zh (HBL.o.trans (Below.mono hW1L HBL.o.size));clear hW1 hW1L;have cW : W1.cell? ⟨b, o + j * 9, none⟩ = some (.string (Z9 (y))) := by have hh := (HBL.o.cell (p := ⟨b, o + j * 9 + 0, none⟩) hbl).trans (HC.o 0 _ rfl); exact hh
   have hbW : b < W1.heap.size := Nat.lt_of_lt_of_le hbl HBL.o.size;have ysame : ((Z9 (y)).toList == (Z9 (y)).toList) = true := by simp
   refine uU 0 12 ?_;simp only [yN];refine uU 1 13 ?_;simp only [yN];refine uU 2 14 ?_;simp only [yN];refine uU 3 15 ?_;simp only [yN];refine uU 4 16 (hy := fun x hx => by have x0 := (hx.cell ⟨b, o + j * 9, none⟩ hbW).trans cW; go_simp <;> with_reducible rfl) ?_;simp only [yN];refine uU 5 17 ?_;simp only [yN];refine Z5 6 (by kernel_rfl) rfl rfl ?_;go_wp2_with fail;refine (Za5 (y) W1 (by omega) (by have := HCE.o; have := HCT.o; have := HCL.o; have := HK1.o; have := HY.o; omega)).mono ?_;rintro e w1 ⟨rfl, hb1⟩;go_wp2_with fail;refine ⟨hb1, ?_⟩;refine uU 7 19 ?_;simp only [yN];refine Z6 [] (by kernel_rfl) rfl rfl ?_;replace HBL := zh (HBL.o.trans (Below.mono hb1 HBL.o.size));clear hb1 cW hbW ysame;have c1 : w1.cell? ⟨b, o + j * 9 + 1, none⟩ = some (.int .i64 (y + 1)) := by have hh := (HBL.o.cell (p := ⟨b, o + j * 9 + 1, none⟩) hbl).trans (HC.o 1 _ rfl); exact hh
   have c2 : w1.cell? ⟨b, o + j * 9 + 2, none⟩ = some (vslots) := by have hh := (HBL.o.cell (p := ⟨b, o + j * 9 + 2, none⟩) hbl).trans (HC.o 2 _ rfl); exact hh
   have n1_1 : y + 1 + 1 = y + 2 := by omega
   have n1_2 : y + 2 + 1 = y + 3 := by omega
   go_wp2_with fail;clear c1 c2 n1_1 n1_2;have HR2 : Hd (Zq Zah 1 F w (Zbs Zer (fun _ => 1) l[j].slots (y + 2)) vslots) := zh (by exact Rslots.o);refine (Ze1 l[j].slots vslots F _ (y + 2) (by omega) (by have := HCE.o; have := HCT.o; have := HCL.o; have := HK1.o; have := HY.o; omega) (HR2.o.keep Zg (fun _ h => h) (Zc.later HBL.o))).mono ?_;rintro e w2 ⟨rfl, hb2⟩;replace HBL := zh (HBL.o.trans (Below.mono hb2 HBL.o.size));clear hb2 HR2;obtain ⟨y2, hy2⟩ : ∃ z : Int, y + 2 + (Zd (fun _ => 1) l[j].slots : Nat) = z := ⟨_, rfl⟩;rw [hy2];have HY2 := zh hy2;have hl2 : 1 ≤ y2 := by omega
   have hu2 : y2 ≤ 1099511627776 := by have := HCE.o; have := HCT.o; have := HCL.o; have := HK1.o; have := HY.o; omega
   have ht2 : decide (y2 < 0) = false := by simp; omega
   clear hy2;have c3 : w2.cell? ⟨b, o + j * 9 + 3, none⟩ = some (.int .i64 (y2)) := by rw [← HY2.o]; have hh := (HBL.o.cell (p := ⟨b, o + j * 9 + 3, none⟩) hbl).trans (HC.o 3 _ rfl); exact hh
   have c4 : w2.cell? ⟨b, o + j * 9 + 4, none⟩ = some (.int .i64 (y2 + 1)) := by rw [← HY2.o]; have hh := (HBL.o.cell (p := ⟨b, o + j * 9 + 4, none⟩) hbl).trans (HC.o 4 _ rfl); exact hh
   have c5 : w2.cell? ⟨b, o + j * 9 + 5, none⟩ = some (.int .i64 (y2 + 2)) := by rw [← HY2.o]; have hh := (HBL.o.cell (p := ⟨b, o + j * 9 + 5, none⟩) hbl).trans (HC.o 5 _ rfl); exact hh
   have c6 : w2.cell? ⟨b, o + j * 9 + 6, none⟩ = some (.int .i64 (y2 + 3)) := by rw [← HY2.o]; have hh := (HBL.o.cell (p := ⟨b, o + j * 9 + 6, none⟩) hbl).trans (HC.o 6 _ rfl); exact hh
   have n2_1 : y2 + 1 + 1 = y2 + 2 := by omega
   have n2_2 : y2 + 2 + 1 = y2 + 3 := by omega
   have n2_3 : y2 + 3 + 1 = y2 + 4 := by omega
   have n2_4 : y2 + 4 + 1 = y2 + 5 := by omega
   go_upto_region 25 with (fail);clear c3 c4 c5 c6 n2_1 n2_2 n2_3 n2_4;refine Zx [] [] (by kernel_rfl) (fun W3 hW3 => ?_);have hW3L : Zb w2 W3 := by rw [hW3]; exact (Zb.refl _).drew
   replace HBL := zh (HBL.o.trans (Below.mono hW3L HBL.o.size));clear hW3 hW3L;have cW : W3.cell? ⟨b, o + j * 9 + 7, none⟩ = some (.string (Z9 (y2 + 4))) := by rw [← HY2.o]; have hh := (HBL.o.cell (p := ⟨b, o + j * 9 + 7, none⟩) hbl).trans (HC.o 7 _ rfl); exact hh
   have hbW : b < W3.heap.size := Nat.lt_of_lt_of_le hbl HBL.o.size;have ysame : ((Z9 (y2 + 4)).toList == (Z9 (y2 + 4)).toList) = true := by simp
   refine uU 0 80 ?_;simp only [yN];refine uU 1 81 ?_;simp only [yN];refine uU 2 82 ?_;simp only [yN];refine uU 3 83 ?_;simp only [yN];refine uU 4 84 ?_;simp only [yN];refine uU 5 85 (hy := fun x hx => by have x0 := (hx.cell ⟨b, o + j * 9 + 7, none⟩ hbW).trans cW; go_simp <;> with_reducible rfl) ?_;simp only [yN];refine uU 6 86 ?_;simp only [yN];refine Z5 7 (by kernel_rfl) rfl rfl ?_;go_wp2_with fail;refine (Za5 (y2 + 4) W3 (by omega) (by have := HCE.o; have := HCT.o; have := HCL.o; have := HK1.o; have := HY.o; have := HY2.o; omega)).mono ?_;rintro e w3 ⟨rfl, hb3⟩;go_wp2_with fail;refine ⟨hb3, ?_⟩;refine uU 8 88 ?_;simp only [yN];refine Z6 [] (by kernel_rfl) rfl rfl ?_;replace HBL := zh (HBL.o.trans (Below.mono hb3 HBL.o.size));clear hb3 cW hbW ysame;have c8 : w3.cell? ⟨b, o + j * 9 + 8, none⟩ = some (vbodykids) := by have hh := (HBL.o.cell (p := ⟨b, o + j * 9 + 8, none⟩) hbl).trans (HC.o 8 _ rfl); exact hh
   have n3_1 : y2 + 1 + 1 = y2 + 2 := by omega
   have n3_2 : y2 + 2 + 1 = y2 + 3 := by omega
   have n3_3 : y2 + 3 + 1 = y2 + 4 := by omega
   have n3_4 : y2 + 4 + 1 = y2 + 5 := by omega
   have n3_5 : y2 + 5 + 1 = y2 + 6 := by omega
   go_wp2_with fail;clear c8 n3_1 n3_2 n3_3 n3_4 n3_5;have HR4 : Hd (Zq K 6 F w (Zbs mK cK l[j].body.kids (y2 + 5)) vbodykids) := zh (by rw [← HY2.o]; exact Rbody_kids.o);refine (hkid l[j].body.kids vbodykids F _ (y2 + 5) (by omega) (by have := HCE.o; have := HCT.o; have := HCL.o; have := HK1.o; have := HY.o; have := HY2.o; omega) (HR4.o.keep hK (fun _ h => h) (Zc.later HBL.o))).mono ?_;rintro e w4 ⟨rfl, hb4⟩;replace HBL := zh (HBL.o.trans (Below.mono hb4 HBL.o.size));clear hb4 HR4;obtain ⟨y4, hy4⟩ : ∃ z : Int, y2 + 5 + (Zd cK l[j].body.kids : Nat) = z := ⟨_, rfl⟩;rw [hy4];have HY4 := zh hy4;have hl4 : 1 ≤ y4 := by omega
   have hu4 : y4 ≤ 1099511627776 := by have := HCE.o; have := HCT.o; have := HCL.o; have := HK1.o; have := HY.o; have := HY2.o; omega
   have ht4 : decide (y4 < 0) = false := by simp; omega
   clear hy4;go_wp2_with fail
   go_roundw
   case rel => exact ⟨j + 1, by omega, by go_num, by have := HCE.o; have := HCT.o; have := HCL.o; have := HK1.o; have := HY.o; have := HY2.o; have := HY4.o; congr 1; omega, HBL.o⟩
   case measure => simp [intOf]; omega
  ·have hjl : j = l.length := by omega
   go_wp2_with fail;go_ret;subst hjl;refine ⟨Zu ?_, HBL.o⟩;have := HY.o;rw [List.take_length] at this;exact this.symm
theorem Zgp (hK : Zbf K 6) (hkid : Zi4 K mK cK) (r : Za7) (cs : List Value) (F : Nat → Prop) (w : World) (k : Int) (hk : 1 ≤ k) (hk1 : k + ((Zbg cK) r : Nat) ≤ 1099511627776) (h : (Zhl K) F w ((Zka mK cK) r k) cs) :
  Calls Tryz.prog 20 #[.agg cs.toArray, .int .i64 k] w fun e w' => e = .returned (.int .i64 (k + ((Zbg cK) r : Nat))) ∧ Below w.heap.size w w' := by
 have h' : ∃ vroutines aC aD, cs = [vroutines, aC, aD, .int .i64 r.main] ∧ Zq (Zc9 K) 9 F w (Zbs (Zdl mK cK) (Zo cK) r.routines (k)) vroutines ∧ Zq Zan 3 F w (Zbs Zby Zl r.aA (k + (Zd (Zo cK) r.routines : Nat))) aC ∧ Zq Zah 1 F w (Zbs Zer (fun _ => 1) r.globals (k + (Zd (Zo cK) r.routines : Nat) + (Zd Zl r.aA : Nat))) aD := by
  obtain ⟨vroutines, aC, aD, e, hroutines, aF, aG, hmain⟩ := h;exact ⟨_, _, _, e, hroutines, aF, aG⟩
 obtain ⟨vroutines, aC, aD, rfl, hroutines, aF, aG⟩ := h';clear h;have HCE := zh (show (Zbg cK) r = Zd (Zo cK) r.routines + Zd Zl r.aA + Zd (fun _ => 1) r.globals from rfl);have HK1 := zh hk1;clear hk1;have HP := zh (heap_alloc_new w (.cells #[vroutines, aC, aD, .int .i64 r.main] 37));have HB := zh ((Below.refl w.heap.size w).alloc (Nat.le_refl _) (.cells #[vroutines, aC, aD, .int .i64 r.main] 37));have Rroutines := zh hroutines;clear hroutines;have Rrecords := zh aF;clear aF;have Rglobals := zh aG;clear aG;go_enter Tryz.func20, Tryz.ntmps20;go_wp2_with fail;refine (Zju hK hkid r.routines vroutines F _ k (by omega) (by have := HCE.o; have := HK1.o; omega) (Rroutines.o.later (Zcm hK) HB.o)).mono ?_;rintro e w0 ⟨rfl, hb0⟩;replace HP := yC hb0 HP;replace HB := zh (HB.o.trans (Below.mono hb0 HB.o.size));clear hb0;obtain ⟨y0, hy0⟩ : ∃ z : Int, k + (Zd (Zo cK) r.routines : Nat) = z := ⟨_, rfl⟩;rw [hy0];rw [hy0] at Rrecords Rglobals;have HY0 := zh hy0;have hl0 : 1 ≤ y0 := by omega
 have hu0 : y0 ≤ 1099511627776 := by have := HCE.o; have := HK1.o; omega
 have ht0 : decide (y0 < 0) = false := by simp; omega
 clear hy0;have p1 := yq HP.o 1;simp only [nD, yE, yF] at p1;go_wp2_with fail;refine (Zht r.aA aC F _ y0 (by omega) (by have := HCE.o; have := HK1.o; have := HY0.o; omega) (Rrecords.o.later Z4 HB.o)).mono ?_;rintro e w1 ⟨rfl, hb1⟩;clear p1;replace HP := yC hb1 HP;replace HB := zh (HB.o.trans (Below.mono hb1 HB.o.size));clear hb1;obtain ⟨y1, hy1⟩ : ∃ z : Int, y0 + (Zd Zl r.aA : Nat) = z := ⟨_, rfl⟩;rw [hy1];rw [hy1] at Rglobals;have HY1 := zh hy1;have hl1 : 1 ≤ y1 := by omega
 have hu1 : y1 ≤ 1099511627776 := by have := HCE.o; have := HK1.o; have := HY0.o; omega
 have ht1 : decide (y1 < 0) = false := by simp; omega
 clear hy1;have p2 := yq HP.o 2;simp only [nD, yE, yF] at p2;go_wp2_with fail;refine (Ze1 r.globals aD F _ y1 (by omega) (by have := HCE.o; have := HK1.o; have := HY0.o; have := HY1.o; omega) (Rglobals.o.later Zg HB.o)).mono ?_;rintro e w2 ⟨rfl, hb2⟩;clear p2;replace HP := yC hb2 HP;replace HB := zh (HB.o.trans (Below.mono hb2 HB.o.size));clear hb2;obtain ⟨y2, hy2⟩ : ∃ z : Int, y1 + (Zd (fun _ => 1) r.globals : Nat) = z := ⟨_, rfl⟩;rw [hy2];have HY2 := zh hy2;have hl2 : 1 ≤ y2 := by omega
 have hu2 : y2 ≤ 1099511627776 := by have := HCE.o; have := HK1.o; have := HY0.o; have := HY1.o; omega
 have ht2 : decide (y2 < 0) = false := by simp; omega
 clear hy2;go_wp2_with fail;go_ret;exact ⟨Zu (by have := HCE.o; have := HK1.o; have := HY0.o; have := HY1.o; have := HY2.o; omega), HB.o⟩
end
end
end Go.Proofs.YtcmmdchjppaimaaGreatDoor
