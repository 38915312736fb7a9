/- Part of the walks that the claim stands on. -/
import Derived.Test.YtpmhelkiicigfaaGreatDoorS4
import Derived.Test.YtpmhelkiicigfaaGreatDoorS3
import Derived.Test.YtpmhelkiicigfaaGreatDoorS1
import Derived.Test.YtpmhelkiicigfaaGreatDoorChecked
import Derived.Lib.Hide
import Derived.WalkKit
import Derived.WalkSpells
import Derived.WalkLawsBesides
import Derived.Outline
import Derived.Laws.IdiomStrings
import Derived.Test.YtpmhelkiicigfaaGreatDoorS2
import Derived.Deep.DeepCutAuto
set_option maxRecDepth 100000
set_option maxHeartbeats 40000000
namespace Go.Proofs.YtpmhelkiicigfaaGreatDoor
open Go.RowKit
set_option maxRecDepth 1000000
set_option maxHeartbeats 4000000
theorem Zsa (B : Nat) (F : Nat → Prop) (r : Zf) (cs : List Value) (v : Zd) (w : World) (h : Z3 F w B r cs) (hol : r.aA.length ≤ 1048576) (hv : Zhl r v) :
  Calls Tryz.prog 112 #[.pointer (some ⟨B, 0, none⟩), .agg (VC6 v).toArray] w (fun e w' => e = .returned (.tuple #[.agg (VC6 (Zdr r v)).toArray, .int .i64 0]) ∧ Tch (fun _ => False) w w') := by
 obtain ⟨x, hy⟩ : ∃ x, x = Zdr r v := ⟨_, rfl⟩;rw [← hy];obtain ⟨w2, hw2⟩ : ∃ z, z = ((w.alloc (.cells (VC6 v).toArray 34)).alloc (.cells #[.int .i64 0, .int .i64 0, .int .i64 0, .string ⟨#[]⟩, .int .i64 0, .int .i64 0] 34)) := ⟨_, rfl⟩;have hl2 : Za w w2 := by rw [hw2]; exact ((Za.refl w).alloc _).alloc _
 have HV2 := zh (show w2.heap[w.heap.size]? = some (.cells (VC6 v).toArray 34 (0, 0)) by rw [hw2]; exact ((Za.refl _).alloc _).block w.heap.size (by simp) |>.trans (heap_alloc_new w _));have HR2 := zh (show w2.heap[w.heap.size + 1]? = some (.cells #[.int .i64 0, .int .i64 0, .int .i64 0, .string ⟨#[]⟩, .int .i64 0, .int .i64 0] 34 (0, 0)) by rw [hw2]; exact Za8 (by simp));have HST2 := zh (h.later hl2);have HT2 := zh (Tch.later (P := fun _ => False) hl2);clear hl2 h;go_enter Tryz.func112, Tryz.ntmps112;go_upto_region 1 with (fail);rw [← hw2];clear hw2;obtain ⟨v0, v1, v2, v3, v4, v5⟩ := cz6 HV2.o
 rcases hv.1 with hk | hk
 ·obtain ⟨j, i, hj, hi, hjl, hil, -, hre⟩ := Zfd hv.2 hk;have hx : x = r.aA[j].aJ[i] := hy.trans hre;obtain ⟨AO, cO, hO, hcO, hcmO, hro⟩ := HST2.o.aA;obtain ⟨ob, oo, Ai, ci, Ak, ck, rfl, hFo, hobw, hcs, bP, -⟩ := Z3.objF hro hjl;obtain ⟨ib, io, rfl, hibw, ⟨c0, c1, c2, c3, c4, c5⟩, -⟩ := bP.vat hil;obtain ⟨Ai2, ci2, ei, hci, hcmi, -⟩ := id bP;cases ei;rw [← hx] at c0 c1 c2 c3 c4 c5;have HY := zh (And.intro c0 (And.intro c1 (And.intro c2 (And.intro c3 (And.intro c4 c5)))));have HC := zh hcs.2.2.2.1;have HO := zh hO;have HJ := zh hj;have HI := zh hi;have HK := zh hk;have hjl2 : (j : Int) < (r.aA.length : Int) := by omega
  have hil2 : (i : Int) < (r.aA[j].aJ.length : Int) := by omega
  obtain ⟨L, hL⟩ : ∃ L, r.aA[j].aJ.length = L := ⟨_, rfl⟩;rw [hL] at HC hil2;unfold maxLen at hcmO hcmi;rw [hk] at v0;have t0 := v0;clear hy hx hL hre hcs bP hro hO c0 c1 c2 c3 c4 c5 hFo hj hi hk hv hci hcO;go_upto_region 4 with (fail);refine Zax [13, 14] [] (by kernel_rfl) (fun W hW => ?_);have hlW : Za w2 W := by rw [hW]; exact (Za.refl _).drew
  clear hW;have HV4 := zC hlW HV2;have HR4 := zC hlW HR2;have HST4 := zh (HST2.o.later hlW);have HT4 := zh (HT2.o.la hlW);have HE2 := zh (show W.cell? ⟨B, 2, none⟩ = _ from (hlW.cell _ HST2.o.lt).trans HO.o);have HC3 := zh ((hlW.cell ⟨ob, oo + j * 5 + 3, none⟩ hobw).trans HC.o);have hobW : ob < W.heap.size := Nat.lt_of_lt_of_le hobw hlW.size;have hibW : ib < W.heap.size := Nat.lt_of_lt_of_le hibw hlW.size;have HY0 := zh ((hlW.cell ⟨ib, io + i * 6, none⟩ hibw).trans HY.o.1);have HY1 := zh ((hlW.cell ⟨ib, io + i * 6 + 1, none⟩ hibw).trans HY.o.2.1);have HY2 := zh ((hlW.cell ⟨ib, io + i * 6 + 2, none⟩ hibw).trans HY.o.2.2.1);have HY3 := zh ((hlW.cell ⟨ib, io + i * 6 + 3, none⟩ hibw).trans HY.o.2.2.2.1);have HY4 := zh ((hlW.cell ⟨ib, io + i * 6 + 4, none⟩ hibw).trans HY.o.2.2.2.2.1);have HY5 := zh ((hlW.cell ⟨ib, io + i * 6 + 5, none⟩ hibw).trans HY.o.2.2.2.2.2);clear hlW v0 v1 v2 v3 v4 v5 HO HC HY t0 HV2 HR2 HST2 HT2;refine tU 0 14 (v := ?_) rfl rfl (fun x hx => ?_) ?_;rotate_left
  ·go_simp;first|done|with_reducible rfl
  simp only [Act.put, nA, nB, nC];refine tU 1 15 (v := ?_) rfl rfl (fun x hx => ?_) ?_;rotate_left
  ·go_simp;first|done|with_reducible rfl
  simp only [Act.put, nA, nB, nC];refine tU 2 16 (v := ?_) rfl rfl (fun x hx => ?_) ?_;rotate_left
  ·go_simp;first|done|with_reducible rfl
  simp only [Act.put, nA, nB, nC];refine tU 3 17 (v := ?_) rfl rfl (fun x hx => ?_) ?_;rotate_left
  ·have hxv := (hx.block _ (Zb HV4.o)).trans HV4.o; have v0 := cell_of_row _ w.heap.size 0 _ _ _ hxv; have v1 := cell_of_row _ w.heap.size 1 _ _ _ hxv; have v2 := cell_of_row _ w.heap.size 2 _ _ _ hxv; have v3 := cell_of_row _ w.heap.size 3 _ _ _ hxv; have v4 := cell_of_row _ w.heap.size 4 _ _ _ hxv; have v5 := cell_of_row _ w.heap.size 5 _ _ _ hxv; simp only [nD, nE, nF] at v0 v1 v2 v3 v4 v5; have hxr := (hx.block _ (Zb HR4.o)).trans HR4.o; have r0 := cell_of_row _ (w.heap.size + 1) 0 _ _ _ hxr; have fr0 := frozen_of_row _ (w.heap.size + 1) 0 _ _ hxr; have r1 := cell_of_row _ (w.heap.size + 1) 1 _ _ _ hxr; have fr1 := frozen_of_row _ (w.heap.size + 1) 1 _ _ hxr; have r2 := cell_of_row _ (w.heap.size + 1) 2 _ _ _ hxr; have fr2 := frozen_of_row _ (w.heap.size + 1) 2 _ _ hxr; have r3 := cell_of_row _ (w.heap.size + 1) 3 _ _ _ hxr; have fr3 := frozen_of_row _ (w.heap.size + 1) 3 _ _ hxr; have r4 := cell_of_row _ (w.heap.size + 1) 4 _ _ _ hxr; have fr4 := frozen_of_row _ (w.heap.size + 1) 4 _ _ hxr; have r5 := cell_of_row _ (w.heap.size + 1) 5 _ _ _ hxr; have fr5 := frozen_of_row _ (w.heap.size + 1) 5 _ _ hxr; simp only [nD, nE, nF] at r0 r1 r2 r3 r4 r5; rw [HK.o] at v0; rw [HJ.o] at v1; rw [HI.o] at v2; have x2 := (hx.cell ⟨B, 2, none⟩ HST4.o.lt).trans HE2.o; have c3 := (hx.cell ⟨ob, oo + j * 5 + 3, none⟩ hobW).trans HC3.o; have y0 := (hx.cell ⟨ib, io + i * 6, none⟩ hibW).trans HY0.o; have y1 := (hx.cell ⟨ib, io + i * 6 + 1, none⟩ hibW).trans HY1.o; have y2 := (hx.cell ⟨ib, io + i * 6 + 2, none⟩ hibW).trans HY2.o; have y3 := (hx.cell ⟨ib, io + i * 6 + 3, none⟩ hibW).trans HY3.o; have y4 := (hx.cell ⟨ib, io + i * 6 + 4, none⟩ hibW).trans HY4.o; have y5 := (hx.cell ⟨ib, io + i * 6 + 5, none⟩ hibW).trans HY5.o; go_simp;first|done|with_reducible rfl
  simp only [Act.put, nA, nB, nC];refine tU 4 18 (v := ?_) rfl rfl (fun x hx => ?_) ?_;rotate_left
  ·go_simp;first|done|with_reducible rfl
  simp only [Act.put, nA, nB, nC];refine tU 5 19 (v := ?_) rfl rfl (fun x hx => ?_) ?_;rotate_left
  ·have hxv := (hx.block _ (Zb HV4.o)).trans HV4.o; have v0 := cell_of_row _ w.heap.size 0 _ _ _ hxv; have v1 := cell_of_row _ w.heap.size 1 _ _ _ hxv; have v2 := cell_of_row _ w.heap.size 2 _ _ _ hxv; have v3 := cell_of_row _ w.heap.size 3 _ _ _ hxv; have v4 := cell_of_row _ w.heap.size 4 _ _ _ hxv; have v5 := cell_of_row _ w.heap.size 5 _ _ _ hxv; simp only [nD, nE, nF] at v0 v1 v2 v3 v4 v5; have hxr := (hx.block _ (Zb HR4.o)).trans HR4.o; have r0 := cell_of_row _ (w.heap.size + 1) 0 _ _ _ hxr; have fr0 := frozen_of_row _ (w.heap.size + 1) 0 _ _ hxr; have r1 := cell_of_row _ (w.heap.size + 1) 1 _ _ _ hxr; have fr1 := frozen_of_row _ (w.heap.size + 1) 1 _ _ hxr; have r2 := cell_of_row _ (w.heap.size + 1) 2 _ _ _ hxr; have fr2 := frozen_of_row _ (w.heap.size + 1) 2 _ _ hxr; have r3 := cell_of_row _ (w.heap.size + 1) 3 _ _ _ hxr; have fr3 := frozen_of_row _ (w.heap.size + 1) 3 _ _ hxr; have r4 := cell_of_row _ (w.heap.size + 1) 4 _ _ _ hxr; have fr4 := frozen_of_row _ (w.heap.size + 1) 4 _ _ hxr; have r5 := cell_of_row _ (w.heap.size + 1) 5 _ _ _ hxr; have fr5 := frozen_of_row _ (w.heap.size + 1) 5 _ _ hxr; simp only [nD, nE, nF] at r0 r1 r2 r3 r4 r5; rw [HK.o] at v0; rw [HJ.o] at v1; rw [HI.o] at v2; have x2 := (hx.cell ⟨B, 2, none⟩ HST4.o.lt).trans HE2.o; have c3 := (hx.cell ⟨ob, oo + j * 5 + 3, none⟩ hobW).trans HC3.o; have y0 := (hx.cell ⟨ib, io + i * 6, none⟩ hibW).trans HY0.o; have y1 := (hx.cell ⟨ib, io + i * 6 + 1, none⟩ hibW).trans HY1.o; have y2 := (hx.cell ⟨ib, io + i * 6 + 2, none⟩ hibW).trans HY2.o; have y3 := (hx.cell ⟨ib, io + i * 6 + 3, none⟩ hibW).trans HY3.o; have y4 := (hx.cell ⟨ib, io + i * 6 + 4, none⟩ hibW).trans HY4.o; have y5 := (hx.cell ⟨ib, io + i * 6 + 5, none⟩ hibW).trans HY5.o; go_simp;first|done|with_reducible rfl
  simp only [Act.put, nA, nB, nC];refine tU 6 20 (v := ?_) rfl rfl (fun x hx => ?_) ?_;rotate_left
  ·go_simp;first|done|with_reducible rfl|rw[if_neg (by omega)]|rw[if_pos (by omega)]
  simp only [Act.put, nA, nB, nC];refine tU 7 21 (v := ?_) rfl rfl (fun x hx => ?_) ?_;rotate_left
  ·go_simp;first|done|with_reducible rfl
  simp only [Act.put, nA, nB, nC];refine tU 8 22 (v := ?_) rfl rfl (fun x hx => ?_) ?_;rotate_left
  ·have hxv := (hx.block _ (Zb HV4.o)).trans HV4.o; have v0 := cell_of_row _ w.heap.size 0 _ _ _ hxv; have v1 := cell_of_row _ w.heap.size 1 _ _ _ hxv; have v2 := cell_of_row _ w.heap.size 2 _ _ _ hxv; have v3 := cell_of_row _ w.heap.size 3 _ _ _ hxv; have v4 := cell_of_row _ w.heap.size 4 _ _ _ hxv; have v5 := cell_of_row _ w.heap.size 5 _ _ _ hxv; simp only [nD, nE, nF] at v0 v1 v2 v3 v4 v5; have hxr := (hx.block _ (Zb HR4.o)).trans HR4.o; have r0 := cell_of_row _ (w.heap.size + 1) 0 _ _ _ hxr; have fr0 := frozen_of_row _ (w.heap.size + 1) 0 _ _ hxr; have r1 := cell_of_row _ (w.heap.size + 1) 1 _ _ _ hxr; have fr1 := frozen_of_row _ (w.heap.size + 1) 1 _ _ hxr; have r2 := cell_of_row _ (w.heap.size + 1) 2 _ _ _ hxr; have fr2 := frozen_of_row _ (w.heap.size + 1) 2 _ _ hxr; have r3 := cell_of_row _ (w.heap.size + 1) 3 _ _ _ hxr; have fr3 := frozen_of_row _ (w.heap.size + 1) 3 _ _ hxr; have r4 := cell_of_row _ (w.heap.size + 1) 4 _ _ _ hxr; have fr4 := frozen_of_row _ (w.heap.size + 1) 4 _ _ hxr; have r5 := cell_of_row _ (w.heap.size + 1) 5 _ _ _ hxr; have fr5 := frozen_of_row _ (w.heap.size + 1) 5 _ _ hxr; simp only [nD, nE, nF] at r0 r1 r2 r3 r4 r5; rw [HK.o] at v0; rw [HJ.o] at v1; rw [HI.o] at v2; have x2 := (hx.cell ⟨B, 2, none⟩ HST4.o.lt).trans HE2.o; have c3 := (hx.cell ⟨ob, oo + j * 5 + 3, none⟩ hobW).trans HC3.o; have y0 := (hx.cell ⟨ib, io + i * 6, none⟩ hibW).trans HY0.o; have y1 := (hx.cell ⟨ib, io + i * 6 + 1, none⟩ hibW).trans HY1.o; have y2 := (hx.cell ⟨ib, io + i * 6 + 2, none⟩ hibW).trans HY2.o; have y3 := (hx.cell ⟨ib, io + i * 6 + 3, none⟩ hibW).trans HY3.o; have y4 := (hx.cell ⟨ib, io + i * 6 + 4, none⟩ hibW).trans HY4.o; have y5 := (hx.cell ⟨ib, io + i * 6 + 5, none⟩ hibW).trans HY5.o; go_simp;first|done|with_reducible rfl
  simp only [Act.put, nA, nB, nC];refine tU 9 23 (v := ?_) rfl rfl (fun x hx => ?_) ?_;rotate_left
  ·go_simp;first|done|with_reducible rfl
  simp only [Act.put, nA, nB, nC];refine tU 10 24 (v := ?_) rfl rfl (fun x hx => ?_) ?_;rotate_left
  ·have hxv := (hx.block _ (Zb HV4.o)).trans HV4.o; have v0 := cell_of_row _ w.heap.size 0 _ _ _ hxv; have v1 := cell_of_row _ w.heap.size 1 _ _ _ hxv; have v2 := cell_of_row _ w.heap.size 2 _ _ _ hxv; have v3 := cell_of_row _ w.heap.size 3 _ _ _ hxv; have v4 := cell_of_row _ w.heap.size 4 _ _ _ hxv; have v5 := cell_of_row _ w.heap.size 5 _ _ _ hxv; simp only [nD, nE, nF] at v0 v1 v2 v3 v4 v5; have hxr := (hx.block _ (Zb HR4.o)).trans HR4.o; have r0 := cell_of_row _ (w.heap.size + 1) 0 _ _ _ hxr; have fr0 := frozen_of_row _ (w.heap.size + 1) 0 _ _ hxr; have r1 := cell_of_row _ (w.heap.size + 1) 1 _ _ _ hxr; have fr1 := frozen_of_row _ (w.heap.size + 1) 1 _ _ hxr; have r2 := cell_of_row _ (w.heap.size + 1) 2 _ _ _ hxr; have fr2 := frozen_of_row _ (w.heap.size + 1) 2 _ _ hxr; have r3 := cell_of_row _ (w.heap.size + 1) 3 _ _ _ hxr; have fr3 := frozen_of_row _ (w.heap.size + 1) 3 _ _ hxr; have r4 := cell_of_row _ (w.heap.size + 1) 4 _ _ _ hxr; have fr4 := frozen_of_row _ (w.heap.size + 1) 4 _ _ hxr; have r5 := cell_of_row _ (w.heap.size + 1) 5 _ _ _ hxr; have fr5 := frozen_of_row _ (w.heap.size + 1) 5 _ _ hxr; simp only [nD, nE, nF] at r0 r1 r2 r3 r4 r5; rw [HK.o] at v0; rw [HJ.o] at v1; rw [HI.o] at v2; have x2 := (hx.cell ⟨B, 2, none⟩ HST4.o.lt).trans HE2.o; have c3 := (hx.cell ⟨ob, oo + j * 5 + 3, none⟩ hobW).trans HC3.o; have y0 := (hx.cell ⟨ib, io + i * 6, none⟩ hibW).trans HY0.o; have y1 := (hx.cell ⟨ib, io + i * 6 + 1, none⟩ hibW).trans HY1.o; have y2 := (hx.cell ⟨ib, io + i * 6 + 2, none⟩ hibW).trans HY2.o; have y3 := (hx.cell ⟨ib, io + i * 6 + 3, none⟩ hibW).trans HY3.o; have y4 := (hx.cell ⟨ib, io + i * 6 + 4, none⟩ hibW).trans HY4.o; have y5 := (hx.cell ⟨ib, io + i * 6 + 5, none⟩ hibW).trans HY5.o; go_simp;first|done|with_reducible rfl
  simp only [Act.put, nA, nB, nC];refine tU 11 25 (v := ?_) rfl rfl (fun x hx => ?_) ?_;rotate_left
  ·go_simp;first|done|with_reducible rfl|rw[if_neg (by omega)]|rw[if_pos (by omega)]
  simp only [Act.put, nA, nB, nC];refine tU 12 26 (v := ?_) rfl rfl (fun x hx => ?_) ?_;rotate_left
  ·have hxv := (hx.block _ (Zb HV4.o)).trans HV4.o; have v0 := cell_of_row _ w.heap.size 0 _ _ _ hxv; have v1 := cell_of_row _ w.heap.size 1 _ _ _ hxv; have v2 := cell_of_row _ w.heap.size 2 _ _ _ hxv; have v3 := cell_of_row _ w.heap.size 3 _ _ _ hxv; have v4 := cell_of_row _ w.heap.size 4 _ _ _ hxv; have v5 := cell_of_row _ w.heap.size 5 _ _ _ hxv; simp only [nD, nE, nF] at v0 v1 v2 v3 v4 v5; have hxr := (hx.block _ (Zb HR4.o)).trans HR4.o; have r0 := cell_of_row _ (w.heap.size + 1) 0 _ _ _ hxr; have fr0 := frozen_of_row _ (w.heap.size + 1) 0 _ _ hxr; have r1 := cell_of_row _ (w.heap.size + 1) 1 _ _ _ hxr; have fr1 := frozen_of_row _ (w.heap.size + 1) 1 _ _ hxr; have r2 := cell_of_row _ (w.heap.size + 1) 2 _ _ _ hxr; have fr2 := frozen_of_row _ (w.heap.size + 1) 2 _ _ hxr; have r3 := cell_of_row _ (w.heap.size + 1) 3 _ _ _ hxr; have fr3 := frozen_of_row _ (w.heap.size + 1) 3 _ _ hxr; have r4 := cell_of_row _ (w.heap.size + 1) 4 _ _ _ hxr; have fr4 := frozen_of_row _ (w.heap.size + 1) 4 _ _ hxr; have r5 := cell_of_row _ (w.heap.size + 1) 5 _ _ _ hxr; have fr5 := frozen_of_row _ (w.heap.size + 1) 5 _ _ hxr; simp only [nD, nE, nF] at r0 r1 r2 r3 r4 r5; rw [HK.o] at v0; rw [HJ.o] at v1; rw [HI.o] at v2; have x2 := (hx.cell ⟨B, 2, none⟩ HST4.o.lt).trans HE2.o; have c3 := (hx.cell ⟨ob, oo + j * 5 + 3, none⟩ hobW).trans HC3.o; have y0 := (hx.cell ⟨ib, io + i * 6, none⟩ hibW).trans HY0.o; have y1 := (hx.cell ⟨ib, io + i * 6 + 1, none⟩ hibW).trans HY1.o; have y2 := (hx.cell ⟨ib, io + i * 6 + 2, none⟩ hibW).trans HY2.o; have y3 := (hx.cell ⟨ib, io + i * 6 + 3, none⟩ hibW).trans HY3.o; have y4 := (hx.cell ⟨ib, io + i * 6 + 4, none⟩ hibW).trans HY4.o; have y5 := (hx.cell ⟨ib, io + i * 6 + 5, none⟩ hibW).trans HY5.o; go_simp;first|done|with_reducible rfl
  simp only [Act.put, nA, nB, nC];refine Za7 [_, _] (by kernel_rfl) rfl rfl ?_;simp only [List.getElem_toArray, List.getElem_cons_succ, List.getElem_cons_zero];obtain ⟨r0, r1, r2, r3, r4, r5⟩ := cz6 HR4.o;have fr0 := fz HR4.o;go_wp2_with fail;have hvs := Zaf (F := fun b => b ≠ w.heap.size + 1) (B := w.heap.size + 1) (w := W) (fun h => h rfl) [.int .i64 x.kind, .int .i64 x.aH, .int .i64 x.index, .string x.text, .int .i64 x.set_.low, .int .i64 x.set_.high] W 0 (Ze.refl _ _);have ht := HT4.o.trans (Q := fun b => b = w.heap.size + 1) (R := fun _ => False) ⟨hvs, Zae (Nat.zero_le _) [.int .i64 x.kind, .int .i64 x.aH, .int .i64 x.index, .string x.text, .int .i64 x.set_.low, .int .i64 x.set_.high] _ 0 (Below.refl _ _)⟩ (fun _ h => h) (fun b hl e => by omega);simp only [Zz, Nat.zero_add, Nat.reduceAdd] at ht;exact bodyPost_ret (v := .tuple #[.agg #[.int .i64 x.kind, .int .i64 x.aH, .int .i64 x.index, .string x.text, .int .i64 x.set_.low, .int .i64 x.set_.high], .int .i64 0]) (by simp [results, Tryz.results112, go_sem, r0, r1, r2, r3, r4, r5, fr0]) rfl ⟨rfl, ht⟩
 ·obtain ⟨i, hi, hil, hre⟩ := Zex hv.2 hk;have hx : x = r.globals[i] := hy.trans hre;obtain ⟨AO, cO, hO, hcO, hcmO, hro⟩ := HST2.o.globals;obtain ⟨ib, io, rfl, hibw, ⟨c0, c1, c2, c3, c4, c5⟩, -⟩ := hro.vat hil;rw [← hx] at c0 c1 c2 c3 c4 c5;have HY := zh (And.intro c0 (And.intro c1 (And.intro c2 (And.intro c3 (And.intro c4 c5)))));have HO := zh hO;have HI := zh hi;have HK := zh hk;have hil2 : (i : Int) < (r.globals.length : Int) := by omega
  unfold maxLen at hcmO;rw [hk] at v0;have t0 := v0;clear hy hx hre hro hO c0 c1 c2 c3 c4 c5 hi hk hv hcO;go_upto_region 6 with (fail);refine Zax [8, 9] [] (by kernel_rfl) (fun W hW => ?_);have hlW : Za w2 W := by rw [hW]; exact (Za.refl _).drew
  clear hW;have HV4 := zC hlW HV2;have HR4 := zC hlW HR2;have HST4 := zh (HST2.o.later hlW);have HT4 := zh (HT2.o.la hlW);have HE2 := zh (show W.cell? ⟨B, 3, none⟩ = _ from (hlW.cell _ HST2.o.lt).trans HO.o);have hibW : ib < W.heap.size := Nat.lt_of_lt_of_le hibw hlW.size;have HY0 := zh ((hlW.cell ⟨ib, io + i * 6, none⟩ hibw).trans HY.o.1);have HY1 := zh ((hlW.cell ⟨ib, io + i * 6 + 1, none⟩ hibw).trans HY.o.2.1);have HY2 := zh ((hlW.cell ⟨ib, io + i * 6 + 2, none⟩ hibw).trans HY.o.2.2.1);have HY3 := zh ((hlW.cell ⟨ib, io + i * 6 + 3, none⟩ hibw).trans HY.o.2.2.2.1);have HY4 := zh ((hlW.cell ⟨ib, io + i * 6 + 4, none⟩ hibw).trans HY.o.2.2.2.2.1);have HY5 := zh ((hlW.cell ⟨ib, io + i * 6 + 5, none⟩ hibw).trans HY.o.2.2.2.2.2);clear hlW v0 v1 v2 v3 v4 v5 HO HY t0 HV2 HR2 HST2 HT2;refine tU 0 29 (v := ?_) rfl rfl (fun x hx => ?_) ?_;rotate_left
  ·go_simp;first|done|with_reducible rfl
  simp only [Act.put, nA, nB, nC];refine tU 1 30 (v := ?_) rfl rfl (fun x hx => ?_) ?_;rotate_left
  ·go_simp;first|done|with_reducible rfl
  simp only [Act.put, nA, nB, nC];refine tU 2 31 (v := ?_) rfl rfl (fun x hx => ?_) ?_;rotate_left
  ·go_simp;first|done|with_reducible rfl
  simp only [Act.put, nA, nB, nC];refine tU 3 32 (v := ?_) rfl rfl (fun x hx => ?_) ?_;rotate_left
  ·have hxv := (hx.block _ (Zb HV4.o)).trans HV4.o; have v0 := cell_of_row _ w.heap.size 0 _ _ _ hxv; have v1 := cell_of_row _ w.heap.size 1 _ _ _ hxv; have v2 := cell_of_row _ w.heap.size 2 _ _ _ hxv; have v3 := cell_of_row _ w.heap.size 3 _ _ _ hxv; have v4 := cell_of_row _ w.heap.size 4 _ _ _ hxv; have v5 := cell_of_row _ w.heap.size 5 _ _ _ hxv; simp only [nD, nE, nF] at v0 v1 v2 v3 v4 v5; have hxr := (hx.block _ (Zb HR4.o)).trans HR4.o; have r0 := cell_of_row _ (w.heap.size + 1) 0 _ _ _ hxr; have fr0 := frozen_of_row _ (w.heap.size + 1) 0 _ _ hxr; have r1 := cell_of_row _ (w.heap.size + 1) 1 _ _ _ hxr; have fr1 := frozen_of_row _ (w.heap.size + 1) 1 _ _ hxr; have r2 := cell_of_row _ (w.heap.size + 1) 2 _ _ _ hxr; have fr2 := frozen_of_row _ (w.heap.size + 1) 2 _ _ hxr; have r3 := cell_of_row _ (w.heap.size + 1) 3 _ _ _ hxr; have fr3 := frozen_of_row _ (w.heap.size + 1) 3 _ _ hxr; have r4 := cell_of_row _ (w.heap.size + 1) 4 _ _ _ hxr; have fr4 := frozen_of_row _ (w.heap.size + 1) 4 _ _ hxr; have r5 := cell_of_row _ (w.heap.size + 1) 5 _ _ _ hxr; have fr5 := frozen_of_row _ (w.heap.size + 1) 5 _ _ hxr; simp only [nD, nE, nF] at r0 r1 r2 r3 r4 r5; rw [HK.o] at v0; rw [HI.o] at v2; have x2 := (hx.cell ⟨B, 3, none⟩ HST4.o.lt).trans HE2.o; have y0 := (hx.cell ⟨ib, io + i * 6, none⟩ hibW).trans HY0.o; have y1 := (hx.cell ⟨ib, io + i * 6 + 1, none⟩ hibW).trans HY1.o; have y2 := (hx.cell ⟨ib, io + i * 6 + 2, none⟩ hibW).trans HY2.o; have y3 := (hx.cell ⟨ib, io + i * 6 + 3, none⟩ hibW).trans HY3.o; have y4 := (hx.cell ⟨ib, io + i * 6 + 4, none⟩ hibW).trans HY4.o; have y5 := (hx.cell ⟨ib, io + i * 6 + 5, none⟩ hibW).trans HY5.o; go_simp;first|done|with_reducible rfl
  simp only [Act.put, nA, nB, nC];refine tU 4 33 (v := ?_) rfl rfl (fun x hx => ?_) ?_;rotate_left
  ·go_simp;first|done|with_reducible rfl
  simp only [Act.put, nA, nB, nC];refine tU 5 34 (v := ?_) rfl rfl (fun x hx => ?_) ?_;rotate_left
  ·have hxv := (hx.block _ (Zb HV4.o)).trans HV4.o; have v0 := cell_of_row _ w.heap.size 0 _ _ _ hxv; have v1 := cell_of_row _ w.heap.size 1 _ _ _ hxv; have v2 := cell_of_row _ w.heap.size 2 _ _ _ hxv; have v3 := cell_of_row _ w.heap.size 3 _ _ _ hxv; have v4 := cell_of_row _ w.heap.size 4 _ _ _ hxv; have v5 := cell_of_row _ w.heap.size 5 _ _ _ hxv; simp only [nD, nE, nF] at v0 v1 v2 v3 v4 v5; have hxr := (hx.block _ (Zb HR4.o)).trans HR4.o; have r0 := cell_of_row _ (w.heap.size + 1) 0 _ _ _ hxr; have fr0 := frozen_of_row _ (w.heap.size + 1) 0 _ _ hxr; have r1 := cell_of_row _ (w.heap.size + 1) 1 _ _ _ hxr; have fr1 := frozen_of_row _ (w.heap.size + 1) 1 _ _ hxr; have r2 := cell_of_row _ (w.heap.size + 1) 2 _ _ _ hxr; have fr2 := frozen_of_row _ (w.heap.size + 1) 2 _ _ hxr; have r3 := cell_of_row _ (w.heap.size + 1) 3 _ _ _ hxr; have fr3 := frozen_of_row _ (w.heap.size + 1) 3 _ _ hxr; have r4 := cell_of_row _ (w.heap.size + 1) 4 _ _ _ hxr; have fr4 := frozen_of_row _ (w.heap.size + 1) 4 _ _ hxr; have r5 := cell_of_row _ (w.heap.size + 1) 5 _ _ _ hxr; have fr5 := frozen_of_row _ (w.heap.size + 1) 5 _ _ hxr; simp only [nD, nE, nF] at r0 r1 r2 r3 r4 r5; rw [HK.o] at v0; rw [HI.o] at v2; have x2 := (hx.cell ⟨B, 3, none⟩ HST4.o.lt).trans HE2.o; have y0 := (hx.cell ⟨ib, io + i * 6, none⟩ hibW).trans HY0.o; have y1 := (hx.cell ⟨ib, io + i * 6 + 1, none⟩ hibW).trans HY1.o; have y2 := (hx.cell ⟨ib, io + i * 6 + 2, none⟩ hibW).trans HY2.o; have y3 := (hx.cell ⟨ib, io + i * 6 + 3, none⟩ hibW).trans HY3.o; have y4 := (hx.cell ⟨ib, io + i * 6 + 4, none⟩ hibW).trans HY4.o; have y5 := (hx.cell ⟨ib, io + i * 6 + 5, none⟩ hibW).trans HY5.o; go_simp;first|done|with_reducible rfl
  simp only [Act.put, nA, nB, nC];refine tU 6 35 (v := ?_) rfl rfl (fun x hx => ?_) ?_;rotate_left
  ·go_simp;first|done|with_reducible rfl|rw[if_neg (by omega)]|rw[if_pos (by omega)]
  simp only [Act.put, nA, nB, nC];refine tU 7 36 (v := ?_) rfl rfl (fun x hx => ?_) ?_;rotate_left
  ·have hxv := (hx.block _ (Zb HV4.o)).trans HV4.o; have v0 := cell_of_row _ w.heap.size 0 _ _ _ hxv; have v1 := cell_of_row _ w.heap.size 1 _ _ _ hxv; have v2 := cell_of_row _ w.heap.size 2 _ _ _ hxv; have v3 := cell_of_row _ w.heap.size 3 _ _ _ hxv; have v4 := cell_of_row _ w.heap.size 4 _ _ _ hxv; have v5 := cell_of_row _ w.heap.size 5 _ _ _ hxv; simp only [nD, nE, nF] at v0 v1 v2 v3 v4 v5; have hxr := (hx.block _ (Zb HR4.o)).trans HR4.o; have r0 := cell_of_row _ (w.heap.size + 1) 0 _ _ _ hxr; have fr0 := frozen_of_row _ (w.heap.size + 1) 0 _ _ hxr; have r1 := cell_of_row _ (w.heap.size + 1) 1 _ _ _ hxr; have fr1 := frozen_of_row _ (w.heap.size + 1) 1 _ _ hxr; have r2 := cell_of_row _ (w.heap.size + 1) 2 _ _ _ hxr; have fr2 := frozen_of_row _ (w.heap.size + 1) 2 _ _ hxr; have r3 := cell_of_row _ (w.heap.size + 1) 3 _ _ _ hxr; have fr3 := frozen_of_row _ (w.heap.size + 1) 3 _ _ hxr; have r4 := cell_of_row _ (w.heap.size + 1) 4 _ _ _ hxr; have fr4 := frozen_of_row _ (w.heap.size + 1) 4 _ _ hxr; have r5 := cell_of_row _ (w.heap.size + 1) 5 _ _ _ hxr; have fr5 := frozen_of_row _ (w.heap.size + 1) 5 _ _ hxr; simp only [nD, nE, nF] at r0 r1 r2 r3 r4 r5; rw [HK.o] at v0; rw [HI.o] at v2; have x2 := (hx.cell ⟨B, 3, none⟩ HST4.o.lt).trans HE2.o; have y0 := (hx.cell ⟨ib, io + i * 6, none⟩ hibW).trans HY0.o; have y1 := (hx.cell ⟨ib, io + i * 6 + 1, none⟩ hibW).trans HY1.o; have y2 := (hx.cell ⟨ib, io + i * 6 + 2, none⟩ hibW).trans HY2.o; have y3 := (hx.cell ⟨ib, io + i * 6 + 3, none⟩ hibW).trans HY3.o; have y4 := (hx.cell ⟨ib, io + i * 6 + 4, none⟩ hibW).trans HY4.o; have y5 := (hx.cell ⟨ib, io + i * 6 + 5, none⟩ hibW).trans HY5.o; go_simp;first|done|with_reducible rfl
  simp only [Act.put, nA, nB, nC];refine Za7 [_, _] (by kernel_rfl) rfl rfl ?_;simp only [List.getElem_toArray, List.getElem_cons_succ, List.getElem_cons_zero];obtain ⟨r0, r1, r2, r3, r4, r5⟩ := cz6 HR4.o;have fr0 := fz HR4.o;go_wp2_with fail;have hvs := Zaf (F := fun b => b ≠ w.heap.size + 1) (B := w.heap.size + 1) (w := W) (fun h => h rfl) [.int .i64 x.kind, .int .i64 x.aH, .int .i64 x.index, .string x.text, .int .i64 x.set_.low, .int .i64 x.set_.high] W 0 (Ze.refl _ _);have ht := HT4.o.trans (Q := fun b => b = w.heap.size + 1) (R := fun _ => False) ⟨hvs, Zae (Nat.zero_le _) [.int .i64 x.kind, .int .i64 x.aH, .int .i64 x.index, .string x.text, .int .i64 x.set_.low, .int .i64 x.set_.high] _ 0 (Below.refl _ _)⟩ (fun _ h => h) (fun b hl e => by omega);simp only [Zz, Nat.zero_add, Nat.reduceAdd] at ht;exact bodyPost_ret (v := .tuple #[.agg #[.int .i64 x.kind, .int .i64 x.aH, .int .i64 x.index, .string x.text, .int .i64 x.set_.low, .int .i64 x.set_.high], .int .i64 0]) (by simp [results, Tryz.results112, go_sem, r0, r1, r2, r3, r4, r5, fr0]) rfl ⟨rfl, ht⟩
end Go.Proofs.YtpmhelkiicigfaaGreatDoor
namespace Go.Proofs.YtpmhelkiicigfaaGreatDoor
open Go.RowKit
set_option maxRecDepth 1000000
def Zhm (B BB RB PB : Nat) (v10 v11 v12 : Value) (a : Act) : Prop := Fr 83 [(0, .pointer (some ⟨B, 0, none⟩)), (4, .pointer (some ⟨RB, 0, none⟩)), (8, .pointer (some ⟨BB, 0, none⟩)), (9, .pointer (some ⟨PB, 0, none⟩)), (10, v10), (11, v11), (12, v12)] a
section
variable {B BB RB PB : Nat} {v10 v11 v12 : Value} {a : Act}
theorem Zhm.opn (h : Zhm B BB RB PB v10 v11 v12 a) : ∃ f : Nat → Value, a = ⟨#[.pointer (some ⟨B, 0, none⟩), f 1, f 2, f 3, .pointer (some ⟨RB, 0, none⟩), f 5, f 6, f 7, .pointer (some ⟨BB, 0, none⟩), .pointer (some ⟨PB, 0, none⟩), v10, v11, v12, f 13, f 14, f 15, f 16, f 17, f 18, f 19, f 20, f 21, f 22, f 23, f 24, f 25, f 26, f 27, f 28, f 29, f 30, f 31, f 32, f 33, f 34, f 35, f 36, f 37, f 38, f 39, f 40, f 41, f 42, f 43, f 44, f 45, f 46, f 47, f 48, f 49, f 50, f 51, f 52, f 53, f 54, f 55, f 56, f 57, f 58, f 59, f 60, f 61, f 62, f 63, f 64, f 65, f 66, f 67, f 68, f 69, f 70, f 71, f 72, f 73, f 74, f 75, f 76, f 77, f 78, f 79, f 80, f 81, f 82], []⟩ := by
 obtain ⟨f, e, hf⟩ := Fr.lit h;obtain ⟨h0, h4, h8, h9, h10, h11, h12, -⟩ := h.has;refine ⟨f, e.trans ?_⟩;have k0 := Zb8 h0 (hf 0 (by omega));have k4 := Zb8 h4 (hf 4 (by omega));have k8 := Zb8 h8 (hf 8 (by omega));have k9 := Zb8 h9 (hf 9 (by omega));have k10 := Zb8 h10 (hf 10 (by omega));have k11 := Zb8 h11 (hf 11 (by omega));have k12 := Zb8 h12 (hf 12 (by omega));rw [← k0];rw [← k4];rw [← k8];rw [← k9];rw [← k10];rw [← k11];rw [← k12]
 rfl
theorem Zhm.mk' {A : Array Value} (hs : A.size = 83) (h0 : A[0]? = some (.pointer (some ⟨B, 0, none⟩))) (h4 : A[4]? = some (.pointer (some ⟨RB, 0, none⟩))) (h8 : A[8]? = some (.pointer (some ⟨BB, 0, none⟩))) (h9 : A[9]? = some (.pointer (some ⟨PB, 0, none⟩))) (h10 : A[10]? = some (v10)) (h11 : A[11]? = some (v11)) (h12 : A[12]? = some (v12)) : Zhm B BB RB PB v10 v11 v12 ⟨A, []⟩ := ⟨hs, rfl, h0, h4, h8, h9, h10, h11, h12, trivial⟩
end
def Zhn (B BB RB PB : Nat) (v10 v11 v12 : Value) (a : Act) : Prop := Fr 61 [(0, .pointer (some ⟨B, 0, none⟩)), (4, .pointer (some ⟨RB, 0, none⟩)), (8, .pointer (some ⟨BB, 0, none⟩)), (9, .pointer (some ⟨PB, 0, none⟩)), (10, v10), (11, v11), (12, v12)] a
section
variable {B BB RB PB : Nat} {v10 v11 v12 : Value} {a : Act}
theorem Zhn.opn (h : Zhn B BB RB PB v10 v11 v12 a) : ∃ f : Nat → Value, a = ⟨#[.pointer (some ⟨B, 0, none⟩), f 1, f 2, f 3, .pointer (some ⟨RB, 0, none⟩), f 5, f 6, f 7, .pointer (some ⟨BB, 0, none⟩), .pointer (some ⟨PB, 0, none⟩), v10, v11, v12, f 13, f 14, f 15, f 16, f 17, f 18, f 19, f 20, f 21, f 22, f 23, f 24, f 25, f 26, f 27, f 28, f 29, f 30, f 31, f 32, f 33, f 34, f 35, f 36, f 37, f 38, f 39, f 40, f 41, f 42, f 43, f 44, f 45, f 46, f 47, f 48, f 49, f 50, f 51, f 52, f 53, f 54, f 55, f 56, f 57, f 58, f 59, f 60], []⟩ := by
 obtain ⟨f, e, hf⟩ := Fr.lit h;obtain ⟨h0, h4, h8, h9, h10, h11, h12, -⟩ := h.has;refine ⟨f, e.trans ?_⟩;have k0 := Zb8 h0 (hf 0 (by omega));have k4 := Zb8 h4 (hf 4 (by omega));have k8 := Zb8 h8 (hf 8 (by omega));have k9 := Zb8 h9 (hf 9 (by omega));have k10 := Zb8 h10 (hf 10 (by omega));have k11 := Zb8 h11 (hf 11 (by omega));have k12 := Zb8 h12 (hf 12 (by omega));rw [← k0];rw [← k4];rw [← k8];rw [← k9];rw [← k10];rw [← k11];rw [← k12]
 rfl
theorem Zhn.mk' {A : Array Value} (hs : A.size = 61) (h0 : A[0]? = some (.pointer (some ⟨B, 0, none⟩))) (h4 : A[4]? = some (.pointer (some ⟨RB, 0, none⟩))) (h8 : A[8]? = some (.pointer (some ⟨BB, 0, none⟩))) (h9 : A[9]? = some (.pointer (some ⟨PB, 0, none⟩))) (h10 : A[10]? = some (v10)) (h11 : A[11]? = some (v11)) (h12 : A[12]? = some (v12)) : Zhn B BB RB PB v10 v11 v12 ⟨A, []⟩ := ⟨hs, rfl, h0, h4, h8, h9, h10, h11, h12, trivial⟩
end
noncomputable def ofBkI : Code := cL (cR (cB (cB (cR (cL (cR (cR (cR (cR (Zfj Tryz.f66))))))))))
noncomputable def ofKdI : Code := cR (cR (cR (cB (cL (cR (cB (cB (cR (cL (cR (cR (cR (cR (Zfj Tryz.f66))))))))))))))
noncomputable def ofLpI : Code := cR (cL (cR (cR (cR (cR (Zfj Tryz.f66))))))
/-- The state at the head of the loop. -/
def Zw3 (w0 : World) (B BB RB PB : Nat) (r : Zf) (T : Zf8) (p : Zaj) (pcs : List Value) (i : Nat) (a : Act) (w : World) : Prop :=
 ∃ v12 ds vars n code vv vd G H Hv, Zhm B BB RB PB vd (.int .i64 i) v12 a ∧ OfS w0 B BB RB PB 159 r T w p i ds vars n code vv vd pcs G H Hv
def Zxe (w0 : World) (B BB RB PB : Nat) (r : Zf) (T : Zf8) (p : Zaj) (pcs : List Value) (a : Act) (w : World) : Prop :=
 ∃ (i : Nat) (v12 : Value) (ds : List Zaj) (vars : List Zd) (n : Nat) (code : Int) (vv vd : Value) (G H Hv : Nat → Prop), Zhm B BB RB PB vd (.int .i64 i) v12 a ∧ OfS w0 B BB RB PB 159 r T w p i ds vars n code vv vd pcs G H Hv ∧ (code ≠ 0 ∨ ¬ i < vars.length)
noncomputable def ofBkS : Code := cL (cR (cB (cB (cR (cL (cR (cR (cR (cR (Zfj Tryz.f59))))))))))
noncomputable def ofKdS : Code := cR (cR (cB (cL (cR (cB (cB (cR (cL (cR (cR (cR (cR (Zfj Tryz.f59)))))))))))))
noncomputable def ofLpS : Code := cR (cL (cR (cR (cR (cR (Zfj Tryz.f59))))))
/-- The state at the head of the loop. -/
def Zw4 (w0 : World) (B BB RB PB : Nat) (r : Zf) (T : Zf8) (p : Zaj) (pcs : List Value) (i : Nat) (a : Act) (w : World) : Prop :=
 ∃ v12 ds vars n code vv vd G H Hv, Zhn B BB RB PB vd (.int .i64 i) v12 a ∧ OfS w0 B BB RB PB 148 r T w p i ds vars n code vv vd pcs G H Hv
def Zxf (w0 : World) (B BB RB PB : Nat) (r : Zf) (T : Zf8) (p : Zaj) (pcs : List Value) (a : Act) (w : World) : Prop :=
 ∃ (i : Nat) (v12 : Value) (ds : List Zaj) (vars : List Zd) (n : Nat) (code : Int) (vv vd : Value) (G H Hv : Nat → Prop), Zhn B BB RB PB vd (.int .i64 i) v12 a ∧ OfS w0 B BB RB PB 148 r T w p i ds vars n code vv vd pcs G H Hv ∧ (code ≠ 0 ∨ ¬ i < vars.length)
end Go.Proofs.YtpmhelkiicigfaaGreatDoor
namespace Go.Proofs.YtpmhelkiicigfaaGreatDoor
open Go.RowKit
set_option maxRecDepth 1000000
set_option maxHeartbeats 4000000
theorem Zsb : (Tryz.prog.info? Zbc).map (fun i => (i.zero, i.size, i.bytes)) = some (some (.agg #[.int .i64 0, .string ⟨#[]⟩, .int .i64 0, .int .i64 0, .int .i64 0, .slice none 0 0]), 6, 72) := by kernel_rfl
set_option maxRecDepth 1000000
set_option maxHeartbeats 4000000
theorem Zsc {a : Act} {w : World} (w0 : World) (B BB RB PB : Nat) (r : Zf) (T : Zf8) (p : Zaj) (pcs : List Value) (cs : List Value) (F : Nat → Prop) (hok : Zap r = true) (hol : r.aA.length ≤ 1048576) (HST : Hd (Z3 F w0 B r cs)) (HFA : Hd (∀ b, F b → b < w0.heap.size)) (HII : Hd (∀ x, Tch (fun _ => False) w0 x → Pw x)) (i n : Nat) (ds : List Zaj) (vars : List Zd) (vv vd v12 : Value) (G H Hv : Nat → Prop) (hi : i < vars.length) (HF : Hd (Zhm B BB RB PB vd (.int .i64 i) v12 a)) (HS : Hd (OfS w0 B BB RB PB 159 r T w p i ds vars n 0 vv vd pcs G H Hv)) :
  ofBkI.wp Tryz.prog (Zjm (fun a w => ∃ v10 v12, Zhm B BB RB PB v10 (.int .i64 i) v12 a ∧ ∃ ds' vars' n' code' vv' G' Hv', OfS w0 B BB RB PB 159 r T w p (i + 1) ds' vars' n' code' vv' v10 pcs G' H Hv')) a w := by
 obtain ⟨fr, rfl⟩ := HF.o.opn;clear HF
 conv => arg 2; whnf
 obtain ⟨iP, hiP, hzP0, hzP1, hzP2⟩ := info_parts Zsb;obtain ⟨Av, cv, rfl, -⟩ := id HS.o.bu.row;obtain ⟨Ad, cd, rfl, -⟩ := id HS.o.defs;obtain ⟨x, hx⟩ : ∃ x, x = vars[i] := ⟨_, rfl⟩;obtain ⟨y, hy⟩ : ∃ y, y = Zdr r x := ⟨_, rfl⟩;obtain ⟨vb, vo, eA, hvb, ⟨c0, c1, c2, c3, c4, c5⟩, -⟩ := (HS.o.bu.row.el Zl).vat hi;rw [← hx] at c0 c1 c2 c3 c4 c5;have hvx : Zhl r x := by rw [hx]; exact HS.o.vb rfl _ (List.getElem_mem hi)
 have hSt : Z3 F w B r cs := HST.o.tch HS.o.tch (fun _ _ h => h) (fun h => h);have HY := zh hy;have HXE := zh hx;have hl24 := HS.o.bu.len;have hi2 : (i : Int) < (vars.length : Int) := by omega
 subst eA;clear hx hy;have b0 := cz4 HS.o.bu.blk;go_wp2_with fail;refine (Zr9 B F r cs x w hSt hol hvx).mono ?_;rw [← HY.o];rintro e w4 ⟨rfl, ht4⟩;have HS4 := zh (HS.o.tc ht4);obtain ⟨w5, hw5⟩ : ∃ z, z = w4.alloc (.cells (VC6 y).toArray 34) := ⟨_, rfl⟩;obtain ⟨XB, hXe⟩ : ∃ b, b = w4.heap.size := ⟨_, rfl⟩;have hl5 : Za w4 w5 := by rw [hw5]; exact (Za.refl _).alloc _
 have HX5 := zh (show w5.heap[XB]? = some (.cells (VC6 y).toArray 34 (0, 0)) by rw [hw5, hXe]; exact heap_alloc_new _ _);have HS5 := zh (HS4.o.later hl5);have hXB : XB ≠ BB := by have := Zb HS4.o.bu.blk; omega
 have hx0s : w0.heap.size ≤ XB := by have := HS4.o.tch.size; omega
 have hXN : ¬ (XB = PB ∨ XB = RB ∨ G XB ∨ H XB ∨ Hv XB) := by
  rintro (e | e | e | e | e)
  ·have := Zb HS4.o.pb; omega
  ·have := Zb HS4.o.rb; omega
  ·have := HS4.o.bu.lt XB e; omega
  ·have := (HS4.o.hH XB e).2.1; omega
  ·have := (HS4.o.hD XB e).2.1; omega
 clear ht4 hl5 b0 c0 c1 c2 c3 c4 c5 hSt hvx HS HS4;go_upto_region 8 with (fail);rw [← hw5, ← hXe];clear hw5 hXe;have x0 := cz6 HX5.o;have fx0 := fz HX5.o
 by_cases hk0 : y.kind = 0
 ·have tk : (y.kind == 0) = true := beq_iff_eq.2 hk0;have HZ := zh (show (⟨2, 0, 0, ⟨#[]⟩, ⟨0, 0⟩⟩ : Zd) = Zdf (Zdr r vars[i]) from by rw [← HXE.o, ← HY.o]; unfold Zdf; rw [if_pos hk0]);clear hk0;have HT6 := zh (show Tch (fun b => b = XB) w5 (Zz w5 XB 0 (VC6 ⟨2, 0, 0, ⟨#[]⟩, ⟨0, 0⟩⟩)) from ⟨Zaf (F := fun b => ¬ b = XB) (B := XB) (w := w5) (fun h => h rfl) _ w5 0 (Ze.refl _ _), Zae (Nat.zero_le XB) _ w5 0 (Below.refl _ _)⟩);have HX6 := zh (Zaa (o := 5) (Zaa (o := 4) (Zaa (o := 3) (Zaa (o := 2) (Zaa (o := 1) (Zaa (o := 0) HX5.o (.int .i64 2)) (.int .i64 0)) (.int .i64 0)) (.string ⟨#[]⟩)) (.int .i64 0)) (.int .i64 0));go_upto_region 12 with (fail);obtain ⟨w6, hw6⟩ : ∃ u, u = Zz w5 XB 0 (VC6 ⟨2, 0, 0, ⟨#[]⟩, ⟨0, 0⟩⟩) := ⟨_, rfl⟩;have hxs : w0.heap.size ≤ XB := hx0s;have HS6 := zh (show OfS _ _ _ _ _ _ _ _ w6 _ _ _ _ _ _ _ _ _ _ _ _ from hw6 ▸ HS5.o.other HT6.o hXB hXN hxs);simp only [Zz, VC6, Nat.zero_add, Nat.reduceAdd] at hw6;replace HX6 := zh (show w6.heap[XB]? = some (.cells (VC6 ⟨2, 0, 0, ⟨#[]⟩, ⟨0, 0⟩⟩).toArray 34 (0, 0)) by rw [hw6]; simpa using HX6.o);rw [← hw6];clear hw6 HT6 x0 fx0;obtain ⟨z, hz⟩ : ∃ z : Zd, z = ⟨2, 0, 0, ⟨#[]⟩, ⟨0, 0⟩⟩ := ⟨_, rfl⟩;rw [← hz] at HZ HX6;clear hz;replace HS5 := HS6;replace HX5 := HX6;clear HS6 HX6;have HS1 := zh (HS5.o.setN 0);have HX1 := zh ((Below.heap_setCell w6 ⟨BB, 2, none⟩ (.int .i64 ((0 : Nat) : Int)) XB hXB).trans HX5.o);have b0 := cz4 HS5.o.bu.blk
  have b2f := fz HS5.o.bu.blk;go_upto_region 13 with (fail);obtain ⟨W, hW⟩ : ∃ z, z = w6.setCell ⟨BB, 2, none⟩ (.int .i64 ((0 : Nat) : Int)) := ⟨_, rfl⟩;rw [← hW] at HS1 HX1;have hW2 : w6.setCell ⟨BB, 2, none⟩ (.int .i64 0) = W := hW.symm;rw [hW2];clear hW hW2 HS5 HX5 b0 b2f;have x0 := cz6 HX1.o;have hpos := HS1.o.pos;have hBl := HST.o.lt;have hSt : Z3 F W B r cs := HST.o.tch HS1.o.tch (fun _ _ h => h) (fun h => h);have hFW : ∀ b, F b → b ≠ BB ∧ ¬ G b ∧ b < W.heap.size := fun b hb => by
   have h1 := HFA.o b hb;have h2 := HS1.o.tch.size;exact ⟨by omega, fun hg => by have := HS1.o.gG b hg; omega, by omega⟩
  have hBW : B ≠ BB ∧ ¬ G B := ⟨by omega, fun hg => by have := HS1.o.gG B hg; omega⟩;have hvb := HS1.o.vb rfl _ (List.getElem_mem hi);have hzh : Zj r z = true := by rw [HZ.o]; exact Zds (Zem hok hvb)
  have hzi : vIn z := by rw [HZ.o]; exact Zhe (Ziz hSt hvb)
  have hIW : ∀ y, Tch (fun b => b = BB ∨ G b ∨ W.heap.size ≤ b) W y → Pw y := fun y hy => HII.o y (Tch.trans HS1.o.tch hy (fun _ h => h) (fun b hl hb => by
   rcases hb with hb | hb | hb
   ·omega
   ·have := HS1.o.gG b hb; omega
   ·have := HS1.o.tch.size; omega))
  go_wp2_with fail;refine (Zhf r cs hok hol lv Zma B BB F G vars 0 0 _ W z (zh HS1.o.bu) (zh hSt) (zh hFW) (zh hBW) (by omega) (zh fun _ => by have := Zmb; omega) (zh hzh) (zh hzi) (zh hIW)).mono ?_;rintro e W2 ⟨q, qcs, vars2, n2, code2, vv2, G2, Hq, rfl, hq, hb2, hN2, hnn, hG2, hHq, ht2⟩;rw [if_pos rfl, HZ.o] at hN2;have hq0 : Zcm (lv + 1) Hq W2 q qcs := hq;obtain ⟨tg, kq, rfl, z1, z2, z3, z4, z5, hkq⟩ := hq;obtain ⟨Aq, cq, rfl, -⟩ := hkq;have hlx : Za W2 (W2.alloc (.cells (PC q (.slice Aq q.kids.length cq)).toArray Zbc)) := (Za.refl _).alloc _;have HLX := zh hlx;have HQR := zh ((Zv (lv + 1)).is.keep hq0 (fun _ h => h) (Ze.later hlx));have HKR := zh (HS1.o.defs.keep (Zv (lv + 1)).is (fun _ h => h) ((ht2.keeps fun b hb e => by
   have h1 := HS1.o.hD b hb
   rcases e with e | e
   ·exact h1.2.2.2.1 e
   ·exact h1.2.2.1 e).trans (Ze.later hlx)))
  have HHN := zh (show ∀ y, Hq y → ¬ Hv y from fun y hy hh => by
   have h1 := hHq y hy;have h2 := (HS1.o.hD y hh).2.1
   omega)
  have HNX := zh (And.intro hb2 (And.intro hN2 (And.intro hG2 (And.intro hHq ht2))));have hlen : ds.length ≤ 24 := by have := HS1.o.len; omega
  clear hq0 z1 z2 z3 z4 z5 hb2 hN2 hnn hG2 hHq ht2 hlx x0 hSt hFW hBW hIW hzi hzh hvb
  go_wp2_with (at_builtin; refine Zbo (Zv (lv + 1)) rfl _ _ 53 rfl Zbc iP (.agg #[.int .i64 0, .string ⟨#[]⟩, .int .i64 0, .int .i64 0, .int .i64 0, .slice none 0 0]) 72 Tryz.underlying53 hiP hzP0 hzP1 hzP2 rfl rfl HKR.o ⟨W2.heap.size, 0, none⟩ 1 rfl q (PC q (.slice Aq q.kids.length cq)) (Zfc W2 (PC q (.slice Aq q.kids.length cq)) Zbc) (by intro u hu; simp at hu; rcases hu with rfl | rfl | rfl | rfl | rfl | rfl <;> rfl) HQR.o HHN.o (by omega) (by decide) ?_; intro v2 Y hrow hkp hb0)
  obtain ⟨Hd2, hfin⟩ := OfS.next hok HS1.o hi HNX.o.1 HNX.o.2.2.1 HNX.o.2.2.2.1 HNX.o.2.2.2.2 HNX.o.2.1 HLX.o hrow hkp hb0;go_wp2_with fail;exact ⟨_, _, Zhm.mk' rfl rfl rfl rfl rfl rfl rfl rfl, _, _, _, _, _, _, _, hfin⟩
 ·have tk : (y.kind == 0) = false := nH.2 hk0;have HZ := zh (show y = Zdf (Zdr r vars[i]) from by rw [← HXE.o, ← HY.o]; unfold Zdf; rw [if_neg hk0]);obtain ⟨z, rfl⟩ : ∃ z, z = y := ⟨_, rfl⟩;clear hk0;have HS1 := zh (HS5.o.setN 0);have HX1 := zh ((Below.heap_setCell w5 ⟨BB, 2, none⟩ (.int .i64 ((0 : Nat) : Int)) XB hXB).trans HX5.o);have b0 := cz4 HS5.o.bu.blk;have b2f := fz HS5.o.bu.blk;go_upto_region 13 with (fail);obtain ⟨W, hW⟩ : ∃ z, z = w5.setCell ⟨BB, 2, none⟩ (.int .i64 ((0 : Nat) : Int)) := ⟨_, rfl⟩;rw [← hW] at HS1 HX1;have hW2 : w5.setCell ⟨BB, 2, none⟩ (.int .i64 0) = W := hW.symm;rw [hW2];clear hW hW2 x0 fx0 HS5 HX5 b0 b2f;have x0 := cz6 HX1.o;have hpos := HS1.o.pos;have hBl := HST.o.lt;have hSt : Z3 F W B r cs := HST.o.tch HS1.o.tch (fun _ _ h => h) (fun h => h);have hFW : ∀ b, F b → b ≠ BB ∧ ¬ G b ∧ b < W.heap.size := fun b hb => by
   have h1 := HFA.o b hb;have h2 := HS1.o.tch.size;exact ⟨by omega, fun hg => by have := HS1.o.gG b hg; omega, by omega⟩
  have hBW : B ≠ BB ∧ ¬ G B := ⟨by omega, fun hg => by have := HS1.o.gG B hg; omega⟩;have hvb := HS1.o.vb rfl _ (List.getElem_mem hi);have hzh : Zj r z = true := by rw [HZ.o]; exact Zds (Zem hok hvb)
  have hzi : vIn z := by rw [HZ.o]; exact Zhe (Ziz hSt hvb)
  have hIW : ∀ y, Tch (fun b => b = BB ∨ G b ∨ W.heap.size ≤ b) W y → Pw y := fun y hy => HII.o y (Tch.trans HS1.o.tch hy (fun _ h => h) (fun b hl hb => by
   rcases hb with hb | hb | hb
   ·omega
   ·have := HS1.o.gG b hb; omega
   ·have := HS1.o.tch.size; omega))
  go_wp2_with fail;refine (Zhf r cs hok hol lv Zma B BB F G vars 0 0 _ W z (zh HS1.o.bu) (zh hSt) (zh hFW) (zh hBW) (by omega) (zh fun _ => by have := Zmb; omega) (zh hzh) (zh hzi) (zh hIW)).mono ?_;rintro e W2 ⟨q, qcs, vars2, n2, code2, vv2, G2, Hq, rfl, hq, hb2, hN2, hnn, hG2, hHq, ht2⟩;rw [if_pos rfl, HZ.o] at hN2;have hq0 : Zcm (lv + 1) Hq W2 q qcs := hq;obtain ⟨tg, kq, rfl, z1, z2, z3, z4, z5, hkq⟩ := hq;obtain ⟨Aq, cq, rfl, -⟩ := hkq;have hlx : Za W2 (W2.alloc (.cells (PC q (.slice Aq q.kids.length cq)).toArray Zbc)) := (Za.refl _).alloc _;have HLX := zh hlx;have HQR := zh ((Zv (lv + 1)).is.keep hq0 (fun _ h => h) (Ze.later hlx));have HKR := zh (HS1.o.defs.keep (Zv (lv + 1)).is (fun _ h => h) ((ht2.keeps fun b hb e => by
   have h1 := HS1.o.hD b hb
   rcases e with e | e
   ·exact h1.2.2.2.1 e
   ·exact h1.2.2.1 e).trans (Ze.later hlx)))
  have HHN := zh (show ∀ y, Hq y → ¬ Hv y from fun y hy hh => by
   have h1 := hHq y hy;have h2 := (HS1.o.hD y hh).2.1
   omega)
  have HNX := zh (And.intro hb2 (And.intro hN2 (And.intro hG2 (And.intro hHq ht2))));have hlen : ds.length ≤ 24 := by have := HS1.o.len; omega
  clear hq0 z1 z2 z3 z4 z5 hb2 hN2 hnn hG2 hHq ht2 hlx x0 hSt hFW hBW hIW hzi hzh hvb
  go_wp2_with (at_builtin; refine Zbo (Zv (lv + 1)) rfl _ _ 53 rfl Zbc iP (.agg #[.int .i64 0, .string ⟨#[]⟩, .int .i64 0, .int .i64 0, .int .i64 0, .slice none 0 0]) 72 Tryz.underlying53 hiP hzP0 hzP1 hzP2 rfl rfl HKR.o ⟨W2.heap.size, 0, none⟩ 1 rfl q (PC q (.slice Aq q.kids.length cq)) (Zfc W2 (PC q (.slice Aq q.kids.length cq)) Zbc) (by intro u hu; simp at hu; rcases hu with rfl | rfl | rfl | rfl | rfl | rfl <;> rfl) HQR.o HHN.o (by omega) (by decide) ?_; intro v2 Y hrow hkp hb0)
  obtain ⟨Hd2, hfin⟩ := OfS.next hok HS1.o hi HNX.o.1 HNX.o.2.2.1 HNX.o.2.2.2.1 HNX.o.2.2.2.2 HNX.o.2.1 HLX.o hrow hkp hb0;go_wp2_with fail;exact ⟨_, _, Zhm.mk' rfl rfl rfl rfl rfl rfl rfl rfl, _, _, _, _, _, _, _, hfin⟩
set_option maxRecDepth 1000000
set_option maxHeartbeats 4000000
theorem Zsd {a : Act} {w : World} (w0 : World) (B BB RB PB : Nat) (r : Zf) (T : Zf8) (p : Zaj) (pcs : List Value) (cs : List Value) (F : Nat → Prop) (hok : Zap r = true) (hol : r.aA.length ≤ 1048576) (HST : Hd (Z3 F w0 B r cs)) (HFA : Hd (∀ b, F b → b < w0.heap.size)) (HII : Hd (∀ x, Tch (fun _ => False) w0 x → Pw x)) (HA : Zw3 w0 B BB RB PB r T p pcs 0 a w) :
  ofLpI.wp Tryz.prog (Zjm (Zxe w0 B BB RB PB r T p pcs)) a w := by
 obtain ⟨v12, ds, vars, n, code, vv, vd, G, H, Hv, hf, hs⟩ := HA;obtain ⟨fr, rfl⟩ := hf.opn
 conv => arg 2; whnf
 go_wp2_with fail;refine wp_loop_ghost_k (fun g a u => ∃ i : Nat, g + i = 25 ∧ Zw3 w0 B BB RB PB r T p pcs i a u) 25 ⟨0, rfl, _, _, _, _, _, _, _, _, _, _, Zhm.mk' rfl rfl rfl rfl rfl rfl rfl rfl, hs⟩ ?_;clear hf hs fr;rintro gk a u ⟨i, hg, v12, ds, vars, n, code, vv, vd, G, H, Hv, hf, hs⟩ J K hJ hK;obtain ⟨fr, rfl⟩ := hf.opn;obtain ⟨Av, cv, rfl, -⟩ := id hs.bu.row;have HS := zh hs;clear hf hs;have hl24 := HS.o.bu.len;have b0 := cz4 HS.o.bu.blk
 by_cases hlt : i < vars.length
 ·have t1 : decide ((i : Int) < (vars.length : Int)) = true := decide_eq_true (by omega)
  by_cases hc : code = 0
  ·have t3 : (code == 0) = true := beq_iff_eq.2 hc;have HC := zh hc;clear hc
   go_upto_block 1 with (fail)
   obtain rfl : code = 0 := HC.o;refine Ziw (Zsc w0 B BB RB PB r T p pcs cs F hok hol HST HFA HII i n ds vars _ vd _ G H Hv hlt (zh (Zhm.mk' rfl rfl rfl rfl rfl rfl rfl rfl)) HS) ?_;rintro a' w' ⟨v10, v12', hf, ds', vars', n', code', vv', G', Hv', hs⟩;obtain ⟨fr, rfl⟩ := hf.opn;clear hf b0;go_wp2_with fail;refine Handed.intro (gk - 1) (by omega) (hJ _ _ _ ⟨i + 1, by omega, _, _, _, _, _, _, _, _, _, _, Zhm.mk' rfl rfl rfl rfl rfl rfl rfl rfl, hs⟩)
  ·have t3 : (code == 0) = false := nH.2 hc;go_wp2_with fail;exact ⟨_, _, _, _, _, _, _, _, _, _, _, Zhm.mk' rfl rfl rfl rfl rfl rfl rfl rfl, HS.o, .inl hc⟩
 ·have t1 : decide ((i : Int) < (vars.length : Int)) = false := decide_eq_false (by omega);go_wp2_with fail;exact ⟨_, _, _, _, _, _, _, _, _, _, _, Zhm.mk' rfl rfl rfl rfl rfl rfl rfl rfl, HS.o, .inr hlt⟩
set_option maxRecDepth 1000000
set_option maxHeartbeats 4000000
theorem Zvf (B : Nat) (r : Zf) (cs : List Value) (F : Nat → Prop) (v : Zd) (w : World) (hok : Zap r = true) (hol : r.aA.length ≤ 1048576) (HST : Hd (Z3 F w B r cs)) (HFA : Hd (∀ b, F b → b < w.heap.size)) (HII : Hd (∀ x, Tch (fun _ => False) w x → Pw x)) (HH : Hd (Zj r v = true)) (HI : Hd (vIn v)) :
  Calls Tryz.prog 66 #[.pointer (some ⟨B, 0, none⟩), .agg (VC6 v).toArray] w (Zld (Zgg r v) w) := by
 obtain ⟨T, hT⟩ : ∃ T, Zgg r v = T := ⟨_, rfl⟩;rw [hT];have HT0 := zh hT;clear hT;obtain ⟨w2, hw2⟩ : ∃ z, z = ((w.alloc (.cells (VC6 v).toArray 34)).alloc (.cells ZP6.toArray Zbc)) := ⟨_, rfl⟩;have hl2 : Za w w2 := by rw [hw2]; exact ((Za.refl w).alloc _).alloc _
 have HV2 := zh (show w2.heap[w.heap.size]? = some (.cells (VC6 v).toArray 34 (0, 0)) by rw [hw2]; exact ((Za.refl _).alloc _).block w.heap.size (by simp) |>.trans (heap_alloc_new w _));have HR2 := zh (show w2.heap[w.heap.size + 1]? = some (.cells ZP6.toArray Zbc (0, 0)) by rw [hw2]; exact Za8 (by simp));have HS2 : Hd (w2.heap.size = w.heap.size + 2) := zh (by rw [hw2]; simp);have HL2 := zh hl2;clear hl2;go_enter Tryz.func66, Tryz.ntmps66;go_upto_region 1 with (fail);rw [← hw2];clear hw2;obtain ⟨w3, hw3⟩ : ∃ z, z = w2.alloc (.cells #[.pointer (some ⟨B, 0, none⟩), .slice none 0 0, .int .i64 0, .int .i64 0] 159) := ⟨_, rfl⟩;obtain ⟨BB, hBB⟩ : ∃ b, b = w2.heap.size := ⟨_, rfl⟩;have hl3 : Za w2 w3 := by rw [hw3]; exact (Za.refl _).alloc _
 have HB3 := zh (show Bu B BB 159 (fun _ => False) w3 [] 0 0 (.slice none 0 0) from ⟨by rw [hw3, hBB]; exact heap_alloc_new _ _, Zbe.nil _ _ _ _ _, fun h => h, fun _ h => h.elim, by simp, by omega⟩);go_upto_region 2 with (fail);rw [← hw3, ← hBB];have HPS := zh (show w.heap.size + 1 < BB ∧ BB < w3.heap.size from by have := HS2.o; have := Zb HB3.o.blk; omega);clear hw3 hBB HS2;have HV3 := zC hl3 HV2;have HR3 := zC hl3 HR2;have hl03 : Za w w3 := HL2.o.trans hl3;have hSt : Z3 F w3 B r cs := HST.o.later hl03;have hBl := HST.o.lt;have hFW : ∀ b, F b → b ≠ BB ∧ ¬ (fun _ : Nat => False) b ∧ b < w3.heap.size := fun b hb => by
  have h1 := HFA.o b hb;have h2 := HPS.o;exact ⟨by omega, fun h => h, by omega⟩
 have hBW : B ≠ BB ∧ ¬ (fun _ : Nat => False) B := ⟨by have := HPS.o; omega, fun h => h⟩;have hIW : ∀ y, Tch (fun b => b = BB ∨ (fun _ : Nat => False) b ∨ w3.heap.size ≤ b) w3 y → Pw y := fun y hy => HII.o y (Tch.trans (Tch.later (P := fun _ => False) hl03) hy (fun _ h => h) (fun b hl hb => by
  have h2 := HPS.o
  rcases hb with hb | hb | hb
  ·omega
  ·exact hb
  ·omega))
 have HT3 := zh (Tch.later (P := fun _ => False) hl03);clear hl3 hl03 HV2 HR2 HL2;have v0 := cz6 HV3.o;go_wp2_with fail;refine (Zhf r cs hok hol lv Zma B BB F (fun _ => False) [] 0 0 _ w3 v (zh HB3.o) (zh hSt) (zh hFW) (zh hBW) (by omega) (zh fun _ => by have := Zmb; omega) (zh HH.o) (zh HI.o) (zh hIW)).mono ?_;rintro e W2 ⟨q, qcs, vars2, n2, code2, vv2, G2, Hq, rfl, hq, hb2, hN2, hnn, hG2, hHq, ht2⟩;rw [if_pos rfl] at hN2;have hq0 : Zcm (lv + 1) Hq W2 q qcs := hq;obtain ⟨tg, kq, rfl, z1, z2, z3, z4, z5, hkq⟩ := hq;obtain ⟨Aq, cq, rfl, -⟩ := hkq;obtain ⟨w6, hw6⟩ : ∃ z, z = W2.alloc (.cells (PC q (.slice Aq q.kids.length cq)).toArray Zbc) := ⟨_, rfl⟩;obtain ⟨PB, hPB⟩ : ∃ b, b = W2.heap.size := ⟨_, rfl⟩;have hl6 : Za W2 w6 := by rw [hw6]; exact (Za.refl _).alloc _
 have HPB6 := zh (show w6.heap[PB]? = some (.cells (PC q (.slice Aq q.kids.length cq)).toArray Zbc (0, 0)) by rw [hw6, hPB]; exact heap_alloc_new _ _);have hs2 := ht2.size;have hps := HPS.o;have HR6 : w6.heap[w.heap.size + 1]? = some (.cells ZP6.toArray Zbc (0, 0)) := (hl6.block _ (by have := Zb HR3.o; omega)).trans (ht2.has HR3.o (fun e => e.elim (by omega) (fun h => h)));have HS6 : Hd (∀ A : Option Addr, OfS w B BB (w.heap.size + 1) PB 159 r T w6 q 0 [] vars2 n2 code2 vv2 (.slice A 0 0) (PC q (.slice Aq q.kids.length cq)) G2 Hq (fun _ => False)) := zh fun A => by
  rw [← HT0.o];refine OfS.start hok HH.o (hb2.later hl6) HPB6.o ((Zv (lv + 1)).is.keep hq0 (fun _ h => h) (Ze.later hl6)) HR6 hN2 (fun b hb => ?_) (fun b hb => ?_) ⟨fun hg => ?_, fun hg => ?_⟩ ⟨by omega, by omega, by omega, by omega, by omega, by omega⟩ (Tch.trans HT3.o (ht2.la hl6) (fun _ h => h) (fun b hl e => e.elim (by omega) (fun h => h)))
  ·rcases hG2 b hb with e | e
   ·exact e.elim
   ·have := HT3.o.size; omega
  ·have h1 := hHq b hb;have := HT3.o.size;have := hl6.size;exact ⟨by omega, by omega, h1.2.2, by omega, by omega, by omega⟩
  ·have := hb2.lt _ hg; omega
  ·rcases hG2 _ hg with e | e
   ·exact e
   ·omega
 clear hl6 HPB6 hs2 HR6 hN2 hnn hG2 hHq ht2 hb2 hq0 z1 z2 z3 z4 z5 hps v0 hSt hFW hBW hIW HV3 HR3 HB3;go_upto_region 3 with (fail);rw [← hw6, ← hPB];clear hw6 hPB
 go_upto_block 0 with (fail)
 refine Ziw (Zsd w B BB (w.heap.size + 1) PB r T q _ cs F hok hol HST HFA HII ⟨_, _, _, _, _, _, _, _, _, _, Zhm.mk' rfl rfl rfl rfl rfl rfl rfl rfl, OfS.later (HS6.o _) (by first | exact Za.refl _ | exact (Za.refl _).alloc _)⟩) ?_;rintro a' w' ⟨i, v12, ds, vars, n, code, vv, vd, G, H, Hv, hf, hs, hend⟩;obtain ⟨fr, rfl⟩ := hf.opn;have HSZ := zh hs;clear hf hs HS6;obtain ⟨Av, cv, rfl, -⟩ := id HSZ.o.bu.row;obtain ⟨Ad, cd, rfl, -⟩ := id HSZ.o.defs;obtain ⟨b0, b1, b2, b3⟩ := cz4 HSZ.o.bu.blk
 by_cases hc : code = 0
 ·subst hc;have HI := zh (hend.resolve_left (fun h => h rfl));clear hend;go_upto_region 16 with (fail);refine Zey [8, 9] [] (fun x => x.heap[BB]? = some (.cells #[.pointer (some ⟨B, 0, none⟩), .slice Av vars.length cv, .int .i64 n, .int .i64 0] 159 (0, 0)) ∧ x.heap[PB]? = some (.cells (PC q (.slice Aq q.kids.length cq)).toArray Zbc (0, 0))) (by kernel_rfl) (fun W hW => ?_);have hlW : Za w' W := by rw [hW]; exact (Za.refl _).drew
  clear hW;have HSW := zh (HSZ.o.later hlW);have HS := zh (And.intro HSW.o.bu.blk HSW.o.pb);have HPO := zh HSW.o.pos;clear hlW b0 b1 b2 b3;refine tV 0 77 (v := ?_) rfl rfl HS.o (fun x hx => ?_) ?_;rotate_left
  ·have b0 := cell_of_row _ BB 0 _ _ _ hx.1; have b1 := cell_of_row _ BB 1 _ _ _ hx.1; have b2 := cell_of_row _ BB 2 _ _ _ hx.1; have b3 := cell_of_row _ BB 3 _ _ _ hx.1; simp only [nD, nE, nF] at b0 b1 b2 b3; have p0 := cell_of_row _ PB 0 _ _ _ hx.2; have p1 := cell_of_row _ PB 1 _ _ _ hx.2; have p2 := cell_of_row _ PB 2 _ _ _ hx.2; have p3 := cell_of_row _ PB 3 _ _ _ hx.2; have p4 := cell_of_row _ PB 4 _ _ _ hx.2; have p5 := cell_of_row _ PB 5 _ _ _ hx.2; simp only [nD, nE, nF] at p0 p1 p2 p3 p4 p5; go_simp;first|done|with_reducible rfl
  simp only [Act.put, nA, nB, nC];refine tV 1 78 (v := ?_) rfl rfl HS.o (fun x hx => ?_) ?_;rotate_left
  ·go_simp;first|done|with_reducible rfl
  simp only [Act.put, nA, nB, nC];refine tV 2 79 (v := ?_) rfl rfl HS.o (fun x hx => ?_) ?_;rotate_left
  ·go_simp;first|done|with_reducible rfl
  simp only [Act.put, nA, nB, nC];refine tV 3 80 (v := ?_) rfl rfl HS.o (fun x hx => ?_) ?_;rotate_left
  ·go_simp;first|done|with_reducible rfl
  simp only [Act.put, nA, nB, nC];refine tV 4 81 (v := ?_) rfl rfl HS.o (fun x hx => ?_) ?_;rotate_left
  ·go_simp;first|done|with_reducible rfl
  simp only [Act.put, nA, nB, nC];refine tV 5 82 (v := ?_) rfl rfl HS.o (fun x hx => ?_) ?_;rotate_left
  ·have b0 := cell_of_row _ BB 0 _ _ _ hx.1; have b1 := cell_of_row _ BB 1 _ _ _ hx.1; have b2 := cell_of_row _ BB 2 _ _ _ hx.1; have b3 := cell_of_row _ BB 3 _ _ _ hx.1; simp only [nD, nE, nF] at b0 b1 b2 b3; have p0 := cell_of_row _ PB 0 _ _ _ hx.2; have p1 := cell_of_row _ PB 1 _ _ _ hx.2; have p2 := cell_of_row _ PB 2 _ _ _ hx.2; have p3 := cell_of_row _ PB 3 _ _ _ hx.2; have p4 := cell_of_row _ PB 4 _ _ _ hx.2; have p5 := cell_of_row _ PB 5 _ _ _ hx.2; simp only [nD, nE, nF] at p0 p1 p2 p3 p4 p5; go_simp;first|done|with_reducible rfl
  simp only [Act.put, nA, nB, nC];refine Zej 6 (by kernel_rfl) rfl rfl ?_;have r0 := cz6 HSW.o.rb;have fr0 := fz HSW.o.rb;have hs5 : _ ∧ _ := And.intro ((Zbw (B := w.heap.size + 1) (k := BB) (by have := HPO.o; omega) [.int .i64 q.op, .string q.text, .int .i64 q.aH, .int .i64 q.set_.low, .int .i64 q.set_.high, .slice Aq q.kids.length cq] W 0).trans HS.o.1) ((Zbw (B := w.heap.size + 1) (k := PB) (by have := HPO.o; omega) [.int .i64 q.op, .string q.text, .int .i64 q.aH, .int .i64 q.set_.low, .int .i64 q.set_.high, .slice Aq q.kids.length cq] W 0).trans HS.o.2);simp only [Zz, Nat.zero_add, Nat.reduceAdd] at hs5;have HS5 := zh hs5;clear hs5;go_wp2_with fail;refine ⟨HS5.o, ?_⟩;replace HS := HS5;refine tV 7 5 (v := ?_) rfl rfl HS.o (fun x hx => ?_) ?_;rotate_left
  ·go_simp;first|done|with_reducible rfl
  simp only [Act.put, nA, nB, nC];refine Zfo [_, _] (by kernel_rfl) rfl rfl ?_;simp only [List.getElem_toArray, List.getElem_cons_succ, List.getElem_cons_zero];go_wp2_with fail;have hd := Zq4 HSW.o HI.o;simp only [Zz, ZP6, PC, Nat.zero_add, Nat.reduceAdd] at hd;exact bodyPost_ret (v := .tuple #[.agg #[.int .i64 q.op, .string q.text, .int .i64 q.aH, .int .i64 q.set_.low, .int .i64 q.set_.high, .slice Aq q.kids.length cq], .slice Ad ds.length cd, .slice Av vars.length cv, .int .i64 0]) (by simp [results, Tryz.results66, go_sem, r0, fr0]) rfl hd
 ·have t3 : (code != 0) = true := bne_iff_ne.2 hc;go_upto_region 15 with (fail);refine Zey [8] [] (fun x => x.heap[BB]? = some (.cells #[.pointer (some ⟨B, 0, none⟩), .slice Av vars.length cv, .int .i64 n, .int .i64 code] 159 (0, 0)) ∧ x.heap[PB]? = some (.cells (PC q (.slice Aq q.kids.length cq)).toArray Zbc (0, 0))) (by kernel_rfl) (fun W hW => ?_);have hlW : Za w' W := by rw [hW]; exact (Za.refl _).drew
  clear hW;have HSW := zh (HSZ.o.later hlW);have HS := zh (And.intro HSW.o.bu.blk HSW.o.pb);have HPO := zh HSW.o.pos;clear hlW b0 b1 b2 b3;refine tV 0 72 (v := ?_) rfl rfl HS.o (fun x hx => ?_) ?_;rotate_left
  ·go_simp;first|done|with_reducible rfl|rw[if_neg (by omega)]|rw[if_pos (by omega)]
  simp only [Act.put, nA, nB, nC];refine tV 1 73 (v := ?_) rfl rfl HS.o (fun x hx => ?_) ?_;rotate_left
  ·go_simp;first|done|with_reducible rfl
  simp only [Act.put, nA, nB, nC];refine tV 2 74 (v := ?_) rfl rfl HS.o (fun x hx => ?_) ?_;rotate_left
  ·go_simp;first|done|with_reducible rfl
  simp only [Act.put, nA, nB, nC];refine tV 3 75 (v := ?_) rfl rfl HS.o (fun x hx => ?_) ?_;rotate_left
  ·go_simp;first|done|with_reducible rfl
  simp only [Act.put, nA, nB, nC];refine tV 4 76 (v := ?_) rfl rfl HS.o (fun x hx => ?_) ?_;rotate_left
  ·have b0 := cell_of_row _ BB 0 _ _ _ hx.1; have b1 := cell_of_row _ BB 1 _ _ _ hx.1; have b2 := cell_of_row _ BB 2 _ _ _ hx.1; have b3 := cell_of_row _ BB 3 _ _ _ hx.1; simp only [nD, nE, nF] at b0 b1 b2 b3; have p0 := cell_of_row _ PB 0 _ _ _ hx.2; have p1 := cell_of_row _ PB 1 _ _ _ hx.2; have p2 := cell_of_row _ PB 2 _ _ _ hx.2; have p3 := cell_of_row _ PB 3 _ _ _ hx.2; have p4 := cell_of_row _ PB 4 _ _ _ hx.2; have p5 := cell_of_row _ PB 5 _ _ _ hx.2; simp only [nD, nE, nF] at p0 p1 p2 p3 p4 p5; go_simp;first|done|with_reducible rfl
  simp only [Act.put, nA, nB, nC];refine Zej 5 (by kernel_rfl) rfl rfl ?_;have r0 := cz6 HSW.o.rb;have fr0 := fz HSW.o.rb;have hs5 : _ ∧ _ := And.intro ((Zbw (B := w.heap.size + 1) (k := BB) (by have := HPO.o; omega) [.int .i64 0, .string ⟨#[]⟩, .int .i64 0, .int .i64 0, .int .i64 0, .slice none 0 0] W 0).trans HS.o.1) ((Zbw (B := w.heap.size + 1) (k := PB) (by have := HPO.o; omega) [.int .i64 0, .string ⟨#[]⟩, .int .i64 0, .int .i64 0, .int .i64 0, .slice none 0 0] W 0).trans HS.o.2);simp only [Zz, Nat.zero_add, Nat.reduceAdd] at hs5;have HS5 := zh hs5;clear hs5;go_wp2_with fail;refine ⟨HS5.o, ?_⟩;replace HS := HS5;refine tV 6 5 (v := ?_) rfl rfl HS.o (fun x hx => ?_) ?_;rotate_left
  ·go_simp;first|done|with_reducible rfl
  simp only [Act.put, nA, nB, nC];refine tV 7 6 (v := ?_) rfl rfl HS.o (fun x hx => ?_) ?_;rotate_left
  ·go_simp;first|done|with_reducible rfl
  simp only [Act.put, nA, nB, nC];refine Zfo [_] (by kernel_rfl) rfl rfl ?_;simp only [List.getElem_toArray, List.getElem_cons_succ, List.getElem_cons_zero];go_wp2_with fail;have hd := Zuh HSW.o hc;simp only [Zz, ZP6, PC, Nat.zero_add, Nat.reduceAdd] at hd;exact bodyPost_ret (v := .tuple #[.agg #[.int .i64 0, .string ⟨#[]⟩, .int .i64 0, .int .i64 0, .int .i64 0, .slice none 0 0], .slice none 0 0, .slice none 0 0, .int .i64 code]) (by simp [results, Tryz.results66, go_sem, r0, fr0]) rfl hd
end Go.Proofs.YtpmhelkiicigfaaGreatDoor
namespace Go.Proofs.YtpmhelkiicigfaaGreatDoor
open Go.RowKit
variable {P : Program} {ops : Array Oper} {Q : Exit → Act → World → Prop} {md : Region.Mode}
theorem Zdl {l : Array Bool} {i : Nat} (h : l.getD i true = false) : (l.setIfInBounds i true).toList.count false + 1 = l.toList.count false := by
 have hi : i < l.size := by
  rcases Nat.lt_or_ge i l.size with h1 | h1
  ·exact h1
  ·simp [Array.getD, Nat.not_lt.2 h1] at h
 have hv : l.toList[i]'(by simpa using hi) = false := by simpa [Array.getD, hi] using h
 have e : (l.setIfInBounds i true).toList = l.toList.set i true := by simp
 have hpos : 0 < l.toList.count false := List.count_pos_iff.2 (hv ▸ List.getElem_mem (by simpa using hi));rw [e, List.count_set (by simpa using hi), hv];have h1 : (false == false) = true := rfl;have h2 : (true == false) = false := rfl;rw [if_pos h1, if_neg (by rw [h2]; decide)]
 omega
theorem Zse {I : Array Bool → Act → World → Prop} (hstep : ∀ listed a w, I listed a w → ∀ i ∈ Region.ready md ops listed, wpOp P ops Q i (I (listed.setIfInBounds i true)) a w)
  (hend : ∀ listed a w, I listed a w → Region.ready md ops listed = [] → Q .normal a w) :
  ∀ (fuel : Nat) (listed : Array Bool) (a : Act) (w : World), I listed a w → listed.toList.count false ≤ fuel → wpAny P md ops Q fuel listed a w
 | 0, listed, a, w, hI, hc => by
  have hr : Region.ready md ops listed = [] := by
   rw [List.eq_nil_iff_forall_not_mem];intro i hi;have := Zdl (mem_ready.1 hi).1
   omega
  exact ⟨hr, hend listed a w hI hr⟩
 | fuel + 1, listed, a, w, hI, hc => ⟨fun hr => hend listed a w hI hr, fun i hi =>
   wpOp_mono (fun a' w' h' => Zse hstep hend fuel _ a' w' h' (by have := Zdl (mem_ready.1 hi).1; omega)) (hstep listed a w hI i hi)⟩
def Zlg (Q : Exit → Act → World → Prop) (K : Act → World → Prop) : Exit → Act → World → Prop
 | .normal, a', w' => K a' w'
 | e, a', w' => Q e a' w'
/-- One operation, walked: behind it K. -/
theorem Zwg {K : Act → World → Prop} {i : Nat} {o : Oper} {a : Act} {w : World} (ho : ops[i]? = some o) (h : wpList P ops (Zlg Q K) [o] a w) : wpOp P ops Q i K a w := by
 unfold wpList at h;unfold wpOp;rw [ho];have hK : ∀ a' w', wpList P ops (Zlg Q K) [] a' w' → K a' w' := fun a' w' h' => h';have hup : o.wp P a w (wpList P ops (Zlg Q K) []) (Zlg Q K) → o.wp P a w (wpList P ops (Zlg Q K) []) Q := fun h' => by
  unfold Oper.wp at *
  generalize (execOp a.eval o).run P w = r at *
  cases r with
  | ok n w' => cases n <;> exact h'
  | halt x w' => cases x <;> exact h'
 show if Region.wanted o (yielded ops a.tmps) = true then _ else _
 split
 ·rename_i hw;rw [if_pos hw] at h
  rcases h with h | ⟨h1, h2⟩
  ·exact .inl (Oper.wp_mono hK (hup h))
  ·exact .inr ⟨h1, h2⟩
 ·rename_i hw;rw [if_neg hw] at h;exact hK _ _ h
theorem Zqh {I : Array Bool → Act → World → Prop} {tl pu : Nat → Bool} {S : World → Prop} (hstep : ∀ listed a w, I listed a w → ∀ i ∈ Region.ready md ops listed, wpOp P ops Q i (fun a' w' => ((tl i = false → S w') ∧ (pu i = true → w' = w)) ∧ I (listed.setIfInBounds i true) a' w') a w)
  (hend : ∀ listed a w, I listed a w → Region.ready md ops listed = [] → Q .normal a w) :
  ∀ (fuel : Nat) (listed : Array Bool) (a : Act) (w : World), I listed a w → listed.toList.count false ≤ fuel → Zc7 P md ops Q tl pu S fuel listed a w
 | 0, listed, a, w, hI, hc => by
  have hr : Region.ready md ops listed = [] := by
   rw [List.eq_nil_iff_forall_not_mem];intro i hi;have := Zdl (mem_ready.1 hi).1
   omega
  exact ⟨hr, hend listed a w hI hr⟩
 | fuel + 1, listed, a, w, hI, hc => ⟨fun hr => hend listed a w hI hr, fun i hi =>
   wpOp_mono (fun a' w' h' => ⟨h'.1, Zqh hstep hend fuel _ a' w' h'.2 (by have := Zdl (mem_ready.1 hi).1; omega)⟩) (hstep listed a w hI i hi)⟩
end Go.Proofs.YtpmhelkiicigfaaGreatDoor
namespace Go.Proofs.YtpmhelkiicigfaaGreatDoor
open Go.RowKit
variable {P : Program} {ops : Array Oper} {Q : Exit → Act → World → Prop}
def Zw5 (ops : Array Oper) : Bool := (List.range ops.size).all fun j => match ops[j]? with
 | some o => o.after.all fun e => !Region.binds .any e || decide (e.on < j)
 | none => true
def Zfu (n : Nat) (L : List Nat) : Array Bool := ((List.range n).map fun i => !L.contains i).toArray
def Zo8 (ops : Array Oper) (L U : List Nat) : Bool :=
 Zw5 ops && (L.all fun j => decide (j < ops.size) && (List.range ops.size).all fun i => L.contains i || U.contains i || Zic .any ops ops.size j i) && Zeo ops L (Zfu ops.size L) &&
  Region.noSelect ops && U.all fun i => decide (i < ops.size) && !L.contains i && Region.free .any ops (Zfu ops.size (L ++ U)) i && (Region.ready .any ops (Zfu ops.size (L ++ U))).contains i
theorem Zg3 {n : Nat} {L : List Nat} {i : Nat} (hi : i < n) (b : Bool) : (Zfu n L).getD i b = !L.contains i := by simp [Zfu, Array.getD, hi]
theorem Zhh {l : Array Bool} {i : Nat} (hi : i < l.size) (b c : Bool) : l.getD i b = l.getD i c := by simp [Array.getD, hi]
/-- What is not listed has a first one that is ready. -/
theorem Zfe {listed : Array Bool} (hA : Zw5 ops = true) (hs : listed.size = ops.size) : ∀ (j : Nat), j < ops.size → listed.getD j true = false → ∃ i, i ∈ Region.ready .any ops listed := by
 intro j
 induction j using Nat.strongRecOn with
 | _ j ih =>
  intro hj hl
  by_cases hall : ∀ e ∈ ops[j].after, Region.binds .any e = true → listed.getD e.on false = true
  ·exact ⟨j, mem_ready.2 ⟨hl, ops[j], by simp [hj], hall⟩⟩
  ·obtain ⟨e, h1⟩ := Classical.not_forall.1 hall;obtain ⟨he, h1⟩ := Classical.not_imp.1 h1;obtain ⟨hb, h1⟩ := Classical.not_imp.1 h1;have h2 := List.all_eq_true.1 hA j (List.mem_range.2 hj);rw [show ops[j]? = some ops[j] by simp [hj]] at h2;have h3 := Array.all_eq_true_iff_forall_mem.1 h2 e he;simp only [hb, Bool.not_true, Bool.false_or, nJ] at h3;refine ih e.on h3 (by omega) ?_;rw [Zhh (by omega) true false]
   simpa using h1
theorem Zg4 : ∀ (L : List Nat) (os : List Oper) (fuel : Nat) (listed : Array Bool) (a : Act) (w : World), Zeo ops L listed = true → L.map (ops[·]?) = os.map some → listed.toList.count false ≤ fuel →
  wpList P ops Q os a w → wpAny P .any ops Q fuel listed a w
 | [], os, fuel, listed, a, w, hch, hos, _, h => by
  have : os = [] := by cases os with
   | nil => rfl
   | cons => simp at hos
  subst this;have hr : Region.ready .any ops listed = [] := by simpa [Zeo] using hch
  cases fuel with
  | zero => exact ⟨hr, h⟩
  | succ n => exact ⟨fun _ => h, fun i hi => by rw [hr] at hi; cases hi⟩
 | i :: L, os, fuel, listed, a, w, hch, hos, hc, h => by
  obtain ⟨o, os', rfl⟩ : ∃ o os', os = o :: os' := by cases os with
   | nil => simp at hos
   | cons o os' => exact ⟨o, os', rfl⟩
  simp only [List.map_cons, List.cons.injEq] at hos;simp only [Zeo, Bool.and_eq_true, beq_iff_eq] at hch;obtain ⟨hr, hch'⟩ := hch;have hn := Zdl (mem_ready.1 (show i ∈ Region.ready .any ops listed by rw [hr]; simp)).1;obtain ⟨fuel, rfl⟩ : ∃ k, fuel = k + 1 := ⟨fuel - 1, by omega⟩;refine ⟨fun h0 => (by rw [hr] at h0; cases h0), fun j hj => ?_⟩;rw [hr] at hj;obtain rfl : j = i := by simpa using hj
  have hK : ∀ a' w', wpList P ops Q os' a' w' → wpAny P .any ops Q fuel (listed.setIfInBounds j true) a' w' := fun a' w' h' =>
   Zg4 L os' fuel _ a' w' hch' hos.2 (by omega) h'
  unfold wpList at h;unfold wpOp;rw [hos.1];show if Region.wanted o (yielded ops a.tmps) = true then _ else _
  split
  ·rename_i hw;rw [if_pos hw] at h;exact h.imp (Oper.wp_mono hK) id
  ·rename_i hw;rw [if_neg hw] at h;exact hK _ _ h
theorem Zmc {l : Array Bool} {i j : Nat} (b : Bool) (h : i ≠ j) : (l.setIfInBounds i true).getD j b = l.getD j b := getD_set_ne b h
theorem Zuk : ∀ (fuel : Nat) (listed : Array Bool) (a : Act) (w : World), wpAny P .any ops Q fuel listed a w → Zc7 P .any ops Q (fun _ => true) (fun _ => false) (fun _ => True) fuel listed a w := by
 intro fuel
 induction fuel with
 | zero => exact fun _ _ _ h => h
 | succ fuel ih =>
  intro listed a w h;refine ⟨h.1, fun i hi => wpOp_mono (fun a' w' h' => ?_) (h.2 i hi)⟩;exact ⟨⟨fun _ => trivial, fun h0 => by simp at h0⟩, ih _ a' w' h'⟩
/-- Operation i reads no memory: it is taken first. -/
theorem Zqi {i : Nat} {oi : Oper} {v : Value} (hi : ops[i]? = some oi) (hsel : ∀ (j : Nat) (o : Oper) cs b, ops[j]? = some o → o.op ≠ .select cs b) (hQ : ∀ c a w, Q (.panic c) (a.put oi.dst v) w → Q (.panic c) a w) (fuel : Nat) (listed : Array Bool) (a : Act) (w : World)
  (hfree : ∀ j oj, ops[j]? = some oj → j ≠ i → listed.getD j true = false → (∀ e ∈ oj.after, Region.binds .any e = true → e.on ≠ i) → oi.apart ops oj = true) (hr : i ∈ Region.ready .any ops listed) (hy : YieldsIf P ops (fun _ => True) oi v a)
  (h : wpAny P .any ops Q fuel (listed.setIfInBounds i true) (a.put oi.dst v) w) : wpAny P .any ops Q (fuel + 1) listed a w :=
 Zf1 _ _ _ _ (Zj1 (tl := fun _ => true) (pu := fun _ => false) (S := fun _ => True) hi hsel hQ rfl fuel listed a w hfree hr hy (Zuk _ _ _ _ h))
theorem Zvg (hQ : ∀ c (d : Tmp) v a w, Q (.panic c) (Act.put a (some d) v) w → Q (.panic c) a w) (c : List PanicEntry) (d : Option Tmp) (v : Value) (a : Act) (w : World) (h : Q (.panic c) (Act.put a d v) w) : Q (.panic c) a w := by
 cases d with
 | none => exact h
 | some d => exact hQ c d v a w h
theorem unl {listed : Array Bool} {i : Nat} (h : ¬ listed.getD i true = true) : listed.getD i true = false := by simpa using h
theorem Zvh {I : Array Bool → Act → World → Prop} {L U : List Nat} {os : List Oper} (hB : Zo8 ops L U = true) (hos : L.map (ops[·]?) = os.map some) (hQ : ∀ c (d : Tmp) v a w, Q (.panic c) (Act.put a (some d) v) w → Q (.panic c) a w)
  (hstep : ∀ i o, ops[i]? = some o → L.contains i = false → U.contains i = false → ∀ listed a w, I listed a w → listed.size = ops.size → listed.getD i true = false → (∀ e ∈ o.after, Region.binds .any e = true → listed.getD e.on false = true) → wpOp P ops Q i (I (listed.setIfInBounds i true)) a w)
  (hpure : ∀ i o, ops[i]? = some o → U.contains i = true → ∀ listed a w, I listed a w → listed.size = ops.size → listed.getD i true = false → (∀ e ∈ o.after, Region.binds .any e = true → listed.getD e.on false = true) → ∃ v, YieldsIf P ops (fun _ => True) o v a ∧ I (listed.setIfInBounds i true) (a.put o.dst v) w)
  (hend : ∀ a w, I (Zfu ops.size L) a w → wpList P ops Q os a w) :
  ∀ (fuel : Nat) (listed : Array Bool) (a : Act) (w : World), I listed a w → Zi9 .any ops listed → listed.size = ops.size → (∀ i ∈ L, listed.getD i true = false) → listed.toList.count false ≤ fuel → wpAny P .any ops Q fuel listed a w := by
 simp only [Zo8, Bool.and_eq_true] at hB;obtain ⟨⟨⟨⟨hA, hR⟩, hC⟩, hNS⟩, hU⟩ := hB;intro fuel
 induction fuel with
 | zero =>
  intro listed a w hI hcl hs hLu hc
  by_cases hall : ∀ i, i < ops.size → L.contains i = false → listed.getD i true = true
  ·have he : listed = Zfu ops.size L := by
    apply Array.ext
    ·simp [Zfu, hs]
    ·intro i h1 h2;have h3 : i < ops.size := by omega
     have e1 : listed.getD i true = listed[i] := by simp [Array.getD, h1]
     have e2 : (Zfu ops.size L).getD i true = (Zfu ops.size L)[i] := by simp [Array.getD, h2]
     rw [← e1, ← e2, Zg3 h3]
     cases hLi : L.contains i with
     | false => exact hall i h3 hLi
     | true => exact hLu i (by simpa using hLi)
   subst he;exact Zg4 L os _ _ a w hC hos hc (hend a w hI)
  ·obtain ⟨i, h1⟩ := Classical.not_forall.1 hall;obtain ⟨h1, h2⟩ := Classical.not_imp.1 h1;obtain ⟨h2, h3⟩ := Classical.not_imp.1 h2;obtain ⟨k, hk⟩ := Zfe hA hs i h1 (unl h3);have := Zdl (mem_ready.1 hk).1
   omega
 | succ fuel ih =>
  intro listed a w hI hcl hs hLu hc;have hLs : ∀ j, L.contains j = false → ∀ m ∈ L, (listed.setIfInBounds j true).getD m true = false := fun j hjL m hm => by
   have hne : j ≠ m := fun h => by
    subst h;rw [show L.contains j = true by simpa using hm] at hjL
    cases hjL
   rw [Zmc true hne];exact hLu m hm
  by_cases hall : ∀ i, i < ops.size → L.contains i = false → listed.getD i true = true
  ·have he : listed = Zfu ops.size L := by
    apply Array.ext
    ·simp [Zfu, hs]
    ·intro i h1 h2;have h3 : i < ops.size := by omega
     have e1 : listed.getD i true = listed[i] := by simp [Array.getD, h1]
     have e2 : (Zfu ops.size L).getD i true = (Zfu ops.size L)[i] := by simp [Array.getD, h2]
     rw [← e1, ← e2, Zg3 h3]
     cases hLi : L.contains i with
     | false => exact hall i h3 hLi
     | true => exact hLu i (by simpa using hLi)
   subst he;exact Zg4 L os _ _ a w hC hos hc (hend a w hI)
  by_cases hallU : ∀ i, i < ops.size → L.contains i = false → U.contains i = false → listed.getD i true = true
  ·obtain ⟨i, h1⟩ := Classical.not_forall.1 hall;obtain ⟨h1, h2⟩ := Classical.not_imp.1 h1;obtain ⟨h2, h3⟩ := Classical.not_imp.1 h2;have hiU : U.contains i = true := by
    cases hc' : U.contains i with
    | true => rfl
    | false => exact absurd (hallU i h1 h2 hc') h3
   have h4 := List.all_eq_true.1 hU i (by simpa using hiU);simp only [Bool.and_eq_true] at h4;obtain ⟨⟨_, hfr⟩, hrd⟩ := h4;have hi : ops[i]? = some ops[i] := by simp [h1]
   have hlt : ∀ j, j < ops.size → listed.getD j true = false → (Zfu ops.size (L ++ U)).getD j true = false := fun j hj hjl => by
    rw [Zg3 hj]
    cases hjL : L.contains j with
    | true => simp at hjL; simp [hjL]
    | false =>
     cases hjU : U.contains j with
     | true => simp at hjU; simp [hjU]
     | false => rw [hallU j hj hjL hjU] at hjl; cases hjl
   have hready : i ∈ Region.ready .any ops listed := by
    obtain ⟨_, o, ho, hdep⟩ := mem_ready.1 (show i ∈ Region.ready .any ops (Zfu ops.size (L ++ U)) by simpa using hrd);refine mem_ready.2 ⟨unl h3, o, ho, fun e he hb => ?_⟩;have h5 := hdep e he hb;have h6 : e.on < ops.size := by
     rcases Nat.lt_or_ge e.on ops.size with h7 | h7
     ·exact h7
     ·simp [Zfu, Array.getD, Nat.not_lt.2 h7] at h5
    rw [Zg3 h6] at h5;simp only [List.contains_append, Bool.not_or, Bool.and_eq_true, Bool.not_eq_true'] at h5;rw [Zhh (by omega) false true];exact hallU e.on h6 h5.1 h5.2
   obtain ⟨v, hy, hI'⟩ := hpure i _ hi hiU listed a w hI hs (unl h3) (by
    obtain ⟨_, o, ho, hdep⟩ := mem_ready.1 hready;rw [hi] at ho
    cases ho
    exact hdep)
   refine Zqi hi (Region.noSelect_spec hNS) (fun c a w h => Zvg hQ c _ _ a w h) fuel listed a w (fun j oj hj hne hjl hno => ?_) hready hy (ih _ _ w hI' (Zhx hcl hready) (by simp [hs]) (hLs i h2) (by have := Zdl (unl h3); omega));exact Region.free_spec hi hfr j oj hj hne (hlt j (Array.getElem?_eq_some_iff.1 hj).1 hjl) hno
  ·obtain ⟨i, h1⟩ := Classical.not_forall.1 hallU;obtain ⟨h1, h2⟩ := Classical.not_imp.1 h1;obtain ⟨h2, h3⟩ := Classical.not_imp.1 h2;obtain ⟨h3u, h3⟩ := Classical.not_imp.1 h3;obtain ⟨k, hk⟩ := Zfe hA hs i h1 (unl h3);refine ⟨fun hr => (by rw [hr] at hk; cases hk), fun j hj => ?_⟩;obtain ⟨hjun, oj, hoj, hja⟩ := mem_ready.1 hj;have hjL : L.contains j = false := by
    cases hc' : L.contains j with
    | false => rfl
    | true =>
     have h4 := List.all_eq_true.1 hR j (by simpa using hc');simp only [Bool.and_eq_true] at h4;have h5 := List.all_eq_true.1 h4.2 i (List.mem_range.2 h1);rw [h2, h3u, Bool.false_or, Bool.false_or] at h5;have h6 := Zen hcl _ j i oj hoj hja h5;rw [Zhh (by omega) false true] at h6;exact absurd h6 h3
   have hK : ∀ a' w', I (listed.setIfInBounds j true) a' w' → wpAny P .any ops Q fuel (listed.setIfInBounds j true) a' w' := fun a' w' h' =>
    ih _ a' w' h' (Zhx hcl hj) (by simp [hs]) (hLs j hjL) (by have := Zdl hjun; omega)
   cases hjU : U.contains j with
   | false => exact wpOp_mono hK (hstep j oj hoj hjL hjU listed a w hI hs hjun hja)
   | true =>
    obtain ⟨v, hy, hI'⟩ := hpure j oj hoj hjU listed a w hI hs hjun hja;exact hy.wpOp hoj trivial (hK _ _ hI')
/-- A drawn region by an invariant; L: the last ones; U: those that read no memory. -/
theorem Zsf {I : Array Bool → Act → World → Prop} (L U : List Nat) (os : List Oper) {id : Nat} {a : Act} {w : World} (hm : P.follows .mixedOrders = true) (hB : Zo8 ops L U = true) (hos : L.map (ops[·]?) = os.map some) (hQ : ∀ c (d : Tmp) v a w, Q (.panic c) (Act.put a (some d) v) w → Q (.panic c) a w)
  (h0 : ∀ w1, w1 = w.drew → I (Array.replicate ops.size false) a w1)
  (hstep : ∀ i o, ops[i]? = some o → L.contains i = false → U.contains i = false → ∀ listed a w, I listed a w → listed.size = ops.size → listed.getD i true = false → (∀ e ∈ o.after, Region.binds .any e = true → listed.getD e.on false = true) → wpOp P ops Q i (I (listed.setIfInBounds i true)) a w)
  (hpure : ∀ i o, ops[i]? = some o → U.contains i = true → ∀ listed a w, I listed a w → listed.size = ops.size → listed.getD i true = false → (∀ e ∈ o.after, Region.binds .any e = true → listed.getD e.on false = true) → ∃ v, YieldsIf P ops (fun _ => True) o v a ∧ I (listed.setIfInBounds i true) (a.put o.dst v) w)
  (hend : ∀ a w, I (Zfu ops.size L) a w → wpList P ops Q os a w) : (Code.region id ops true).wp P Q a w := by
 have hR := hB;simp only [Zo8, Bool.and_eq_true] at hR;refine wp_region_any hm (Zvh hB hos hQ hstep hpure hend _ _ _ _ (h0 w.drew rfl) (fun j o ho hl => ?_) (by simp) (fun i hi => ?_) (by simp))
 ·have hj : j < ops.size := (Array.getElem?_eq_some_iff.1 ho).1;simp [Array.getD, hj] at hl
 ·have := List.all_eq_true.1 hR.1.1.1.2 i hi;simp only [Bool.and_eq_true, nJ] at this;simp [Array.getD, this.1]
/-- What an operation waits for, told by numbers. -/
theorem Zo9 {o : Oper} {listed : Array Bool} (h : ∀ e ∈ o.after, Region.binds .any e = true → listed.getD e.on false = true) (D : List Nat) (hD : (D.all fun d => o.after.any fun e => Region.binds .any e && e.on == d) = true) : ∀ d ∈ D, listed.getD d false = true := by
 intro d hd;obtain ⟨e, he, h1⟩ := Array.any_eq_true'.1 (List.all_eq_true.1 hD d hd);simp only [Bool.and_eq_true, beq_iff_eq] at h1;rw [← h1.2];exact h e he h1.1
end Go.Proofs.YtpmhelkiicigfaaGreatDoor
namespace Go.Proofs.YtpmhelkiicigfaaGreatDoor
open Go.RowKit
def Zg5 : Value → Nat
 | .pointer (some p) => p.block
 | _ => 0
def Zgh (x : Value) (k : Nat) : Value := match x with
 | .tuple a => a.getD k undef
 | _ => undef
def bt (l : Array Bool) (i : Nat) : Prop := l.getD i false = true
theorem Zeq {l : Array Bool} {i j : Nat} (hij : i ≠ j) (h : bt (l.setIfInBounds i true) j) : bt l j := by unfold bt at *; rwa [Zmc false hij] at h
theorem Zc8 {l : Array Bool} {i j : Nat} (h : bt l j) : bt (l.setIfInBounds i true) j := by unfold bt at *; exact getD_set_true h
theorem Za5 {n i : Nat} (h : bt (Array.replicate n false) i) : False := by
 unfold bt at h
 rcases Nat.lt_or_ge i n with h1 | h1
 ·simp [Array.getD, h1] at h
 ·simp [Array.getD, Nat.not_lt.2 h1] at h
/-- An operand: a Store of the laws' own. -/
def StR (u : World) (r : Zf) (x : Value) : Prop := ∃ cs : List Value, x = .agg cs.toArray ∧ Zcf (fun _ => True) u r cs
theorem StR.later {u v : World} {r : Zf} {x : Value} (h : StR u r x) (hl : Za u v) : StR v r x := by
 obtain ⟨cs, h1, h2⟩ := h;exact ⟨cs, h1, Zal.keep h2 (fun _ h => h) (Ze.later hl)⟩
/-- A call's result: a Store of blocks of its own, a Value, a code; N: blocks that are none of it. -/
def Zul (W u : World) (q : Zf × Zd × Int) (N : Nat → Prop) (x : Value) : Prop :=
 ∃ (cs : List Value) (F : Nat → Prop), x = .tuple #[.agg cs.toArray, .agg #[.int .i64 q.2.1.kind, .int .i64 q.2.1.aH, .int .i64 q.2.1.index, .string q.2.1.text, .int .i64 q.2.1.set_.low, .int .i64 q.2.1.set_.high], .int .i64 q.2.2] ∧ Zec F u q.1 cs ∧ (∀ b, F b → W.heap.size ≤ b ∧ b < u.heap.size) ∧ ∀ b, N b → ¬ F b
theorem Zul.later {W u v : World} {q : Zf × Zd × Int} {N N' : Nat → Prop} {x : Value} (h : Zul W u q N x) (hl : Za u v) (hN : ∀ b, N' b → N b ∨ u.heap.size ≤ b) : Zul W v q N' x := by
 obtain ⟨cs, F, h1, h2, h3, h4⟩ := h;refine ⟨cs, F, h1, Zbq.is.keep h2 (fun _ h => h) (Ze.later hl), fun b hb => ⟨(h3 b hb).1, Nat.lt_of_lt_of_le (h3 b hb).2 hl.size⟩, fun b hb hF => ?_⟩
 rcases hN b hb with h | h
 ·exact h4 b h hF
 ·have := (h3 b hF).2
  omega
theorem Zul.new {W u v : World} {q : Zf × Zd × Int} {N : Nat → Prop} {e : Ending} (h : Zv9 u q e v) (hW : Za W u) (hN : ∀ b, N b → b < u.heap.size) : ∃ x, e = .returned x ∧ Zul W v q N x ∧ Za u v := by
 obtain ⟨cs, h1, h2, h3⟩ := h;exact ⟨_, h1, ⟨cs, _, rfl, Zbq.trim h2, fun b hb => ⟨Nat.le_trans hW.size hb.1, hb.2⟩, fun b hb hF => by have := hN b hb; have := hF.1; omega⟩, h3⟩
/-- A variable of the law's own, made. -/
def AlR (W u : World) (o : Obj) (x : Value) : Prop := ∃ B : Nat, x = .pointer (some ⟨B, 0, none⟩) ∧ u.heap[B]? = some o ∧ W.heap.size ≤ B
theorem AlR.later {W u v : World} {o : Obj} {x : Value} (h : AlR W u o x) (hl : Za u v) : AlR W v o x := by
 obtain ⟨B, h1, h2, h3⟩ := h;exact ⟨B, h1, (hl.block B (Zb h2)).trans h2, h3⟩
theorem AlR.new {W u : World} (o : Obj) (hW : Za W u) : AlR W (u.alloc o) o (.pointer (some ⟨u.heap.size, 0, none⟩)) := ⟨_, rfl, heap_alloc_new u o, hW.size⟩
theorem AlR.lt {W u : World} {o : Obj} {x : Value} (h : AlR W u o x) : Zg5 x < u.heap.size := by
 obtain ⟨B, rfl, h2, _⟩ := h;exact Zb h2
theorem Zpa {u : World} {B : Nat} {T : TypeId} {zs : Array Value} (vs : List Value) (hB : u.heap[B]? = some (.cells zs T (0, 0))) (hz : zs.size = vs.length) : (Zz u B 0 vs).heap[B]? = some (.cells vs.toArray T (0, 0)) := by
 obtain ⟨cur, h1, h2, _, h4⟩ := Ze8 vs u 0 zs hB (by omega);rw [h1];have : cur = vs.toArray := by
  apply Array.ext
  ·simp [h2, hz]
  ·intro i h5 h6;have := h4 i vs[i] (by simp at h6; simp [h6]);rw [Nat.zero_add] at this;simp only [List.getElem_toArray];exact (Array.getElem?_eq_some_iff.1 this).2
 rw [this]
/-- A Store of the law's own: in block B, its rows in blocks of F, all from lo on and below hi. -/
structure Own (lo hi : Nat) (u : World) (q : Zf) (B : Nat) (F : Nat → Prop) (cs : List Value) : Prop where
 blk : u.heap[B]? = some (.cells cs.toArray 30 (0, 0))
 sp : Zec F u q cs
 dom : ∀ b, F b → lo ≤ b ∧ b < hi
 loB : lo ≤ B
 hiB : B < hi
 nB : ¬ F B
 le : hi ≤ u.heap.size
theorem Own.move {lo hi : Nat} {u v : World} {q : Zf} {B : Nat} {F : Nat → Prop} {cs : List Value} (h : Own lo hi u q B F cs) (hs : u.heap.size ≤ v.heap.size) (hb : ∀ b, lo ≤ b → b < hi → v.heap[b]? = u.heap[b]?) : Own lo hi v q B F cs :=
 ⟨(hb B h.loB h.hiB).trans h.blk, Zbq.is.keep h.sp (fun _ h => h) ⟨hs, fun b hF _ => hb b (h.dom b hF).1 (h.dom b hF).2⟩, h.dom, h.loB, h.hiB, h.nB, Nat.le_trans h.le hs⟩
theorem Own.later {lo hi : Nat} {u v : World} {q : Zf} {B : Nat} {F : Nat → Prop} {cs : List Value} (h : Own lo hi u q B F cs) (hl : Za u v) : Own lo hi v q B F cs :=
 h.move hl.size fun b _ hb => hl.block b (Nat.lt_of_lt_of_le hb h.le)
/-- Another's rows are turned. -/
theorem Own.apart {lo hi lo' hi' : Nat} {u v : World} {q q' : Zf} {B B' : Nat} {F F' : Nat → Prop} {cs cs' : List Value} (h : Own lo hi u q B F cs) (h' : Own lo' hi' u q' B' F' cs') (hk : Ze (fun y => ¬ F' y) u v) (hd : hi ≤ lo' ∨ hi' ≤ lo) : Own lo hi v q B F cs :=
 h.move hk.size fun b h1 h2 => hk.same b (fun hF => by have := h'.dom b hF; omega) (Nat.lt_of_lt_of_le h2 h.le)
/-- Its own rows are turned. -/
theorem Own.turned {lo hi : Nat} {u v : World} {q q' : Zf} {B : Nat} {F : Nat → Prop} {cs : List Value} (h : Own lo hi u q B F cs) (hk : Ze (fun y => ¬ F y) u v) (hsp : Zec F v q' cs) : Own lo hi v q' B F cs :=
 ⟨(hk.same B h.nB (Zb h.blk)).trans h.blk, hsp, h.dom, h.loB, h.hiB, h.nB, Nat.le_trans h.le hk.size⟩
theorem Own.below {lo hi : Nat} {u v : World} {q : Zf} {B : Nat} {F : Nat → Prop} {cs : List Value} (h : Own lo hi u q B F cs) (hk : Ze (fun y => ¬ F y) u v) (h0 : Below 0 u v) {n : Nat} (hn : n ≤ lo) : Below n u v :=
 Ze1 hk h0 (fun b hb => Nat.le_trans hn (h.dom b hb).1) (Nat.le_trans hn (Nat.le_trans h.loB (Nat.le_of_lt (Zb h.blk))))
/-- A Value of the law's own, in block B. -/
structure Zsg (lo hi : Nat) (u : World) (B : Nat) (vs : List Value) : Prop where
 blk : u.heap[B]? = some (.cells vs.toArray 34 (0, 0))
 loB : lo ≤ B
 hiB : B < hi
 le : hi ≤ u.heap.size
theorem Zsg.later {lo hi : Nat} {u v : World} {B : Nat} {vs : List Value} (h : Zsg lo hi u B vs) (hl : Za u v) : Zsg lo hi v B vs :=
 ⟨(hl.block B (Zb h.blk)).trans h.blk, h.loB, h.hiB, Nat.le_trans h.le hl.size⟩
theorem Zsg.apart {lo hi lo' hi' : Nat} {u v : World} {q' : Zf} {B B' : Nat} {F' : Nat → Prop} {cs' : List Value} {vs : List Value} (h : Zsg lo hi u B vs) (h' : Own lo' hi' u q' B' F' cs') (hk : Ze (fun y => ¬ F' y) u v) (hd : ¬ F' B) : Zsg lo hi v B vs :=
 ⟨(hk.same B hd (Zb h.blk)).trans h.blk, h.loB, h.hiB, Nat.le_trans h.le hk.size⟩
/-- Behind a copy that is stored in a variable of its own. -/
theorem Zqk {W u : World} {q : Zf} {F : Nat → Prop} {cs : List Value} (hW : Za W u) (hsp : Zec F u q cs) (hF : ∀ b, F b → W.heap.size ≤ b) :
  Own W.heap.size (u.heap.size + 1) (u.alloc (.cells cs.toArray 30)) q u.heap.size (fun b => F b ∧ b < u.heap.size) cs ∧ Za W (u.alloc (.cells cs.toArray 30)) := by
 have hl : Za u (u.alloc (.cells cs.toArray 30)) := (Za.refl u).alloc _;refine ⟨⟨Za8 rfl, ?_, fun b hb => ⟨hF b hb.1, by have := hb.2; omega⟩, hW.size, by omega, fun h => by have := h.2; omega, by simp⟩, hW.trans hl⟩;exact Zbq.is.keep (Zbq.trim hsp) (fun _ h => h) (Ze.later hl)
/-- What a fact of a drawn region's invariant becomes behind an operation that is not its own. -/
theorem kc {l : Array Bool} {i j : Nat} {p : Prop} (F : Hd (bt l j → p)) (h : i ≠ j := by decide) : Hd (bt (l.setIfInBounds i true) j → p) := fun k => F (Zeq h k)
theorem kS {l : Array Bool} {i j : Nat} {u v : World} {r : Zf} {x : Value} (F : Hd (bt l j → StR u r x)) (hb : Za u v) (h : i ≠ j := by decide) : Hd (bt (l.setIfInBounds i true) j → StR v r x) := fun k => (F (Zeq h k)).later hb
theorem kA {l : Array Bool} {i j : Nat} {W u v : World} {o : Obj} {x : Value} (F : Hd (bt l j → AlR W u o x)) (hb : Za u v) (h : i ≠ j := by decide) : Hd (bt (l.setIfInBounds i true) j → AlR W v o x) := fun k => (F (Zeq h k)).later hb
theorem kM {l : Array Bool} {i j s : Nat} {p : Prop} (F : Hd (bt l j → p ∧ bt l s)) (h : i ≠ j := by decide) : Hd (bt (l.setIfInBounds i true) j → p ∧ bt (l.setIfInBounds i true) s) := fun k => ⟨(F (Zeq h k)).1, Zc8 (F (Zeq h k)).2⟩
theorem kX {l : Array Bool} {i j : Nat} {p q : Prop} (F : Hd (bt l j → p ∧ bt l i)) (hun : ¬ bt l i) (h : i ≠ j := by decide) : Hd (bt (l.setIfInBounds i true) j → q) := fun k => absurd (F (Zeq h k)).2 hun
/-- The last ones of a drawn region are reached. -/
theorem Zb3 {n : Nat} {L : List Nat} {i : Nat} (h : decide (i < n) && !L.contains i) : bt (Zfu n L) i := by
 simp only [Bool.and_eq_true, nJ] at h;unfold bt;rw [Zg3 h.1];exact h.2
/-- One operation of a drawn region, by what it waits for. -/
theorem unb {l : Array Bool} {i : Nat} (hun : l.getD i true = false) (hb : bt l i) : False := by
 have hi : i < l.size := by
  rcases Nat.lt_or_ge i l.size with h1 | h1
  ·exact h1
  ·simp [Array.getD, Nat.not_lt.2 h1] at hun
 unfold bt at hb;rw [Zhh hi false true, hun] at hb
 cases hb
theorem Zc2 {P : Program} {ops : Array Oper} {Q : Exit → Act → World → Prop} {I : Array Bool → Act → World → Prop} {n i : Nat} {o o' : Oper} (hn : ops.size = n) (ho : ops[i]? = some o) (D : List Nat) (hD : (D.all fun d => o.after.any fun e => Region.binds .any e && e.on == d) = true)
  (h : ∀ listed a w, I listed a w → listed.size = n → ¬ bt listed i → (∀ d ∈ D, bt listed d) → wpList P ops (Zlg Q (I (listed.setIfInBounds i true))) [o] a w)
  (ho' : ops[i]? = some o') (listed : Array Bool) (a : Act) (w : World) (hI : I listed a w) (hs : listed.size = ops.size) (hun : listed.getD i true = false) (ha : ∀ e ∈ o'.after, Region.binds .any e = true → listed.getD e.on false = true) : wpOp P ops Q i (I (listed.setIfInBounds i true)) a w := by
 obtain rfl : o = o' := by rw [ho] at ho'; exact Option.some.inj ho'
 exact Zwg ho (h listed a w hI (hs.trans hn) (unb hun) (Zo9 ha D hD))
/-- One operation that reads no memory. -/
theorem Zi1 (d : Option Tmp) {P : Program} {ops : Array Oper} {I : Array Bool → Act → World → Prop} {n i : Nat} {o o' : Oper} (hn : ops.size = n) (ho : ops[i]? = some o) (hd : o.dst = d) (D : List Nat) (hD : (D.all fun d => o.after.any fun e => Region.binds .any e && e.on == d) = true) (hg : ∀ ts, Region.wanted o (yielded ops ts) = true)
  (h : ∀ listed a w, I listed a w → listed.size = n → ¬ bt listed i → (∀ d ∈ D, bt listed d) → ∃ v, (∀ x, (execOp a.eval o).run P x = .ok (.value v) x) ∧ I (listed.setIfInBounds i true) (a.put d v) w)
  (ho' : ops[i]? = some o') (listed : Array Bool) (a : Act) (w : World) (hI : I listed a w) (hs : listed.size = ops.size) (hun : listed.getD i true = false) (ha : ∀ e ∈ o'.after, Region.binds .any e = true → listed.getD e.on false = true) : ∃ v, YieldsIf P ops (fun _ => True) o' v a ∧ I (listed.setIfInBounds i true) (a.put o'.dst v) w := by
 obtain rfl : o = o' := by rw [ho] at ho'; exact Option.some.inj ho'
 obtain ⟨v, h1, h2⟩ := h listed a w hI (hs.trans hn) (unb hun) (Zo9 ha D hD);exact ⟨v, .inl ⟨hg _, fun x _ => h1 x⟩, by rw [hd]; exact h2⟩
theorem Z1 {Q : Exit → Act → World → Prop} {K : Act → World → Prop} {a : Act} {w : World} (h : K a w) : Zlg Q K .normal a w := h
theorem Zm6 {P : Program} {Q : Exit → Act → World → Prop} {c : Code} {a : Act} {w : World} (h : ∀ A, A = a → c.wp P Q A w) : c.wp P Q a w := h a rfl
/-- A drawn region by an invariant, the steps told for every exit. -/
theorem Zjq {P : Program} {ops : Array Oper} {Q : Exit → Act → World → Prop} {I : Array Bool → Act → World → Prop} (L U T : List Nat) (os : List Oper) {id : Nat} {a : Act} {w : World} (hm : P.follows .mixedOrders = true) (hB : Zo8 ops L U = true) (hT : ((List.range ops.size).all fun i => L.contains i || (U.contains i || T.contains i)) = true) (hos : L.map (ops[·]?) = os.map some) (hQ : ∀ c (d : Tmp) v a w, Q (.panic c) (Act.put a (some d) v) w → Q (.panic c) a w)
  (h0 : ∀ w1, w1 = w.drew → I (Array.replicate ops.size false) a w1)
  (hstep : ∀ Q' : Exit → Act → World → Prop, ∀ i ∈ T, ∀ o, ops[i]? = some o → ∀ listed a w, I listed a w → listed.size = ops.size → listed.getD i true = false → (∀ e ∈ o.after, Region.binds .any e = true → listed.getD e.on false = true) → wpOp P ops Q' i (I (listed.setIfInBounds i true)) a w)
  (hpure : ∀ i ∈ U, ∀ o, ops[i]? = some o → ∀ listed a w, I listed a w → listed.size = ops.size → listed.getD i true = false → (∀ e ∈ o.after, Region.binds .any e = true → listed.getD e.on false = true) → ∃ v, YieldsIf P ops (fun _ => True) o v a ∧ I (listed.setIfInBounds i true) (a.put o.dst v) w)
  (hend : ∀ a w, I (Zfu ops.size L) a w → wpList P ops Q os a w) : (Code.region id ops true).wp P Q a w :=
 Zsf L U os hm hB hos hQ h0 (fun i o ho hL hU listed a w hI hs hun ha => hstep Q i (by
  have h1 := List.all_eq_true.1 hT i (List.mem_range.2 (Array.getElem?_eq_some_iff.1 ho).1);rw [hL, hU, Bool.false_or, Bool.false_or] at h1
  simpa using h1) o ho listed a w hI hs hun ha) (fun i o ho hU => hpure i (by simpa using hU) o ho) hend
/-! ### The text of a mark -/
def dch (z : Int) : ByteArray := ⟨[UInt8.ofNat (48 + z % 10).toNat].toArray⟩
def Zjr : Nat → Int → ByteArray → ByteArray
 | 0, _, t => t
 | f + 1, z, t => if z = 0 then t else Zjr f (z / 10) (dch z ++ t)
def Zb2 (k : Int) : ByteArray := ⟨#[109]⟩ ++ Zjr k.toNat k ⟨#[]⟩
theorem Zsh {f : Nat} {z : Int} {t : ByteArray} (hz : 0 < z) (hf : z ≤ f) : Zjr f z t = Zjr (f - 1) (z / 10) (dch z ++ t) := by
 cases f with
 | zero => omega
 | succ f => simp only [Zjr]; rw [if_neg (by omega)]; rfl
theorem Zsi (f : Nat) (t : ByteArray) : Zjr f 0 t = t := by cases f <;> simp [Zjr]
theorem Zmd : ∀ (f : Nat) (z : Int) (t : ByteArray), 0 ≤ z → (z ≤ f) → ((Zjr f z t).size : Int) ≤ t.size + z
 | 0, z, t, h0, hf => by simp only [Zjr]; omega
 | f + 1, z, t, h0, hf => by
  simp only [Zjr]
  split
  ·omega
  ·have := Zmd f (z / 10) (dch z ++ t) (by omega) (by omega);have h1 : (dch z).size = 1 := rfl;rw [ByteArray.size_append, h1] at this
   push_cast at this
   omega
theorem Zga {k : Int} (h : 1 ≤ k) : ((Zb2 k).size : Int) ≤ k + 1 := by
 unfold Zb2;have := Zmd k.toNat k ⟨#[]⟩ (by omega) (by omega);have h0 : (⟨#[]⟩ : ByteArray).size = 0 := rfl;have h1 : (⟨#[109]⟩ : ByteArray).size = 1 := rfl;rw [ByteArray.size_append, h1]
 push_cast
 omega
theorem Zum (x : Int) (h0 : 0 ≤ x) (h1 : x < 256) (w : World) : (convert 22 9 (.slice (some ⟨w.heap.size, 0, none⟩) 1 1)).run Tryz.prog (w.alloc (.cells #[.int .u8 x] 5)) = .ok (.string ⟨[UInt8.ofNat x.toNat].toArray⟩) (w.alloc (.cells #[.int .u8 x] 5)) := by
 have hx : (((UInt8.ofNat x.toNat).toNat : Nat) : Int) = x := by
  rw [UInt8.toNat_ofNat', Nat.mod_eq_of_lt (by omega)]; omega
 exact run_convert_bytes_back (w.alloc (.cells #[.int .u8 x] 5)) 22 9 5 ⟨w.heap.size, 0, none⟩ 1 [UInt8.ofNat x.toNat] Tryz.underlying22 Tryz.underlying5 Tryz.underlying9 (fun j hj => by
  obtain rfl : j = 0 := by simp at hj; omega
  simp [Addr.add]
  omega)
theorem Zc6 (k : Int) (w : World) (hk : 1 ≤ k) (hk1 : k ≤ 1099511627776) :
  Calls Tryz.prog 76 #[.int .i64 k] w fun e w' => e = .returned (.string (Zb2 k)) ∧ Below w.heap.size w w' := by
 have t1 : decide (k ≤ 0) = false := by simp; omega
 go_enter Tryz.func76, Tryz.ntmps76;go_wp2_with fail
 go_loopw [0, 3] (fun kv out wr => ∃ (z : Int) (t : ByteArray) (f : Nat), kv = .int .i64 z ∧ out = .string t ∧ 0 ≤ z ∧ (t.size : Int) + z ≤ k ∧ z ≤ f ∧ Zjr f z t = Zjr k.toNat k ⟨#[]⟩ ∧ Below w.heap.size w wr) (fun kv _ _ => (intOf kv).toNat)
 case atStart => exact ⟨k, ⟨#[]⟩, k.toNat, rfl, rfl, by omega, by show ((0 : Nat) : Int) + k ≤ k; omega, by omega, rfl, Below.refl _ _⟩
 case round =>
  obtain ⟨z, t, f, rfl, rfl, hz, ht, hf, hd, hbel⟩ := hrel;have hsz := hbel.size;have HD := zh hd;clear hd
  by_cases hlt : 0 < z
  ·have hcv := Zum (48 + z % 10) (by omega) (by omega) wr;obtain ⟨s, hs⟩ : ∃ s : ByteArray, ⟨[UInt8.ofNat (48 + z % 10).toNat].toArray⟩ = s := ⟨_, rfl⟩;have hs1 : s.size = 1 := by rw [← hs]; rfl
   rw [hs] at hcv;have HS := zh hs;have HS1 := zh hs1;have hcat : ¬ (9223372036854775807 : Int) < (s.size : Int) + (t.size : Int) := by omega
   clear hs hs1;go_wp2_with fail
   go_roundw
   case rel => exact ⟨z / 10, s ++ t, f - 1, rfl, rfl, by omega, by rw [ByteArray.size_append, HS1.o]; omega, by omega, by rw [← HD.o, Zsh hlt hf, ← HS.o]; rfl, hbel.alloc hsz _⟩
   case measure => simp [intOf]; omega
  ·obtain rfl : z = 0 := by omega
   have hcat : ¬ (9223372036854775807 : Int) < 1 + (t.size : Int) := by omega
   have HT : Hd (t = Zjr k.toNat k ⟨#[]⟩) := zh (by rw [← HD.o, Zsi]);go_wp2_with fail;go_ret;exact ⟨by rw [HT.o]; rfl, hbel⟩
def Zj6 (_ : ByteArray) (k : Int) : ByteArray := Zb2 k
def Zdb (r : Za3) (k : Int) : Za3 := { name := Zb2 (k), fields := Zco Zj6 (fun _ => 1) r.fields (k + 1), line := (k + 1 + (Zi (fun _ => 1) r.fields : Nat)) }
def Z6 (r : Za3) : Nat := 2 + (Zi (fun _ => 1) r.fields)
def Zdt (_ : Zd) (k : Int) : Zd := { kind := k, aH := k + 1, index := k + 2, text := Zb2 (k + 3), set_ := { low := k + 4, high := k + 5 } }
def Z2 (_ : Zd) : Nat := 6
def Zfv (r : Zam) (k : Int) : Zam := { kind := k, tag := k + 1, aI := k + 2, aJ := Zco Zdt Z2 r.aJ (k + 3), aK := Zco Zdt Z2 r.aK ((k + 3 + (Zi Z2 r.aJ : Nat))) }
def Zaw (r : Zam) : Nat := 3 + (Zi Z2 r.aJ + (Zi Z2 r.aK))
def Zfw (_ : Zc4) (k : Int) : Zc4 := { routine := k, frame := k + 1 }
def Zba (_ : Zc4) : Nat := 2
def Zsj (r : Zf) (k : Int) : Zf := { r with names := Zco Zj6 (fun _ => 1) r.names (k), aB := Zco Zdb Z6 r.aB (k + (Zi (fun _ => 1) r.names : Nat)), aA := Zco Zfv Zaw r.aA (k + (Zi (fun _ => 1) r.names : Nat) + (Zi Z6 r.aB : Nat)), globals := Zco Zdt Z2 r.globals (k + (Zi (fun _ => 1) r.names : Nat) + (Zi Z6 r.aB : Nat) + (Zi Zaw r.aA : Nat)), output := Zco Zj6 (fun _ => 1) r.output (k + (Zi (fun _ => 1) r.names : Nat) + (Zi Z6 r.aB : Nat) + (Zi Zaw r.aA : Nat) + (Zi Z2 r.globals : Nat)), trace := Zco Zj6 (fun _ => 1) r.trace (k + (Zi (fun _ => 1) r.names : Nat) + (Zi Z6 r.aB : Nat) + (Zi Zaw r.aA : Nat) + (Zi Z2 r.globals : Nat) + (Zi (fun _ => 1) r.output : Nat)), aE := Zco Zfw Zba r.aE (k + (Zi (fun _ => 1) r.names : Nat) + (Zi Z6 r.aB : Nat) + (Zi Zaw r.aA : Nat) + (Zi Z2 r.globals : Nat) + (Zi (fun _ => 1) r.output : Nat) + (Zi (fun _ => 1) r.trace : Nat)) }
def Zdg (r : Zf) : Nat := Zi (fun _ => 1) r.names + Zi Z6 r.aB + Zi Zaw r.aA + Zi Z2 r.globals + Zi (fun _ => 1) r.output + Zi (fun _ => 1) r.trace + Zi Zba r.aE
theorem Zez {α : Type} (cnt sz : α → Nat) (c d : Nat) (h : ∀ a, cnt a ≤ c + d * sz a) (hcd : c ≤ d) : ∀ l : List α, Zi cnt l ≤ d * Zk sz l
 | [] => Nat.zero_le _
 | a :: l => by
  have h1 := Zez cnt sz c d h hcd l;have h2 := h a;simp only [Zk, Zi, Za0, List.length_cons, Nat.mul_add, Nat.mul_one] at *
  omega
theorem Zhi (l : List ByteArray) : Zi (fun _ => 1) l ≤ 1 * Zk ByteArray.size l := Zez _ _ 1 1 (fun _ => by omega) (by omega) l
theorem Zun (l : List Za3) : Zi Z6 l ≤ 2 * Zk Zp l := Zez _ _ 2 2 (fun r => by
 have := Zhi r.fields;simp only [Z6, Zp]
 omega) (by omega) l
theorem Zlh (l : List Zd) : Zi Z2 l ≤ 6 * Zk Zw l := Zez _ _ 6 6 (fun r => by simp only [Z2]; omega) (by omega) l
theorem Zuo (l : List Zam) : Zi Zaw l ≤ 6 * Zk Zs l := Zez _ _ 3 6 (fun r => by
 have h1 := Zlh r.aJ;have h2 := Zlh r.aK;simp only [Zaw, Zs]
 omega) (by omega) l
theorem Zup (l : List Zc4) : Zi Zba l ≤ 2 * Zk (fun _ => 0) l := Zez _ _ 2 2 (fun r => by simp only [Zba]; omega) (by omega) l
theorem Zsk (r : Zf) : Zdg r ≤ 6 * Zav r := by
 have h1 := Zhi r.names;have h2 := Zun r.aB;have h3 := Zuo r.aA;have h4 := Zlh r.globals;have h5 := Zhi r.output;have h6 := Zhi r.trace;have h7 := Zup r.aE;simp only [Zdg, Zav]
 omega
theorem Zh6 {α : Type} (cnt : α → Nat) : ∀ l m : List α, Zi cnt (l ++ m) = Zi cnt l + Zi cnt m
 | [], m => by simp [Zi]
 | a :: l, m => by simp only [List.cons_append, Zi, Zh6 cnt l m]; omega
def Zh7 (mK : Zaj → Int → Zaj) (cK : Zaj → Nat) (r : Zaj) (k : Int) : Zaj := { op := k, text := Zb2 (k + 1), aH := k + 2, set_ := { low := k + 3, high := k + 4 }, kids := Zco mK cK r.kids (k + 5) }
def Zby (cK : Zaj → Nat) (r : Zaj) : Nat := 5 + (Zi cK r.kids)
def Zq6 (mK : Zaj → Int → Zaj) (cK : Zaj → Nat) (r : Zaj) (k : Int) : Zaj := { r with kids := Zco mK cK r.kids (k) }
def Za6 (cK : Zaj → Nat) (r : Zaj) : Nat := Zi cK r.kids
def Zb6 : Nat → Zaj → Nat
 | 0 => fun _ => 0
 | n + 1 => Zby (Zb6 n)
def mkN : Nat → Zaj → Int → Zaj
 | 0 => fun r _ => r
 | n + 1 => Zh7 (mkN n) (Zb6 n)
theorem Zdc (l : List ByteArray) (v : Value) (F : Nat → Prop) (w : World) (k : Int) (hk : 1 ≤ k) (hk1 : k + (Zi (fun _ => 1) l : Nat) ≤ 1099511627776) (hr : Zbe Zbz 1 9 F w l v) :
  Calls Tryz.prog 72 #[v, .int .i64 k] w fun e w' => e = .returned (.int .i64 (k + (Zi (fun _ => 1) l : Nat))) ∧ Zbe Zbz 1 9 F w' (Zco Zj6 (fun _ => 1) l k) v ∧ Ze (fun y => ¬ F y) w w' ∧ Below 0 w w' := by
 have hr0 := hr;obtain ⟨A, cp, rfl, hc, hcm, hel⟩ := hr;have HCM := zh hcm;unfold maxLen at hcm
 by_cases h0 : l.length = 0
 ·obtain rfl : l = [] := List.eq_nil_of_length_eq_zero h0;have HR := zh hr0;clear hel hr0;go_enter Tryz.func72, Tryz.ntmps72;go_wp2_with fail;refine wp_loop_rounds 1 ?_;rw [rounds_succ];go_wp2_with fail;go_ret;exact ⟨by simp [Zi], HR.o, Ze.refl _ _, Below.refl _ _⟩
 clear hr0;obtain ⟨b, o, cur0, tag, rfl, hFb, hb0, hcp, hall⟩ := hel (by omega);have HS0 : Hd (SAt Zbz 1 9 F b o (o + cp * 1) tag w (Zeh Zj6 (fun _ => 1) l k 0)) := zh (by rw [Zd0]; exact ⟨cur0, hb0, hcp.2, hall⟩);have HO0 := zh hcp.1;have HK1 := zh hk1;clear hel hb0 hcp hall hk1;have HFB := zh hFb;go_enter Tryz.func72, Tryz.ntmps72;go_wp2_with fail
 go_loopw [1, 5] (fun kv i wr => ∃ j : Nat, j ≤ l.length ∧ i = .int .i64 j ∧ kv = .int .i64 (k + (Zi (fun _ => 1) (l.take j) : Nat)) ∧ SAt Zbz 1 9 F b o (o + cp * 1) tag wr (Zeh Zj6 (fun _ => 1) l k j) ∧ Ze (fun y => ¬ F y) w wr ∧ Below 0 w wr) (fun _ i _ => l.length - (intOf i).toNat)
 case atStart => exact ⟨0, Nat.zero_le _, rfl, by simp [Zi], HS0.o, Ze.refl _ _, Below.refl _ _⟩
 case round =>
  obtain ⟨j, hj, rfl, rfl, hat, hkw, hk0⟩ := hrel;have HAT := zh hat;have HKW := zh hkw;have HK0W := zh hk0;have HLE := zh (Zbm (fun _ => 1) l j);obtain ⟨y, hy⟩ : ∃ y : Int, k + (Zi (fun _ => 1) (l.take j) : Nat) = y := ⟨_, rfl⟩;have hy1 : 1 ≤ y := by omega
  have hy2 : y ≤ 1099511627776 := by have := HK1.o; have := HLE.o; omega
  rw [hy];have HY := zh hy;clear hy hat hkw hk0 HLE
  by_cases hlt : j < l.length
  ·have hlt' : (j : Int) < l.length := by omega
   have HCT := zh (Zce (fun _ => 1) l j hlt);have HCL := zh (Zbm (fun _ => 1) l (j + 1));obtain ⟨cur, cs, hb, hs, hst⟩ := HAT.o.open_ Zq.is (i := j) (by rw [Z9]; exact hlt);rw [Zfy Zj6 (fun _ => 1) l k j hlt] at hs;have HB := zh hb;have HST := zh (hst (by decide));obtain ⟨rfl, _⟩ := hs;clear hst hb;have HK : Hd (Ze (fun y => y ≠ b ∧ ¬ ((F y ∧ y ≠ b) ∧ tag y = j)) wr wr) := zh (Ze.refl _ _);have HK0 : Hd (Below 0 wr wr) := zh (Below.refl _ _);have HCE := zh (show (fun _ : ByteArray => (1 : Nat)) l[j] = 1 from rfl);have n0_1 : y + 1 + 1 = y + 2 := by omega
   go_wp2_with fail;clear  n0_1;refine (Zc6 (y) _ (by omega) (by have := HCE.o; have := HCT.o; have := HCL.o; have := HK1.o; have := HY.o; omega)).mono ?_;rintro e w1 ⟨rfl, hb1⟩;replace HST := zh (HST.o.keep (Below.block hb1 _ HST.o.lt));replace HK := zh (HK.o.trans (Ze.later hb1));replace HK0 := zh (HK0.o.trans (Below.mono hb1 (Nat.zero_le _)));clear hb1;have c0 := HST.o.cell (q := 0) rfl;have f0 := HST.o.frozen (o + j);simp only [Nat.add_zero, Nat.mul_one] at c0;have n1_1 : y + 1 + 1 = y + 2 := by omega
   have n1_2 : y + 2 + 1 = y + 3 := by omega
   replace HST := zh (HST.o.set 0 (by simp) (.string (Zb2 (y))));simp only [List.set_cons_zero, List.set_cons_succ, Nat.add_zero, Nat.mul_one] at HST;replace HK := zh (HK.o.set (B := b) (fun h => h.1 rfl) (o + j) (.string (Zb2 (y))));replace HK0 := zh (HK0.o.setCell (p := ⟨b, o + j, none⟩) (Nat.zero_le _) (.string (Zb2 (y))));go_wp2_with fail
   go_roundw
   case rel =>
    refine ⟨j + 1, by omega, by go_num, by have := HCE.o; have := HCT.o; have := HCL.o; have := HK1.o; have := HY.o; congr 1; omega, ?_, HKW.o.trans (HK.o.mono fun z h => ⟨fun e => h (by rw [e]; exact HFB.o), fun h2 => h h2.1.1⟩), HK0W.o.trans HK0.o⟩;rw [Zd1 _ _ _ _ _ hlt, HY.o];exact SAt.put Zq.is HAT.o (i := j) (by rw [Z9]; exact hlt) HB.o (show St _ b (o + j * 1) cur _ _ from by rw [Nat.mul_one]; exact HST.o) (HK.o.mono fun z h => ⟨h.1.2, fun h2 => h.2 h2.2⟩) ⟨rfl, (show (Zb2 (y)).size ≤ maxLen by have := HCE.o; have := HCT.o; have := HCL.o; have := HK1.o; have := HY.o; have := Zga (k := y) (by omega); unfold maxLen; omega)⟩
   case measure => simp [intOf]; omega
  ·have hjl : j = l.length := by omega
   go_wp2_with fail;go_ret;subst hjl;have hrow := HAT.o.row HFB.o (c := cp) (by rw [Z9]; exact hc) HCM.o ⟨HO0.o, Nat.le_refl _⟩;rw [Z9] at hrow;refine ⟨Zak ?_, hrow, HKW.o, HK0W.o⟩;have := HY.o;rw [List.take_length] at this;exact this.symm
theorem Zho (l : List Za3) (v : Value) (F : Nat → Prop) (w : World) (k : Int) (hk : 1 ≤ k) (hk1 : k + (Zi Z6 l : Nat) ≤ 1099511627776) (hr : Zbe Zbx 3 136 F w l v) :
  Calls Tryz.prog 73 #[v, .int .i64 k] w fun e w' => e = .returned (.int .i64 (k + (Zi Z6 l : Nat))) ∧ Zbe Zbx 3 136 F w' (Zco Zdb Z6 l k) v ∧ Ze (fun y => ¬ F y) w w' ∧ Below 0 w w' := by
 have hr0 := hr;obtain ⟨A, cp, rfl, hc, hcm, hel⟩ := hr;have HCM := zh hcm;unfold maxLen at hcm
 by_cases h0 : l.length = 0
 ·obtain rfl : l = [] := List.eq_nil_of_length_eq_zero h0;have HR := zh hr0;clear hel hr0;go_enter Tryz.func73, Tryz.ntmps73;go_wp2_with fail;refine wp_loop_rounds 1 ?_;rw [rounds_succ];go_wp2_with fail;go_ret;exact ⟨by simp [Zi], HR.o, Ze.refl _ _, Below.refl _ _⟩
 clear hr0;obtain ⟨b, o, cur0, tag, rfl, hFb, hb0, hcp, hall⟩ := hel (by omega);have HS0 : Hd (SAt Zbx 3 136 F b o (o + cp * 3) tag w (Zeh Zdb Z6 l k 0)) := zh (by rw [Zd0]; exact ⟨cur0, hb0, hcp.2, hall⟩);have HO0 := zh hcp.1;have HK1 := zh hk1;clear hel hb0 hcp hall hk1;have HFB := zh hFb;go_enter Tryz.func73, Tryz.ntmps73;go_wp2_with fail
 go_loopw [1, 5] (fun kv i wr => ∃ j : Nat, j ≤ l.length ∧ i = .int .i64 j ∧ kv = .int .i64 (k + (Zi Z6 (l.take j) : Nat)) ∧ SAt Zbx 3 136 F b o (o + cp * 3) tag wr (Zeh Zdb Z6 l k j) ∧ Ze (fun y => ¬ F y) w wr ∧ Below 0 w wr) (fun _ i _ => l.length - (intOf i).toNat)
 case atStart => exact ⟨0, Nat.zero_le _, rfl, by simp [Zi], HS0.o, Ze.refl _ _, Below.refl _ _⟩
 case round =>
  obtain ⟨j, hj, rfl, rfl, hat, hkw, hk0⟩ := hrel;have HAT := zh hat;have HKW := zh hkw;have HK0W := zh hk0;have HLE := zh (Zbm Z6 l j);obtain ⟨y, hy⟩ : ∃ y : Int, k + (Zi Z6 (l.take j) : Nat) = y := ⟨_, rfl⟩;have hy1 : 1 ≤ y := by omega
  have hy2 : y ≤ 1099511627776 := by have := HK1.o; have := HLE.o; omega
  rw [hy];have HY := zh hy;clear hy hat hkw hk0 HLE
  by_cases hlt : j < l.length
  ·have hlt' : (j : Int) < l.length := by omega
   have HCT := zh (Zce Z6 l j hlt);have HCL := zh (Zbm Z6 l (j + 1));obtain ⟨cur, cs, hb, hs, hst⟩ := HAT.o.open_ Zt.is (i := j) (by rw [Z9]; exact hlt);rw [Zfy Zdb Z6 l k j hlt] at hs;have HB := zh hb;have HST := zh (hst (by decide));obtain ⟨tg, aU, rfl, bR, bS, bT⟩ := hs;have Rfields := zh bS;clear bR bS bT;clear hst hb;have HK : Hd (Ze (fun y => y ≠ b ∧ ¬ ((F y ∧ y ≠ b) ∧ tag y = j)) wr wr) := zh (Ze.refl _ _);have HK0 : Hd (Below 0 wr wr) := zh (Below.refl _ _);have HCE := zh (show Z6 l[j] = 2 + (Zi (fun _ => 1) l[j].fields) from rfl);have n0_1 : y + 1 + 1 = y + 2 := by omega
   go_wp2_with fail;clear  n0_1;refine (Zc6 (y) _ (by omega) (by have := HCE.o; have := HCT.o; have := HCL.o; have := HK1.o; have := HY.o; omega)).mono ?_;rintro e w1 ⟨rfl, hb1⟩;replace HST := zh (HST.o.keep (Below.block hb1 _ HST.o.lt));replace Rfields := zh (Rfields.o.keep Zq.is (fun _ h => h) (Ze.later hb1));replace HK := zh (HK.o.trans (Ze.later hb1));replace HK0 := zh (HK0.o.trans (Below.mono hb1 (Nat.zero_le _)));clear hb1;have c0 := HST.o.cell (q := 0) rfl;have f0 := HST.o.frozen (o + j * 3);have c1 := HST.o.cell (q := 1) rfl;simp only [Nat.add_zero] at c0;have n1_1 : y + 1 + 1 = y + 2 := by omega
   have n1_2 : y + 2 + 1 = y + 3 := by omega
   go_wp2_with fail;clear c0 f0 c1 n1_1 n1_2;replace HST := zh (HST.o.set 0 (by simp) (.string (Zb2 (y))));simp only [List.set_cons_zero, List.set_cons_succ, Nat.add_zero] at HST;replace Rfields := zh (Rfields.o.keep Zq.is (fun _ h => h) ((Ze.refl _ w1).set (B := b) (fun h => h.1.1.2 rfl) (o + j * 3) (.string (Zb2 (y)))));replace HK := zh (HK.o.set (B := b) (fun h => h.1 rfl) (o + j * 3) (.string (Zb2 (y))));replace HK0 := zh (HK0.o.setCell (p := ⟨b, o + j * 3, none⟩) (Nat.zero_le _) (.string (Zb2 (y))));refine (Zdc l[j].fields aU _ _ (y + 1) (by omega) (by have := HCE.o; have := HCT.o; have := HCL.o; have := HK1.o; have := HY.o; omega) Rfields.o).mono ?_;rintro e w2 ⟨rfl, hr2, hk2, hz2⟩;replace HST := zh (HST.o.keep (hk2.same b (fun h => h.1.1.2 rfl) HST.o.lt));replace Rfields := zh hr2;replace HK := zh (HK.o.trans (hk2.mono fun y h h2 => h.2 h2.1));replace HK0 := zh (HK0.o.trans hz2);clear hr2 hk2 hz2;obtain ⟨y2, hy2⟩ : ∃ z : Int, y + 1 + (Zi (fun _ => 1) l[j].fields : Nat) = z := ⟨_, rfl⟩;rw [hy2];have HY2 := zh hy2;have hl2 : 1 ≤ y2 := by omega
   have hu2 : y2 ≤ 1099511627776 := by have := HCE.o; have := HCT.o; have := HCL.o; have := HK1.o; have := HY.o; omega
   clear hy2;have c2 := HST.o.cell (q := 2) rfl;have f2 := HST.o.frozen (o + j * 3 + 2);have n2_1 : y2 + 1 + 1 = y2 + 2 := by omega
   have n2_2 : y2 + 2 + 1 = y2 + 3 := by omega
   replace HST := zh (HST.o.set 2 (by simp) (.int .i64 (y2)));simp only [List.set_cons_zero, List.set_cons_succ] at HST;replace Rfields := zh (Rfields.o.keep Zq.is (fun _ h => h) ((Ze.refl _ w2).set (B := b) (fun h => h.1.1.2 rfl) (o + j * 3 + 2) (.int .i64 (y2))));replace HK := zh (HK.o.set (B := b) (fun h => h.1 rfl) (o + j * 3 + 2) (.int .i64 (y2)));replace HK0 := zh (HK0.o.setCell (p := ⟨b, o + j * 3 + 2, none⟩) (Nat.zero_le _) (.int .i64 (y2)));go_wp2_with fail
   go_roundw
   case rel =>
    refine ⟨j + 1, by omega, by go_num, by have := HCE.o; have := HCT.o; have := HCL.o; have := HK1.o; have := HY.o; have := HY2.o; congr 1; omega, ?_, HKW.o.trans (HK.o.mono fun z h => ⟨fun e => h (by rw [e]; exact HFB.o), fun h2 => h h2.1.1⟩), HK0W.o.trans HK0.o⟩;rw [Zd1 _ _ _ _ _ hlt, HY.o];exact SAt.put Zt.is HAT.o (i := j) (by rw [Z9]; exact hlt) HB.o HST.o (HK.o.mono fun z h => ⟨h.1.2, fun h2 => h.2 h2.2⟩) ⟨tg, _, by have eHY2 := HY2.o; subst eHY2; rfl, (show (Zb2 (y)).size ≤ maxLen by have := HCE.o; have := HCT.o; have := HCL.o; have := HK1.o; have := HY.o; have := HY2.o; have := Zga (k := y) (by omega); unfold maxLen; omega), (by have eHY2 := HY2.o; subst eHY2; exact Rfields.o), (show Zy ((y + 1 + (Zi (fun _ => 1) l[j].fields : Nat))) by have := HCE.o; have := HCT.o; have := HCL.o; have := HK1.o; have := HY.o; have := HY2.o; unfold Zy; omega)⟩
   case measure => simp [intOf]; omega
  ·have hjl : j = l.length := by omega
   go_wp2_with fail;go_ret;subst hjl;have hrow := HAT.o.row HFB.o (c := cp) (by rw [Z9]; exact hc) HCM.o ⟨HO0.o, Nat.le_refl _⟩;rw [Z9] at hrow;refine ⟨Zak ?_, hrow, HKW.o, HK0W.o⟩;have := HY.o;rw [List.take_length] at this;exact this.symm
theorem Zdu (l : List Zd) (v : Value) (F : Nat → Prop) (w : World) (k : Int) (hk : 1 ≤ k) (hk1 : k + (Zi Z2 l : Nat) ≤ 1099511627776) (hr : Zbe Zg 6 34 F w l v) :
  Calls Tryz.prog 28 #[v, .int .i64 k] w fun e w' => e = .returned (.int .i64 (k + (Zi Z2 l : Nat))) ∧ Zbe Zg 6 34 F w' (Zco Zdt Z2 l k) v ∧ Ze (fun y => ¬ F y) w w' ∧ Below 0 w w' := by
 have hr0 := hr;obtain ⟨A, cp, rfl, hc, hcm, hel⟩ := hr;have HCM := zh hcm;unfold maxLen at hcm
 by_cases h0 : l.length = 0
 ·obtain rfl : l = [] := List.eq_nil_of_length_eq_zero h0;have HR := zh hr0;clear hel hr0;go_enter Tryz.func28, Tryz.ntmps28;go_wp2_with fail;refine wp_loop_rounds 1 ?_;rw [rounds_succ];go_wp2_with fail;go_ret;exact ⟨by simp [Zi], HR.o, Ze.refl _ _, Below.refl _ _⟩
 clear hr0;obtain ⟨b, o, cur0, tag, rfl, hFb, hb0, hcp, hall⟩ := hel (by omega);have HS0 : Hd (SAt Zg 6 34 F b o (o + cp * 6) tag w (Zeh Zdt Z2 l k 0)) := zh (by rw [Zd0]; exact ⟨cur0, hb0, hcp.2, hall⟩);have HO0 := zh hcp.1;have HK1 := zh hk1;clear hel hb0 hcp hall hk1;have HFB := zh hFb;go_enter Tryz.func28, Tryz.ntmps28;go_wp2_with fail
 go_loopw [1, 5] (fun kv i wr => ∃ j : Nat, j ≤ l.length ∧ i = .int .i64 j ∧ kv = .int .i64 (k + (Zi Z2 (l.take j) : Nat)) ∧ SAt Zg 6 34 F b o (o + cp * 6) tag wr (Zeh Zdt Z2 l k j) ∧ Ze (fun y => ¬ F y) w wr ∧ Below 0 w wr) (fun _ i _ => l.length - (intOf i).toNat)
 case atStart => exact ⟨0, Nat.zero_le _, rfl, by simp [Zi], HS0.o, Ze.refl _ _, Below.refl _ _⟩
 case round =>
  obtain ⟨j, hj, rfl, rfl, hat, hkw, hk0⟩ := hrel;have HAT := zh hat;have HKW := zh hkw;have HK0W := zh hk0;have HLE := zh (Zbm Z2 l j);obtain ⟨y, hy⟩ : ∃ y : Int, k + (Zi Z2 (l.take j) : Nat) = y := ⟨_, rfl⟩;have hy1 : 1 ≤ y := by omega
  have hy2 : y ≤ 1099511627776 := by have := HK1.o; have := HLE.o; omega
  rw [hy];have HY := zh hy;clear hy hat hkw hk0 HLE
  by_cases hlt : j < l.length
  ·have hlt' : (j : Int) < l.length := by omega
   have HCT := zh (Zce Z2 l j hlt);have HCL := zh (Zbm Z2 l (j + 1));obtain ⟨cur, cs, hb, hs, hst⟩ := HAT.o.open_ Zl.is (i := j) (by rw [Z9]; exact hlt);rw [Zfy Zdt Z2 l k j hlt] at hs;have HB := zh hb;have HST := zh (hst (by decide));obtain ⟨rfl, bH, bI, bJ, bK, bL, bM⟩ := hs;clear bH bI bJ bK bL bM;clear hst hb;have HK : Hd (Ze (fun y => y ≠ b ∧ ¬ ((F y ∧ y ≠ b) ∧ tag y = j)) wr wr) := zh (Ze.refl _ _);have HK0 : Hd (Below 0 wr wr) := zh (Below.refl _ _);have HCE := zh (show Z2 l[j] = 6 from rfl);have c0 := HST.o.cell (q := 0) rfl;have f0 := HST.o.frozen (o + j * 6);have c1 := HST.o.cell (q := 1) rfl;have f1 := HST.o.frozen (o + j * 6 + 1);have c2 := HST.o.cell (q := 2) rfl;have f2 := HST.o.frozen (o + j * 6 + 2);simp only [Nat.add_zero] at c0;have n0_1 : y + 1 + 1 = y + 2 := by omega
   have n0_2 : y + 2 + 1 = y + 3 := by omega
   have n0_3 : y + 3 + 1 = y + 4 := by omega
   have n0_4 : y + 4 + 1 = y + 5 := by omega
   go_wp2_with fail;clear c0 f0 c1 f1 c2 f2 n0_1 n0_2 n0_3 n0_4;replace HST := zh (((HST.o.set 0 (by simp) (.int .i64 (y))).set 1 (by simp) (.int .i64 (y + 1))).set 2 (by simp) (.int .i64 (y + 2)));simp only [List.set_cons_zero, List.set_cons_succ, Nat.add_zero] at HST;replace HK := zh (((HK.o.set (B := b) (fun h => h.1 rfl) (o + j * 6) (.int .i64 (y))).set (B := b) (fun h => h.1 rfl) (o + j * 6 + 1) (.int .i64 (y + 1))).set (B := b) (fun h => h.1 rfl) (o + j * 6 + 2) (.int .i64 (y + 2)));replace HK0 := zh (((HK0.o.setCell (p := ⟨b, o + j * 6, none⟩) (Nat.zero_le _) (.int .i64 (y))).setCell (p := ⟨b, o + j * 6 + 1, none⟩) (Nat.zero_le _) (.int .i64 (y + 1))).setCell (p := ⟨b, o + j * 6 + 2, none⟩) (Nat.zero_le _) (.int .i64 (y + 2)));refine (Zc6 (y + 3) _ (by omega) (by have := HCE.o; have := HCT.o; have := HCL.o; have := HK1.o; have := HY.o; omega)).mono ?_;rintro e w1 ⟨rfl, hb1⟩;replace HST := zh (HST.o.keep (Below.block hb1 _ HST.o.lt));replace HK := zh (HK.o.trans (Ze.later hb1));replace HK0 := zh (HK0.o.trans (Below.mono hb1 (Nat.zero_le _)));clear hb1;have c3 := HST.o.cell (q := 3) rfl;have f3 := HST.o.frozen (o + j * 6 + 3);have c4 := HST.o.cell (q := 4) rfl;have f4 := HST.o.frozen (o + j * 6 + 4);have c5 := HST.o.cell (q := 5) rfl;have f5 := HST.o.frozen (o + j * 6 + 5);have n1_1 : y + 1 + 1 = y + 2 := by omega
   have n1_2 : y + 2 + 1 = y + 3 := by omega
   have n1_3 : y + 3 + 1 = y + 4 := by omega
   have n1_4 : y + 4 + 1 = y + 5 := by omega
   have n1_5 : y + 5 + 1 = y + 6 := by omega
   have n1_6 : y + 6 + 1 = y + 7 := by omega
   have n1_7 : y + 7 + 1 = y + 8 := by omega
   replace HST := zh (((HST.o.set 3 (by simp) (.string (Zb2 (y + 3)))).set 4 (by simp) (.int .i64 (y + 4))).set 5 (by simp) (.int .i64 (y + 5)));simp only [List.set_cons_zero, List.set_cons_succ] at HST;replace HK := zh (((HK.o.set (B := b) (fun h => h.1 rfl) (o + j * 6 + 3) (.string (Zb2 (y + 3)))).set (B := b) (fun h => h.1 rfl) (o + j * 6 + 4) (.int .i64 (y + 4))).set (B := b) (fun h => h.1 rfl) (o + j * 6 + 5) (.int .i64 (y + 5)));replace HK0 := zh (((HK0.o.setCell (p := ⟨b, o + j * 6 + 3, none⟩) (Nat.zero_le _) (.string (Zb2 (y + 3)))).setCell (p := ⟨b, o + j * 6 + 4, none⟩) (Nat.zero_le _) (.int .i64 (y + 4))).setCell (p := ⟨b, o + j * 6 + 5, none⟩) (Nat.zero_le _) (.int .i64 (y + 5)));go_wp2_with fail
   go_roundw
   case rel =>
    refine ⟨j + 1, by omega, by go_num, by have := HCE.o; have := HCT.o; have := HCL.o; have := HK1.o; have := HY.o; congr 1; omega, ?_, HKW.o.trans (HK.o.mono fun z h => ⟨fun e => h (by rw [e]; exact HFB.o), fun h2 => h h2.1.1⟩), HK0W.o.trans HK0.o⟩;rw [Zd1 _ _ _ _ _ hlt, HY.o];exact SAt.put Zl.is HAT.o (i := j) (by rw [Z9]; exact hlt) HB.o HST.o (HK.o.mono fun z h => ⟨h.1.2, fun h2 => h.2 h2.2⟩) ⟨rfl, (show Zy (y) by have := HCE.o; have := HCT.o; have := HCL.o; have := HK1.o; have := HY.o; unfold Zy; omega), (show Zy (y + 1) by have := HCE.o; have := HCT.o; have := HCL.o; have := HK1.o; have := HY.o; unfold Zy; omega), (show Zy (y + 2) by have := HCE.o; have := HCT.o; have := HCL.o; have := HK1.o; have := HY.o; unfold Zy; omega), (show (Zb2 (y + 3)).size ≤ maxLen by have := HCE.o; have := HCT.o; have := HCL.o; have := HK1.o; have := HY.o; have := Zga (k := y + 3) (by omega); unfold maxLen; omega), (show Zy (y + 4) by have := HCE.o; have := HCT.o; have := HCL.o; have := HK1.o; have := HY.o; unfold Zy; omega), (show Zy (y + 5) by have := HCE.o; have := HCT.o; have := HCL.o; have := HK1.o; have := HY.o; unfold Zy; omega)⟩
   case measure => simp [intOf]; omega
  ·have hjl : j = l.length := by omega
   go_wp2_with fail;go_ret;subst hjl;have hrow := HAT.o.row HFB.o (c := cp) (by rw [Z9]; exact hc) HCM.o ⟨HO0.o, Nat.le_refl _⟩;rw [Z9] at hrow;refine ⟨Zak ?_, hrow, HKW.o, HK0W.o⟩;have := HY.o;rw [List.take_length] at this;exact this.symm
theorem Zki (l : List Zam) (v : Value) (F : Nat → Prop) (w : World) (k : Int) (hk : 1 ≤ k) (hk1 : k + (Zi Zaw l : Nat) ≤ 1099511627776) (hr : Zbe Zc9 5 94 F w l v) :
  Calls Tryz.prog 74 #[v, .int .i64 k] w fun e w' => e = .returned (.int .i64 (k + (Zi Zaw l : Nat))) ∧ Zbe Zc9 5 94 F w' (Zco Zfv Zaw l k) v ∧ Ze (fun y => ¬ F y) w w' ∧ Below 0 w w' := by
 have hr0 := hr;obtain ⟨A, cp, rfl, hc, hcm, hel⟩ := hr;have HCM := zh hcm;unfold maxLen at hcm
 by_cases h0 : l.length = 0
 ·obtain rfl : l = [] := List.eq_nil_of_length_eq_zero h0;have HR := zh hr0;clear hel hr0;go_enter Tryz.func74, Tryz.ntmps74;go_wp2_with fail;refine wp_loop_rounds 1 ?_;rw [rounds_succ];go_wp2_with fail;go_ret;exact ⟨by simp [Zi], HR.o, Ze.refl _ _, Below.refl _ _⟩
 clear hr0;obtain ⟨b, o, cur0, tag, rfl, hFb, hb0, hcp, hall⟩ := hel (by omega);have HS0 : Hd (SAt Zc9 5 94 F b o (o + cp * 5) tag w (Zeh Zfv Zaw l k 0)) := zh (by rw [Zd0]; exact ⟨cur0, hb0, hcp.2, hall⟩);have HO0 := zh hcp.1;have HK1 := zh hk1;clear hel hb0 hcp hall hk1;have HFB := zh hFb;go_enter Tryz.func74, Tryz.ntmps74;go_wp2_with fail
 go_loopw [1, 5] (fun kv i wr => ∃ j : Nat, j ≤ l.length ∧ i = .int .i64 j ∧ kv = .int .i64 (k + (Zi Zaw (l.take j) : Nat)) ∧ SAt Zc9 5 94 F b o (o + cp * 5) tag wr (Zeh Zfv Zaw l k j) ∧ Ze (fun y => ¬ F y) w wr ∧ Below 0 w wr) (fun _ i _ => l.length - (intOf i).toNat)
 case atStart => exact ⟨0, Nat.zero_le _, rfl, by simp [Zi], HS0.o, Ze.refl _ _, Below.refl _ _⟩
 case round =>
  obtain ⟨j, hj, rfl, rfl, hat, hkw, hk0⟩ := hrel;have HAT := zh hat;have HKW := zh hkw;have HK0W := zh hk0;have HLE := zh (Zbm Zaw l j);obtain ⟨y, hy⟩ : ∃ y : Int, k + (Zi Zaw (l.take j) : Nat) = y := ⟨_, rfl⟩;have hy1 : 1 ≤ y := by omega
  have hy2 : y ≤ 1099511627776 := by have := HK1.o; have := HLE.o; omega
  rw [hy];have HY := zh hy;clear hy hat hkw hk0 HLE
  by_cases hlt : j < l.length
  ·have hlt' : (j : Int) < l.length := by omega
   have HCT := zh (Zce Zaw l j hlt);have HCL := zh (Zbm Zaw l (j + 1));obtain ⟨cur, cs, hb, hs, hst⟩ := HAT.o.open_ Z7.is (i := j) (by rw [Z9]; exact hlt);rw [Zfy Zfv Zaw l k j hlt] at hs;have HB := zh hb;have HST := zh (hst (by decide));obtain ⟨tg, aS, aT, rfl, bH, bN, bO, bP, bQ⟩ := hs;have Ritems := zh bP;have Rkeys := zh bQ;clear bH bN bO bP bQ;clear hst hb;have HK : Hd (Ze (fun y => y ≠ b ∧ ¬ ((F y ∧ y ≠ b) ∧ tag y = j)) wr wr) := zh (Ze.refl _ _);have HK0 : Hd (Below 0 wr wr) := zh (Below.refl _ _);have HCE := zh (show Zaw l[j] = 3 + (Zi Z2 l[j].aJ + (Zi Z2 l[j].aK)) from rfl);have c0 := HST.o.cell (q := 0) rfl;have f0 := HST.o.frozen (o + j * 5);have c1 := HST.o.cell (q := 1) rfl;have f1 := HST.o.frozen (o + j * 5 + 1);have c2 := HST.o.cell (q := 2) rfl;have f2 := HST.o.frozen (o + j * 5 + 2);have c3 := HST.o.cell (q := 3) rfl;simp only [Nat.add_zero] at c0;have n0_1 : y + 1 + 1 = y + 2 := by omega
   have n0_2 : y + 2 + 1 = y + 3 := by omega
   have n0_3 : y + 3 + 1 = y + 4 := by omega
   have n0_4 : y + 4 + 1 = y + 5 := by omega
   go_wp2_with fail;clear c0 f0 c1 f1 c2 f2 c3 n0_1 n0_2 n0_3 n0_4;replace HST := zh (((HST.o.set 0 (by simp) (.int .i64 (y))).set 1 (by simp) (.int .i64 (y + 1))).set 2 (by simp) (.int .i64 (y + 2)));simp only [List.set_cons_zero, List.set_cons_succ, Nat.add_zero] at HST;replace Ritems := zh (Ritems.o.keep Zl.is (fun _ h => h) ((((Ze.refl _ wr).set (B := b) (fun h => h.1.1.2 rfl) (o + j * 5) (.int .i64 (y))).set (B := b) (fun h => h.1.1.2 rfl) (o + j * 5 + 1) (.int .i64 (y + 1))).set (B := b) (fun h => h.1.1.2 rfl) (o + j * 5 + 2) (.int .i64 (y + 2))));replace Rkeys := zh (Rkeys.o.keep Zl.is (fun _ h => h) ((((Ze.refl _ wr).set (B := b) (fun h => h.1.1.2 rfl) (o + j * 5) (.int .i64 (y))).set (B := b) (fun h => h.1.1.2 rfl) (o + j * 5 + 1) (.int .i64 (y + 1))).set (B := b) (fun h => h.1.1.2 rfl) (o + j * 5 + 2) (.int .i64 (y + 2))));replace HK := zh (((HK.o.set (B := b) (fun h => h.1 rfl) (o + j * 5) (.int .i64 (y))).set (B := b) (fun h => h.1 rfl) (o + j * 5 + 1) (.int .i64 (y + 1))).set (B := b) (fun h => h.1 rfl) (o + j * 5 + 2) (.int .i64 (y + 2)));replace HK0 := zh (((HK0.o.setCell (p := ⟨b, o + j * 5, none⟩) (Nat.zero_le _) (.int .i64 (y))).setCell (p := ⟨b, o + j * 5 + 1, none⟩) (Nat.zero_le _) (.int .i64 (y + 1))).setCell (p := ⟨b, o + j * 5 + 2, none⟩) (Nat.zero_le _) (.int .i64 (y + 2)));refine (Zdu l[j].aJ aS _ _ (y + 3) (by omega) (by have := HCE.o; have := HCT.o; have := HCL.o; have := HK1.o; have := HY.o; omega) Ritems.o).mono ?_
   rintro e w1 ⟨rfl, hr1, hk1, hz1⟩;replace HST := zh (HST.o.keep (hk1.same b (fun h => h.1.1.2 rfl) HST.o.lt));replace Ritems := zh hr1;replace Rkeys := zh (Rkeys.o.keep Zl.is (fun _ h => h) (hk1.mono fun y h h2 => absurd (h.2.symm.trans h2.2) (by decide)));replace HK := zh (HK.o.trans (hk1.mono fun y h h2 => h.2 h2.1));replace HK0 := zh (HK0.o.trans hz1);clear hr1 hk1 hz1;obtain ⟨y1, hy1⟩ : ∃ z : Int, y + 3 + (Zi Z2 l[j].aJ : Nat) = z := ⟨_, rfl⟩;rw [hy1];have HY1 := zh hy1;have hl1 : 1 ≤ y1 := by omega
   have hu1 : y1 ≤ 1099511627776 := by have := HCE.o; have := HCT.o; have := HCL.o; have := HK1.o; have := HY.o; omega
   clear hy1;have c4 := HST.o.cell (q := 4) rfl;have n1_1 : y1 + 1 + 1 = y1 + 2 := by omega
   go_wp2_with fail;clear c4 n1_1;refine (Zdu l[j].aK aT _ _ (y1) (by omega) (by have := HCE.o; have := HCT.o; have := HCL.o; have := HK1.o; have := HY.o; have := HY1.o; omega) Rkeys.o).mono ?_;rintro e w2 ⟨rfl, hr2, hk2, hz2⟩;replace HST := zh (HST.o.keep (hk2.same b (fun h => h.1.1.2 rfl) HST.o.lt));replace Rkeys := zh hr2;replace Ritems := zh (Ritems.o.keep Zl.is (fun _ h => h) (hk2.mono fun y h h2 => absurd (h.2.symm.trans h2.2) (by decide)));replace HK := zh (HK.o.trans (hk2.mono fun y h h2 => h.2 h2.1));replace HK0 := zh (HK0.o.trans hz2);clear hr2 hk2 hz2;obtain ⟨y2, hy2⟩ : ∃ z : Int, y1 + (Zi Z2 l[j].aK : Nat) = z := ⟨_, rfl⟩;rw [hy2];have HY2 := zh hy2;have hl2 : 1 ≤ y2 := by omega
   have hu2 : y2 ≤ 1099511627776 := by have := HCE.o; have := HCT.o; have := HCL.o; have := HK1.o; have := HY.o; have := HY1.o; omega
   clear hy2;go_wp2_with fail
   go_roundw
   case rel =>
    refine ⟨j + 1, by omega, by go_num, by have := HCE.o; have := HCT.o; have := HCL.o; have := HK1.o; have := HY.o; have := HY1.o; have := HY2.o; congr 1; omega, ?_, HKW.o.trans (HK.o.mono fun z h => ⟨fun e => h (by rw [e]; exact HFB.o), fun h2 => h h2.1.1⟩), HK0W.o.trans HK0.o⟩;rw [Zd1 _ _ _ _ _ hlt, HY.o];exact SAt.put Z7.is HAT.o (i := j) (by rw [Z9]; exact hlt) HB.o HST.o (HK.o.mono fun z h => ⟨h.1.2, fun h2 => h.2 h2.2⟩) ⟨tg, _, _, by have eHY1 := HY1.o; subst eHY1; have eHY2 := HY2.o; subst eHY2; rfl, (show Zy (y) by have := HCE.o; have := HCT.o; have := HCL.o; have := HK1.o; have := HY.o; have := HY1.o; have := HY2.o; unfold Zy; omega), (show Zy (y + 1) by have := HCE.o; have := HCT.o; have := HCL.o; have := HK1.o; have := HY.o; have := HY1.o; have := HY2.o; unfold Zy; omega), (show Zy (y + 2) by have := HCE.o; have := HCT.o; have := HCL.o; have := HK1.o; have := HY.o; have := HY1.o; have := HY2.o; unfold Zy; omega), (by have eHY1 := HY1.o; subst eHY1; have eHY2 := HY2.o; subst eHY2; exact Ritems.o), (by have eHY1 := HY1.o; subst eHY1; have eHY2 := HY2.o; subst eHY2; exact Rkeys.o)⟩
   case measure => simp [intOf]; omega
  ·have hjl : j = l.length := by omega
   go_wp2_with fail;go_ret;subst hjl;have hrow := HAT.o.row HFB.o (c := cp) (by rw [Z9]; exact hc) HCM.o ⟨HO0.o, Nat.le_refl _⟩;rw [Z9] at hrow;refine ⟨Zak ?_, hrow, HKW.o, HK0W.o⟩;have := HY.o;rw [List.take_length] at this;exact this.symm
theorem Zkj (l : List Zc4) (v : Value) (F : Nat → Prop) (w : World) (k : Int) (hk : 1 ≤ k) (hk1 : k + (Zi Zba l : Nat) ≤ 1099511627776) (hr : Zbe Zbg 2 89 F w l v) :
  Calls Tryz.prog 75 #[v, .int .i64 k] w fun e w' => e = .returned (.int .i64 (k + (Zi Zba l : Nat))) ∧ Zbe Zbg 2 89 F w' (Zco Zfw Zba l k) v ∧ Ze (fun y => ¬ F y) w w' ∧ Below 0 w w' := by
 have hr0 := hr;obtain ⟨A, cp, rfl, hc, hcm, hel⟩ := hr;have HCM := zh hcm;unfold maxLen at hcm
 by_cases h0 : l.length = 0
 ·obtain rfl : l = [] := List.eq_nil_of_length_eq_zero h0;have HR := zh hr0;clear hel hr0;go_enter Tryz.func75, Tryz.ntmps75;go_wp2_with fail;refine wp_loop_rounds 1 ?_;rw [rounds_succ];go_wp2_with fail;go_ret;exact ⟨by simp [Zi], HR.o, Ze.refl _ _, Below.refl _ _⟩
 clear hr0;obtain ⟨b, o, cur0, tag, rfl, hFb, hb0, hcp, hall⟩ := hel (by omega);have HS0 : Hd (SAt Zbg 2 89 F b o (o + cp * 2) tag w (Zeh Zfw Zba l k 0)) := zh (by rw [Zd0]; exact ⟨cur0, hb0, hcp.2, hall⟩);have HO0 := zh hcp.1;have HK1 := zh hk1;clear hel hb0 hcp hall hk1;have HFB := zh hFb;go_enter Tryz.func75, Tryz.ntmps75;go_wp2_with fail
 go_loopw [1, 5] (fun kv i wr => ∃ j : Nat, j ≤ l.length ∧ i = .int .i64 j ∧ kv = .int .i64 (k + (Zi Zba (l.take j) : Nat)) ∧ SAt Zbg 2 89 F b o (o + cp * 2) tag wr (Zeh Zfw Zba l k j) ∧ Ze (fun y => ¬ F y) w wr ∧ Below 0 w wr) (fun _ i _ => l.length - (intOf i).toNat)
 case atStart => exact ⟨0, Nat.zero_le _, rfl, by simp [Zi], HS0.o, Ze.refl _ _, Below.refl _ _⟩
 case round =>
  obtain ⟨j, hj, rfl, rfl, hat, hkw, hk0⟩ := hrel;have HAT := zh hat;have HKW := zh hkw;have HK0W := zh hk0;have HLE := zh (Zbm Zba l j);obtain ⟨y, hy⟩ : ∃ y : Int, k + (Zi Zba (l.take j) : Nat) = y := ⟨_, rfl⟩;have hy1 : 1 ≤ y := by omega
  have hy2 : y ≤ 1099511627776 := by have := HK1.o; have := HLE.o; omega
  rw [hy];have HY := zh hy;clear hy hat hkw hk0 HLE
  by_cases hlt : j < l.length
  ·have hlt' : (j : Int) < l.length := by omega
   have HCT := zh (Zce Zba l j hlt);have HCL := zh (Zbm Zba l (j + 1));obtain ⟨cur, cs, hb, hs, hst⟩ := HAT.o.open_ Zaq.is (i := j) (by rw [Z9]; exact hlt);rw [Zfy Zfw Zba l k j hlt] at hs;have HB := zh hb;have HST := zh (hst (by decide));obtain ⟨rfl, hroutine, hframe⟩ := hs;clear hroutine hframe;clear hst hb;have HK : Hd (Ze (fun y => y ≠ b ∧ ¬ ((F y ∧ y ≠ b) ∧ tag y = j)) wr wr) := zh (Ze.refl _ _);have HK0 : Hd (Below 0 wr wr) := zh (Below.refl _ _);have HCE := zh (show Zba l[j] = 2 from rfl);have c0 := HST.o.cell (q := 0) rfl;have f0 := HST.o.frozen (o + j * 2);have c1 := HST.o.cell (q := 1) rfl;have f1 := HST.o.frozen (o + j * 2 + 1);simp only [Nat.add_zero] at c0;have n0_1 : y + 1 + 1 = y + 2 := by omega
   have n0_2 : y + 2 + 1 = y + 3 := by omega
   have n0_3 : y + 3 + 1 = y + 4 := by omega
   replace HST := zh ((HST.o.set 0 (by simp) (.int .i64 (y))).set 1 (by simp) (.int .i64 (y + 1)));simp only [List.set_cons_zero, List.set_cons_succ, Nat.add_zero] at HST;replace HK := zh ((HK.o.set (B := b) (fun h => h.1 rfl) (o + j * 2) (.int .i64 (y))).set (B := b) (fun h => h.1 rfl) (o + j * 2 + 1) (.int .i64 (y + 1)));replace HK0 := zh ((HK0.o.setCell (p := ⟨b, o + j * 2, none⟩) (Nat.zero_le _) (.int .i64 (y))).setCell (p := ⟨b, o + j * 2 + 1, none⟩) (Nat.zero_le _) (.int .i64 (y + 1)));go_wp2_with fail
   go_roundw
   case rel =>
    refine ⟨j + 1, by omega, by go_num, by have := HCE.o; have := HCT.o; have := HCL.o; have := HK1.o; have := HY.o; congr 1; omega, ?_, HKW.o.trans (HK.o.mono fun z h => ⟨fun e => h (by rw [e]; exact HFB.o), fun h2 => h h2.1.1⟩), HK0W.o.trans HK0.o⟩;rw [Zd1 _ _ _ _ _ hlt, HY.o];exact SAt.put Zaq.is HAT.o (i := j) (by rw [Z9]; exact hlt) HB.o HST.o (HK.o.mono fun z h => ⟨h.1.2, fun h2 => h.2 h2.2⟩) ⟨rfl, (show Zy (y) by have := HCE.o; have := HCT.o; have := HCL.o; have := HK1.o; have := HY.o; unfold Zy; omega), (show Zy (y + 1) by have := HCE.o; have := HCT.o; have := HCL.o; have := HK1.o; have := HY.o; unfold Zy; omega)⟩
   case measure => simp [intOf]; omega
  ·have hjl : j = l.length := by omega
   go_wp2_with fail;go_ret;subst hjl;have hrow := HAT.o.row HFB.o (c := cp) (by rw [Z9]; exact hc) HCM.o ⟨HO0.o, Nat.le_refl _⟩;rw [Z9] at hrow;refine ⟨Zak ?_, hrow, HKW.o, HK0W.o⟩;have := HY.o;rw [List.take_length] at this;exact this.symm
theorem Zlx (r : Zf) (cs : List Value) (F : Nat → Prop) (w : World) (k : Int) (hk : 1 ≤ k) (hk1 : k + (Zdg r : Nat) ≤ 1099511627776) (h : Zec F w r cs) :
  Calls Tryz.prog 25 #[.agg cs.toArray, .int .i64 k] w fun e w' => e = .returned (.int .i64 (k + (Zdg r : Nat))) ∧ Zec F w' (Zsj r k) cs ∧ Ze (fun y => ¬ F y) w w' ∧ Below 0 w w' := by
 obtain ⟨tag, aL, aM, aN, aO, aP, aQ, aR, rfl, aV, aW, aX, aY, aZ, bA, bB, bC, bD, bE, bF, bG⟩ := Zbq.trim h;clear h;have HCE := zh (show Zdg r = Zi (fun _ => 1) r.names + Zi Z6 r.aB + Zi Zaw r.aA + Zi Z2 r.globals + Zi (fun _ => 1) r.output + Zi (fun _ => 1) r.trace + Zi Zba r.aE from rfl);have HK1 := zh hk1;clear hk1;have HP := zh (heap_alloc_new w (.cells #[aL, aM, aN, aO, .string r.aC, .int .i64 r.aD, aP, aQ, aR, .bool r.aF, .int .i64 r.ticks, .int .i64 r.aG, .int .i64 r.made] 30));have HK := zh (Ze.later (F := fun y => ¬ (F y ∧ y < w.heap.size)) ((Za.refl w).alloc (.cells #[aL, aM, aN, aO, .string r.aC, .int .i64 r.aD, aP, aQ, aR, .bool r.aF, .int .i64 r.ticks, .int .i64 r.aG, .int .i64 r.made] 30)));have HK0 := zh ((Below.refl 0 w).alloc (Nat.zero_le _) (.cells #[aL, aM, aN, aO, .string r.aC, .int .i64 r.aD, aP, aQ, aR, .bool r.aF, .int .i64 r.ticks, .int .i64 r.aG, .int .i64 r.made] 30));have Rnames := zh (aV.later Zq.is ((Za.refl w).alloc (.cells #[aL, aM, aN, aO, .string r.aC, .int .i64 r.aD, aP, aQ, aR, .bool r.aF, .int .i64 r.ticks, .int .i64 r.aG, .int .i64 r.made] 30)))
 clear aV;have Rrecords := zh (aW.later Zt.is ((Za.refl w).alloc (.cells #[aL, aM, aN, aO, .string r.aC, .int .i64 r.aD, aP, aQ, aR, .bool r.aF, .int .i64 r.ticks, .int .i64 r.aG, .int .i64 r.made] 30)));clear aW;have Robjects := zh (aX.later Z7.is ((Za.refl w).alloc (.cells #[aL, aM, aN, aO, .string r.aC, .int .i64 r.aD, aP, aQ, aR, .bool r.aF, .int .i64 r.ticks, .int .i64 r.aG, .int .i64 r.made] 30)));clear aX;have Rglobals := zh (aY.later Zl.is ((Za.refl w).alloc (.cells #[aL, aM, aN, aO, .string r.aC, .int .i64 r.aD, aP, aQ, aR, .bool r.aF, .int .i64 r.ticks, .int .i64 r.aG, .int .i64 r.made] 30)));clear aY;have Hsubject := zh aZ;clear aZ;have Hposition := zh bA;clear bA;have Routput := zh (bB.later Zq.is ((Za.refl w).alloc (.cells #[aL, aM, aN, aO, .string r.aC, .int .i64 r.aD, aP, aQ, aR, .bool r.aF, .int .i64 r.ticks, .int .i64 r.aG, .int .i64 r.made] 30)));clear bB;have Rtrace := zh (bC.later Zq.is ((Za.refl w).alloc (.cells #[aL, aM, aN, aO, .string r.aC, .int .i64 r.aD, aP, aQ, aR, .bool r.aF, .int .i64 r.ticks, .int .i64 r.aG, .int .i64 r.made] 30)))
 clear bC;have Ractives := zh (bD.later Zaq.is ((Za.refl w).alloc (.cells #[aL, aM, aN, aO, .string r.aC, .int .i64 r.aD, aP, aQ, aR, .bool r.aF, .int .i64 r.ticks, .int .i64 r.aG, .int .i64 r.made] 30)));clear bD;have Hticks := zh bE;clear bE;have Hbudget := zh bF;clear bF;have Hmade := zh bG;clear bG;go_enter Tryz.func25, Tryz.ntmps25;go_wp2_with fail;refine (Zdc r.names aL _ _ k (by omega) (by have := HCE.o; have := HK1.o; omega) Rnames.o).mono ?_;rintro e w0 ⟨rfl, hr0, hk0, hz0⟩;replace HP := zh ((hk0.same _ (fun h => Nat.lt_irrefl _ h.1.2) (Zb HP.o)).trans HP.o);replace Rnames := zh hr0;replace Rrecords := zh (Rrecords.o.keep Zt.is (fun _ h => h) (hk0.mono fun y h h2 => absurd (h.2.symm.trans h2.2) (by decide)));replace Robjects := zh (Robjects.o.keep Z7.is (fun _ h => h) (hk0.mono fun y h h2 => absurd (h.2.symm.trans h2.2) (by decide)));replace Rglobals := zh (Rglobals.o.keep Zl.is (fun _ h => h) (hk0.mono fun y h h2 => absurd (h.2.symm.trans h2.2) (by decide)));replace Routput := zh (Routput.o.keep Zq.is (fun _ h => h) (hk0.mono fun y h h2 => absurd (h.2.symm.trans h2.2) (by decide)));replace Rtrace := zh (Rtrace.o.keep Zq.is (fun _ h => h) (hk0.mono fun y h h2 => absurd (h.2.symm.trans h2.2) (by decide)));replace Ractives := zh (Ractives.o.keep Zaq.is (fun _ h => h) (hk0.mono fun y h h2 => absurd (h.2.symm.trans h2.2) (by decide)))
 replace HK := zh (HK.o.trans (hk0.mono fun y h h2 => h h2.1));replace HK0 := zh (HK0.o.trans hz0);clear hr0 hk0 hz0;obtain ⟨y0, hy0⟩ : ∃ z : Int, k + (Zi (fun _ => 1) r.names : Nat) = z := ⟨_, rfl⟩;rw [hy0];have HY0 := zh hy0;have hl0 : 1 ≤ y0 := by omega
 have hu0 : y0 ≤ 1099511627776 := by have := HCE.o; have := HK1.o; omega
 clear hy0;have p1 := cq HP.o 1;simp only [nD, nE, nF] at p1;go_wp2_with fail;refine (Zho r.aB aM _ _ y0 (by omega) (by have := HCE.o; have := HK1.o; have := HY0.o; omega) Rrecords.o).mono ?_;rintro e w1 ⟨rfl, hr1, hk1, hz1⟩;clear p1;replace HP := zh ((hk1.same _ (fun h => Nat.lt_irrefl _ h.1.2) (Zb HP.o)).trans HP.o);replace Rrecords := zh hr1;replace Rnames := zh (Rnames.o.keep Zq.is (fun _ h => h) (hk1.mono fun y h h2 => absurd (h.2.symm.trans h2.2) (by decide)));replace Robjects := zh (Robjects.o.keep Z7.is (fun _ h => h) (hk1.mono fun y h h2 => absurd (h.2.symm.trans h2.2) (by decide)));replace Rglobals := zh (Rglobals.o.keep Zl.is (fun _ h => h) (hk1.mono fun y h h2 => absurd (h.2.symm.trans h2.2) (by decide)));replace Routput := zh (Routput.o.keep Zq.is (fun _ h => h) (hk1.mono fun y h h2 => absurd (h.2.symm.trans h2.2) (by decide)));replace Rtrace := zh (Rtrace.o.keep Zq.is (fun _ h => h) (hk1.mono fun y h h2 => absurd (h.2.symm.trans h2.2) (by decide)));replace Ractives := zh (Ractives.o.keep Zaq.is (fun _ h => h) (hk1.mono fun y h h2 => absurd (h.2.symm.trans h2.2) (by decide)));replace HK := zh (HK.o.trans (hk1.mono fun y h h2 => h h2.1));replace HK0 := zh (HK0.o.trans hz1);clear hr1 hk1 hz1;obtain ⟨y1, hy1⟩ : ∃ z : Int, y0 + (Zi Z6 r.aB : Nat) = z := ⟨_, rfl⟩;rw [hy1];have HY1 := zh hy1;have hl1 : 1 ≤ y1 := by omega
 have hu1 : y1 ≤ 1099511627776 := by have := HCE.o; have := HK1.o; have := HY0.o; omega
 clear hy1;have p2 := cq HP.o 2;simp only [nD, nE, nF] at p2;go_wp2_with fail;refine (Zki r.aA aN _ _ y1 (by omega) (by have := HCE.o; have := HK1.o; have := HY0.o; have := HY1.o; omega) Robjects.o).mono ?_;rintro e w2 ⟨rfl, hr2, hk2, hz2⟩;clear p2;replace HP := zh ((hk2.same _ (fun h => Nat.lt_irrefl _ h.1.2) (Zb HP.o)).trans HP.o);replace Robjects := zh hr2;replace Rnames := zh (Rnames.o.keep Zq.is (fun _ h => h) (hk2.mono fun y h h2 => absurd (h.2.symm.trans h2.2) (by decide)));replace Rrecords := zh (Rrecords.o.keep Zt.is (fun _ h => h) (hk2.mono fun y h h2 => absurd (h.2.symm.trans h2.2) (by decide)));replace Rglobals := zh (Rglobals.o.keep Zl.is (fun _ h => h) (hk2.mono fun y h h2 => absurd (h.2.symm.trans h2.2) (by decide)));replace Routput := zh (Routput.o.keep Zq.is (fun _ h => h) (hk2.mono fun y h h2 => absurd (h.2.symm.trans h2.2) (by decide)));replace Rtrace := zh (Rtrace.o.keep Zq.is (fun _ h => h) (hk2.mono fun y h h2 => absurd (h.2.symm.trans h2.2) (by decide)));replace Ractives := zh (Ractives.o.keep Zaq.is (fun _ h => h) (hk2.mono fun y h h2 => absurd (h.2.symm.trans h2.2) (by decide)));replace HK := zh (HK.o.trans (hk2.mono fun y h h2 => h h2.1));replace HK0 := zh (HK0.o.trans hz2);clear hr2 hk2 hz2;obtain ⟨y2, hy2⟩ : ∃ z : Int, y1 + (Zi Zaw r.aA : Nat) = z := ⟨_, rfl⟩;rw [hy2];have HY2 := zh hy2;have hl2 : 1 ≤ y2 := by omega
 have hu2 : y2 ≤ 1099511627776 := by have := HCE.o; have := HK1.o; have := HY0.o; have := HY1.o; omega
 clear hy2;have p3 := cq HP.o 3;simp only [nD, nE, nF] at p3;go_wp2_with fail;refine (Zdu r.globals aO _ _ y2 (by omega) (by have := HCE.o; have := HK1.o; have := HY0.o; have := HY1.o; have := HY2.o; omega) Rglobals.o).mono ?_;rintro e w3 ⟨rfl, hr3, hk3, hz3⟩;clear p3;replace HP := zh ((hk3.same _ (fun h => Nat.lt_irrefl _ h.1.2) (Zb HP.o)).trans HP.o);replace Rglobals := zh hr3;replace Rnames := zh (Rnames.o.keep Zq.is (fun _ h => h) (hk3.mono fun y h h2 => absurd (h.2.symm.trans h2.2) (by decide)));replace Rrecords := zh (Rrecords.o.keep Zt.is (fun _ h => h) (hk3.mono fun y h h2 => absurd (h.2.symm.trans h2.2) (by decide)));replace Robjects := zh (Robjects.o.keep Z7.is (fun _ h => h) (hk3.mono fun y h h2 => absurd (h.2.symm.trans h2.2) (by decide)));replace Routput := zh (Routput.o.keep Zq.is (fun _ h => h) (hk3.mono fun y h h2 => absurd (h.2.symm.trans h2.2) (by decide)));replace Rtrace := zh (Rtrace.o.keep Zq.is (fun _ h => h) (hk3.mono fun y h h2 => absurd (h.2.symm.trans h2.2) (by decide)));replace Ractives := zh (Ractives.o.keep Zaq.is (fun _ h => h) (hk3.mono fun y h h2 => absurd (h.2.symm.trans h2.2) (by decide)));replace HK := zh (HK.o.trans (hk3.mono fun y h h2 => h h2.1));replace HK0 := zh (HK0.o.trans hz3);clear hr3 hk3 hz3;obtain ⟨y3, hy3⟩ : ∃ z : Int, y2 + (Zi Z2 r.globals : Nat) = z := ⟨_, rfl⟩;rw [hy3];have HY3 := zh hy3;have hl3 : 1 ≤ y3 := by omega
 have hu3 : y3 ≤ 1099511627776 := by have := HCE.o; have := HK1.o; have := HY0.o; have := HY1.o; have := HY2.o; omega
 clear hy3;have p6 := cq HP.o 6;simp only [nD, nE, nF] at p6;go_wp2_with fail;refine (Zdc r.output aP _ _ y3 (by omega) (by have := HCE.o; have := HK1.o; have := HY0.o; have := HY1.o; have := HY2.o; have := HY3.o; omega) Routput.o).mono ?_;rintro e w4 ⟨rfl, hr4, hk4, hz4⟩;clear p6;replace HP := zh ((hk4.same _ (fun h => Nat.lt_irrefl _ h.1.2) (Zb HP.o)).trans HP.o);replace Routput := zh hr4;replace Rnames := zh (Rnames.o.keep Zq.is (fun _ h => h) (hk4.mono fun y h h2 => absurd (h.2.symm.trans h2.2) (by decide)));replace Rrecords := zh (Rrecords.o.keep Zt.is (fun _ h => h) (hk4.mono fun y h h2 => absurd (h.2.symm.trans h2.2) (by decide)));replace Robjects := zh (Robjects.o.keep Z7.is (fun _ h => h) (hk4.mono fun y h h2 => absurd (h.2.symm.trans h2.2) (by decide)));replace Rglobals := zh (Rglobals.o.keep Zl.is (fun _ h => h) (hk4.mono fun y h h2 => absurd (h.2.symm.trans h2.2) (by decide)));replace Rtrace := zh (Rtrace.o.keep Zq.is (fun _ h => h) (hk4.mono fun y h h2 => absurd (h.2.symm.trans h2.2) (by decide)));replace Ractives := zh (Ractives.o.keep Zaq.is (fun _ h => h) (hk4.mono fun y h h2 => absurd (h.2.symm.trans h2.2) (by decide)));replace HK := zh (HK.o.trans (hk4.mono fun y h h2 => h h2.1));replace HK0 := zh (HK0.o.trans hz4);clear hr4 hk4 hz4;obtain ⟨y4, hy4⟩ : ∃ z : Int, y3 + (Zi (fun _ => 1) r.output : Nat) = z := ⟨_, rfl⟩;rw [hy4];have HY4 := zh hy4;have hl4 : 1 ≤ y4 := by omega
 have hu4 : y4 ≤ 1099511627776 := by have := HCE.o; have := HK1.o; have := HY0.o; have := HY1.o; have := HY2.o; have := HY3.o; omega
 clear hy4;have p7 := cq HP.o 7;simp only [nD, nE, nF] at p7;go_wp2_with fail;refine (Zdc r.trace aQ _ _ y4 (by omega) (by have := HCE.o; have := HK1.o; have := HY0.o; have := HY1.o; have := HY2.o; have := HY3.o; have := HY4.o; omega) Rtrace.o).mono ?_;rintro e w5 ⟨rfl, hr5, hk5, hz5⟩;clear p7;replace HP := zh ((hk5.same _ (fun h => Nat.lt_irrefl _ h.1.2) (Zb HP.o)).trans HP.o);replace Rtrace := zh hr5;replace Rnames := zh (Rnames.o.keep Zq.is (fun _ h => h) (hk5.mono fun y h h2 => absurd (h.2.symm.trans h2.2) (by decide)));replace Rrecords := zh (Rrecords.o.keep Zt.is (fun _ h => h) (hk5.mono fun y h h2 => absurd (h.2.symm.trans h2.2) (by decide)));replace Robjects := zh (Robjects.o.keep Z7.is (fun _ h => h) (hk5.mono fun y h h2 => absurd (h.2.symm.trans h2.2) (by decide)));replace Rglobals := zh (Rglobals.o.keep Zl.is (fun _ h => h) (hk5.mono fun y h h2 => absurd (h.2.symm.trans h2.2) (by decide)));replace Routput := zh (Routput.o.keep Zq.is (fun _ h => h) (hk5.mono fun y h h2 => absurd (h.2.symm.trans h2.2) (by decide)));replace Ractives := zh (Ractives.o.keep Zaq.is (fun _ h => h) (hk5.mono fun y h h2 => absurd (h.2.symm.trans h2.2) (by decide)));replace HK := zh (HK.o.trans (hk5.mono fun y h h2 => h h2.1));replace HK0 := zh (HK0.o.trans hz5);clear hr5 hk5 hz5;obtain ⟨y5, hy5⟩ : ∃ z : Int, y4 + (Zi (fun _ => 1) r.trace : Nat) = z := ⟨_, rfl⟩;rw [hy5];have HY5 := zh hy5;have hl5 : 1 ≤ y5 := by omega
 have hu5 : y5 ≤ 1099511627776 := by have := HCE.o; have := HK1.o; have := HY0.o; have := HY1.o; have := HY2.o; have := HY3.o; have := HY4.o; omega
 clear hy5;have p8 := cq HP.o 8;simp only [nD, nE, nF] at p8;go_wp2_with fail;refine (Zkj r.aE aR _ _ y5 (by omega) (by have := HCE.o; have := HK1.o; have := HY0.o; have := HY1.o; have := HY2.o; have := HY3.o; have := HY4.o; have := HY5.o; omega) Ractives.o).mono ?_;rintro e w6 ⟨rfl, hr6, hk6, hz6⟩;clear p8;replace HP := zh ((hk6.same _ (fun h => Nat.lt_irrefl _ h.1.2) (Zb HP.o)).trans HP.o);replace Ractives := zh hr6;replace Rnames := zh (Rnames.o.keep Zq.is (fun _ h => h) (hk6.mono fun y h h2 => absurd (h.2.symm.trans h2.2) (by decide)));replace Rrecords := zh (Rrecords.o.keep Zt.is (fun _ h => h) (hk6.mono fun y h h2 => absurd (h.2.symm.trans h2.2) (by decide)));replace Robjects := zh (Robjects.o.keep Z7.is (fun _ h => h) (hk6.mono fun y h h2 => absurd (h.2.symm.trans h2.2) (by decide)));replace Rglobals := zh (Rglobals.o.keep Zl.is (fun _ h => h) (hk6.mono fun y h h2 => absurd (h.2.symm.trans h2.2) (by decide)));replace Routput := zh (Routput.o.keep Zq.is (fun _ h => h) (hk6.mono fun y h h2 => absurd (h.2.symm.trans h2.2) (by decide)));replace Rtrace := zh (Rtrace.o.keep Zq.is (fun _ h => h) (hk6.mono fun y h h2 => absurd (h.2.symm.trans h2.2) (by decide)));replace HK := zh (HK.o.trans (hk6.mono fun y h h2 => h h2.1));replace HK0 := zh (HK0.o.trans hz6);clear hr6 hk6 hz6;obtain ⟨y6, hy6⟩ : ∃ z : Int, y5 + (Zi Zba r.aE : Nat) = z := ⟨_, rfl⟩;rw [hy6];have HY6 := zh hy6;have hl6 : 1 ≤ y6 := by omega
 have hu6 : y6 ≤ 1099511627776 := by have := HCE.o; have := HK1.o; have := HY0.o; have := HY1.o; have := HY2.o; have := HY3.o; have := HY4.o; have := HY5.o; omega
 clear hy6;go_wp2_with fail;go_ret;refine ⟨Zak (by have := HCE.o; have := HK1.o; have := HY0.o; have := HY1.o; have := HY2.o; have := HY3.o; have := HY4.o; have := HY5.o; have := HY6.o; omega), ?_, HK.o.mono fun y h h2 => h h2.1, HK0.o⟩
 ·have eHY0 := HY0.o; subst eHY0;have eHY1 := HY1.o; subst eHY1;have eHY2 := HY2.o; subst eHY2;have eHY3 := HY3.o; subst eHY3;have eHY4 := HY4.o; subst eHY4;have eHY5 := HY5.o; subst eHY5;exact ⟨tag, _, _, _, _, _, _, _, rfl, Rnames.o.keep Zq.is (fun b hb => ⟨hb.1.1, hb.2⟩) (Ze.refl _ _), Rrecords.o.keep Zt.is (fun b hb => ⟨hb.1.1, hb.2⟩) (Ze.refl _ _), Robjects.o.keep Z7.is (fun b hb => ⟨hb.1.1, hb.2⟩) (Ze.refl _ _), Rglobals.o.keep Zl.is (fun b hb => ⟨hb.1.1, hb.2⟩) (Ze.refl _ _), Hsubject.o, Hposition.o, Routput.o.keep Zq.is (fun b hb => ⟨hb.1.1, hb.2⟩) (Ze.refl _ _), Rtrace.o.keep Zq.is (fun b hb => ⟨hb.1.1, hb.2⟩) (Ze.refl _ _), Ractives.o.keep Zaq.is (fun b hb => ⟨hb.1.1, hb.2⟩) (Ze.refl _ _), Hticks.o, Hbudget.o, Hmade.o⟩
end Go.Proofs.YtpmhelkiicigfaaGreatDoor
namespace Go.Proofs.YtpmhelkiicigfaaGreatDoor
open Go.RowKit
section
variable {S K : Zbt Zaj} {mK : Zaj → Int → Zaj} {cK : Zaj → Nat}
def Zkp (S : Zbt Zaj) (mK : Zaj → Int → Zaj) (cK : Zaj → Nat) : Prop := ∀ (l : List Zaj) (v : Value) (F : Nat → Prop) (w : World) (k : Int) (hk : 1 ≤ k) (hk1 : k + (Zi cK l : Nat) ≤ 1099511627776) (hr : Zbe S 6 55 F w l v),
 Calls Tryz.prog 27 #[v, .int .i64 k] w fun e w' => e = .returned (.int .i64 (k + (Zi cK l : Nat))) ∧ Zbe S 6 55 F w' (Zco mK cK l k) v ∧ Ze (fun y => ¬ F y) w w' ∧ Below 0 w w'
theorem Zi2 (hS : Zfg S K 6) (hK : Zcx K 6) (hkid : Zkp S mK cK) : Zkp (Zd5 S) (Zh7 mK cK) (Zby cK) := by
 intro l v F w k hk hk1 hr;have hr0 := hr;obtain ⟨A, cp, rfl, hc, hcm, hel⟩ := hr;have HCM := zh hcm;unfold maxLen at hcm
 by_cases h0 : l.length = 0
 ·obtain rfl : l = [] := List.eq_nil_of_length_eq_zero h0;have HR := zh hr0;clear hel hr0;go_enter Tryz.func27, Tryz.ntmps27;go_wp2_with fail;refine wp_loop_rounds 1 ?_;rw [rounds_succ];go_wp2_with fail;go_ret;exact ⟨by simp [Zi], HR.o, Ze.refl _ _, Below.refl _ _⟩
 clear hr0;obtain ⟨b, o, cur0, tag, rfl, hFb, hb0, hcp, hall⟩ := hel (by omega);have HS0 : Hd (SAt (Zd5 S) 6 55 F b o (o + cp * 6) tag w (Zeh (Zh7 mK cK) (Zby cK) l k 0)) := zh (by rw [Zd0]; exact ⟨cur0, hb0, hcp.2, hall⟩);have HO0 := zh hcp.1;have HK1 := zh hk1;clear hel hb0 hcp hall hk1;have HFB := zh hFb;go_enter Tryz.func27, Tryz.ntmps27;go_wp2_with fail
 go_loopw [1, 5] (fun kv i wr => ∃ j : Nat, j ≤ l.length ∧ i = .int .i64 j ∧ kv = .int .i64 (k + (Zi (Zby cK) (l.take j) : Nat)) ∧ SAt (Zd5 S) 6 55 F b o (o + cp * 6) tag wr (Zeh (Zh7 mK cK) (Zby cK) l k j) ∧ Ze (fun y => ¬ F y) w wr ∧ Below 0 w wr) (fun _ i _ => l.length - (intOf i).toNat)
 case atStart => exact ⟨0, Nat.zero_le _, rfl, by simp [Zi], HS0.o, Ze.refl _ _, Below.refl _ _⟩
 case round =>
  obtain ⟨j, hj, rfl, rfl, hat, hkw, hk0⟩ := hrel;have HAT := zh hat;have HKW := zh hkw;have HK0W := zh hk0;have HLE := zh (Zbm (Zby cK) l j);obtain ⟨y, hy⟩ : ∃ y : Int, k + (Zi (Zby cK) (l.take j) : Nat) = y := ⟨_, rfl⟩;have hy1 : 1 ≤ y := by omega
  have hy2 : y ≤ 1099511627776 := by have := HK1.o; have := HLE.o; omega
  rw [hy];have HY := zh hy;clear hy hat hkw hk0 HLE
  by_cases hlt : j < l.length
  ·have hlt' : (j : Int) < l.length := by omega
   have HCT := zh (Zce (Zby cK) l j hlt);have HCL := zh (Zbm (Zby cK) l (j + 1));obtain ⟨cur, cs, hb, hs, hst⟩ := HAT.o.open_ (Zew hS hK).is (i := j) (by rw [Z9]; exact hlt);rw [Zfy (Zh7 mK cK) (Zby cK) l k j hlt] at hs;have HB := zh hb;have HST := zh (hst (by decide));obtain ⟨tg, vkids, rfl, hop, bK, bI, bL, bM, hkids⟩ := hs;have Rkids := zh hkids;clear hop bK bI bL bM hkids;clear hst hb;have HK : Hd (Ze (fun y => y ≠ b ∧ ¬ ((F y ∧ y ≠ b) ∧ tag y = j)) wr wr) := zh (Ze.refl _ _);have HK0 : Hd (Below 0 wr wr) := zh (Below.refl _ _);have HCE := zh (show (Zby cK) l[j] = 5 + (Zi cK l[j].kids) from rfl);have c0 := HST.o.cell (q := 0) rfl;have f0 := HST.o.frozen (o + j * 6);simp only [Nat.add_zero] at c0;have n0_1 : y + 1 + 1 = y + 2 := by omega
   have n0_2 : y + 2 + 1 = y + 3 := by omega
   go_wp2_with fail;clear c0 f0 n0_1 n0_2;replace HST := zh (HST.o.set 0 (by simp) (.int .i64 (y)));simp only [List.set_cons_zero, List.set_cons_succ, Nat.add_zero] at HST;replace Rkids := zh (Rkids.o.keep hS.is (fun _ h => h) ((Ze.refl _ wr).set (B := b) (fun h => h.1.1.2 rfl) (o + j * 6) (.int .i64 (y))));replace HK := zh (HK.o.set (B := b) (fun h => h.1 rfl) (o + j * 6) (.int .i64 (y)));replace HK0 := zh (HK0.o.setCell (p := ⟨b, o + j * 6, none⟩) (Nat.zero_le _) (.int .i64 (y)));refine (Zc6 (y + 1) _ (by omega) (by have := HCE.o; have := HCT.o; have := HCL.o; have := HK1.o; have := HY.o; omega)).mono ?_;rintro e w1 ⟨rfl, hb1⟩;replace HST := zh (HST.o.keep (Below.block hb1 _ HST.o.lt));replace Rkids := zh (Rkids.o.keep hS.is (fun _ h => h) (Ze.later hb1));replace HK := zh (HK.o.trans (Ze.later hb1));replace HK0 := zh (HK0.o.trans (Below.mono hb1 (Nat.zero_le _)));clear hb1;have c1 := HST.o.cell (q := 1) rfl;have f1 := HST.o.frozen (o + j * 6 + 1);have c2 := HST.o.cell (q := 2) rfl;have f2 := HST.o.frozen (o + j * 6 + 2);have c3 := HST.o.cell (q := 3) rfl;have f3 := HST.o.frozen (o + j * 6 + 3);have c4 := HST.o.cell (q := 4) rfl;have f4 := HST.o.frozen (o + j * 6 + 4);have c5 := HST.o.cell (q := 5) rfl;have n1_1 : y + 1 + 1 = y + 2 := by omega
   have n1_2 : y + 2 + 1 = y + 3 := by omega
   have n1_3 : y + 3 + 1 = y + 4 := by omega
   have n1_4 : y + 4 + 1 = y + 5 := by omega
   have n1_5 : y + 5 + 1 = y + 6 := by omega
   have n1_6 : y + 6 + 1 = y + 7 := by omega
   go_wp2_with fail;clear c1 f1 c2 f2 c3 f3 c4 f4 c5 n1_1 n1_2 n1_3 n1_4 n1_5 n1_6;replace HST := zh ((((HST.o.set 1 (by simp) (.string (Zb2 (y + 1)))).set 2 (by simp) (.int .i64 (y + 2))).set 3 (by simp) (.int .i64 (y + 3))).set 4 (by simp) (.int .i64 (y + 4)));simp only [List.set_cons_zero, List.set_cons_succ] at HST;replace Rkids := zh (Rkids.o.keep hS.is (fun _ h => h) (((((Ze.refl _ w1).set (B := b) (fun h => h.1.1.2 rfl) (o + j * 6 + 1) (.string (Zb2 (y + 1)))).set (B := b) (fun h => h.1.1.2 rfl) (o + j * 6 + 2) (.int .i64 (y + 2))).set (B := b) (fun h => h.1.1.2 rfl) (o + j * 6 + 3) (.int .i64 (y + 3))).set (B := b) (fun h => h.1.1.2 rfl) (o + j * 6 + 4) (.int .i64 (y + 4))));replace HK := zh ((((HK.o.set (B := b) (fun h => h.1 rfl) (o + j * 6 + 1) (.string (Zb2 (y + 1)))).set (B := b) (fun h => h.1 rfl) (o + j * 6 + 2) (.int .i64 (y + 2))).set (B := b) (fun h => h.1 rfl) (o + j * 6 + 3) (.int .i64 (y + 3))).set (B := b) (fun h => h.1 rfl) (o + j * 6 + 4) (.int .i64 (y + 4)));replace HK0 := zh ((((HK0.o.setCell (p := ⟨b, o + j * 6 + 1, none⟩) (Nat.zero_le _) (.string (Zb2 (y + 1)))).setCell (p := ⟨b, o + j * 6 + 2, none⟩) (Nat.zero_le _) (.int .i64 (y + 2))).setCell (p := ⟨b, o + j * 6 + 3, none⟩) (Nat.zero_le _) (.int .i64 (y + 3))).setCell (p := ⟨b, o + j * 6 + 4, none⟩) (Nat.zero_le _) (.int .i64 (y + 4)));refine (hkid l[j].kids vkids _ _ (y + 5) (by omega) (by have := HCE.o; have := HCT.o; have := HCL.o; have := HK1.o; have := HY.o; omega) Rkids.o).mono ?_
   rintro e w2 ⟨rfl, hr2, hk2, hz2⟩;replace HST := zh (HST.o.keep (hk2.same b (fun h => h.1.1.2 rfl) HST.o.lt));replace Rkids := zh hr2;replace HK := zh (HK.o.trans (hk2.mono fun y h h2 => h.2 h2.1));replace HK0 := zh (HK0.o.trans hz2);clear hr2 hk2 hz2;obtain ⟨y2, hy2⟩ : ∃ z : Int, y + 5 + (Zi cK l[j].kids : Nat) = z := ⟨_, rfl⟩;rw [hy2];have HY2 := zh hy2;have hl2 : 1 ≤ y2 := by omega
   have hu2 : y2 ≤ 1099511627776 := by have := HCE.o; have := HCT.o; have := HCL.o; have := HK1.o; have := HY.o; omega
   clear hy2;go_wp2_with fail
   go_roundw
   case rel =>
    refine ⟨j + 1, by omega, by go_num, by have := HCE.o; have := HCT.o; have := HCL.o; have := HK1.o; have := HY.o; have := HY2.o; congr 1; omega, ?_, HKW.o.trans (HK.o.mono fun z h => ⟨fun e => h (by rw [e]; exact HFB.o), fun h2 => h h2.1.1⟩), HK0W.o.trans HK0.o⟩;rw [Zd1 _ _ _ _ _ hlt, HY.o];exact SAt.put (Zew hS hK).is HAT.o (i := j) (by rw [Z9]; exact hlt) HB.o HST.o (HK.o.mono fun z h => ⟨h.1.2, fun h2 => h.2 h2.2⟩) ⟨tg, _, by have eHY2 := HY2.o; subst eHY2; rfl, (show Zy (y) by have := HCE.o; have := HCT.o; have := HCL.o; have := HK1.o; have := HY.o; have := HY2.o; unfold Zy; omega), (show (Zb2 (y + 1)).size ≤ maxLen by have := HCE.o; have := HCT.o; have := HCL.o; have := HK1.o; have := HY.o; have := HY2.o; have := Zga (k := y + 1) (by omega); unfold maxLen; omega), (show Zy (y + 2) by have := HCE.o; have := HCT.o; have := HCL.o; have := HK1.o; have := HY.o; have := HY2.o; unfold Zy; omega), (show Zy (y + 3) by have := HCE.o; have := HCT.o; have := HCL.o; have := HK1.o; have := HY.o; have := HY2.o; unfold Zy; omega), (show Zy (y + 4) by have := HCE.o; have := HCT.o; have := HCL.o; have := HK1.o; have := HY.o; have := HY2.o; unfold Zy; omega), (by have eHY2 := HY2.o; subst eHY2; exact Rkids.o)⟩
   case measure => simp [intOf]; omega
  ·have hjl : j = l.length := by omega
   go_wp2_with fail;go_ret;subst hjl;have hrow := HAT.o.row HFB.o (c := cp) (by rw [Z9]; exact hc) HCM.o ⟨HO0.o, Nat.le_refl _⟩;rw [Z9] at hrow;refine ⟨Zak ?_, hrow, HKW.o, HK0W.o⟩;have := HY.o;rw [List.take_length] at this;exact this.symm
theorem Zd7 : ∀ n, Zkp (Zcm n) (mkN n) (Zb6 n)
 | 0 => by
  intro l v F w k hk hk1 hr;have hr0 := hr;obtain ⟨A, cp, rfl, hc, hcm, hel⟩ := hr;unfold maxLen at hcm;have h0 : l.length = 0 := by
   rcases Nat.eq_zero_or_pos l.length with h | h
   ·exact h
   ·obtain ⟨b, o, cur0, tag, rfl, hFb, hb0, hcp, hall⟩ := hel (by omega);obtain ⟨cs, hs, _⟩ := hall 0 h;exact hs.elim
  obtain rfl : l = [] := List.eq_nil_of_length_eq_zero h0;have HR := zh hr0;clear hel hr0 h0;go_enter Tryz.func27, Tryz.ntmps27;go_wp2_with fail;refine wp_loop_rounds 1 ?_;rw [rounds_succ];go_wp2_with fail;go_ret;exact ⟨by simp [Zi], HR.o, Ze.refl _ _, Below.refl _ _⟩
 | n + 1 => Zi2 (Zv n) (Zcz n) (Zd7 n)
theorem Zkk (hS : Zfg S K 6) (hK : Zcx K 6) (hkid : Zkp S mK cK) (r : Zaj) (cs : List Value) (F : Nat → Prop) (w : World) (k : Int) (hk : 1 ≤ k) (hk1 : k + ((Za6 cK) r : Nat) ≤ 1099511627776) (h : (Zd5 S) F w r cs) :
  Calls Tryz.prog 26 #[.agg cs.toArray, .int .i64 k] w fun e w' => e = .returned (.int .i64 (k + ((Za6 cK) r : Nat))) ∧ (Zd5 S) F w' ((Zq6 mK cK) r k) cs ∧ Ze (fun y => ¬ F y) w w' ∧ Below 0 w w' := by
 obtain ⟨tag, vkids, rfl, hop, bK, bI, bL, bM, hkids⟩ := (Zew hS hK).trim h;clear h;have HCE := zh (show (Za6 cK) r = Zi cK r.kids from rfl);have HK1 := zh hk1;clear hk1;have HP := zh (heap_alloc_new w (.cells #[.int .i64 r.op, .string r.text, .int .i64 r.aH, .int .i64 r.set_.low, .int .i64 r.set_.high, vkids] 55));have HK := zh (Ze.later (F := fun y => ¬ (F y ∧ y < w.heap.size)) ((Za.refl w).alloc (.cells #[.int .i64 r.op, .string r.text, .int .i64 r.aH, .int .i64 r.set_.low, .int .i64 r.set_.high, vkids] 55)));have HK0 := zh ((Below.refl 0 w).alloc (Nat.zero_le _) (.cells #[.int .i64 r.op, .string r.text, .int .i64 r.aH, .int .i64 r.set_.low, .int .i64 r.set_.high, vkids] 55));have Hop := zh hop;clear hop;have Htext := zh bK;clear bK;have Hnumber := zh bI;clear bI;have Hset__low := zh bL;clear bL;have Hset__high := zh bM;clear bM;have Rkids := zh (hkids.later hS.is ((Za.refl w).alloc (.cells #[.int .i64 r.op, .string r.text, .int .i64 r.aH, .int .i64 r.set_.low, .int .i64 r.set_.high, vkids] 55)));clear hkids;go_enter Tryz.func26, Tryz.ntmps26;go_wp2_with fail;refine (hkid r.kids vkids _ _ k (by omega) (by have := HCE.o; have := HK1.o; omega) Rkids.o).mono ?_;rintro e w0 ⟨rfl, hr0, hk0, hz0⟩;replace HP := zh ((hk0.same _ (fun h => Nat.lt_irrefl _ h.1.2) (Zb HP.o)).trans HP.o);replace Rkids := zh hr0;replace HK := zh (HK.o.trans (hk0.mono fun y h h2 => h h2.1))
 replace HK0 := zh (HK0.o.trans hz0);clear hr0 hk0 hz0;obtain ⟨y0, hy0⟩ : ∃ z : Int, k + (Zi cK r.kids : Nat) = z := ⟨_, rfl⟩;rw [hy0];have HY0 := zh hy0;have hl0 : 1 ≤ y0 := by omega
 have hu0 : y0 ≤ 1099511627776 := by have := HCE.o; have := HK1.o; omega
 clear hy0;go_wp2_with fail;go_ret;refine ⟨Zak (by have := HCE.o; have := HK1.o; have := HY0.o; omega), ?_, HK.o.mono fun y h h2 => h h2.1, HK0.o⟩
 ·exact ⟨tag, _, rfl, Hop.o, Htext.o, Hnumber.o, Hset__low.o, Hset__high.o, Rkids.o.keep hS.is (fun b hb => ⟨hb.1.1, hb.2⟩) (Ze.refl _ _)⟩
end
end Go.Proofs.YtpmhelkiicigfaaGreatDoor
namespace Go.Proofs.YtpmhelkiicigfaaGreatDoor
open Go.RowKit
structure Zg6 where
 p : Zaj
 ds : List Zaj
 vs : List Zd
 c : Int
def Zjs : Zaj := ⟨0, ⟨#[]⟩, 0, ⟨0, 0⟩, []⟩
def Zql : Zf8 → Zg6
 | .bad c => ⟨Zjs, [], [], c⟩
 | .good p ds vs => ⟨p, ds, vs, 0⟩
def Zet (r : Zf) (v : Zd) : Zg6 := if (Zap r && Zbn r v) = true then Zql (Zgg r v) else ⟨Zjs, [], [], 205⟩
abbrev Zw7 : TypeId := 34
theorem Zvi (F : Nat → Prop) (w : World) : Zcm (lv + 1) F w Zjs ZP6 := ⟨fun _ => 0, _, rfl, in0, Nat.zero_le _, in0, in0, in0, Zbe.nil _ _ _ _ _⟩
/-- The four results in memory: their blocks. -/
structure Zdm (lo hi : Nat) (u : World) (q : Zg6) (pcs : List Value) (vd vv : Value) (H Hv G : Nat → Prop) : Prop where
 pat : Zcm (lv + 1) H u q.p pcs
 defs : Zbe (Zcm (lv + 1)) 6 Zbc Hv u q.ds vd
 vals : Zbe Zg 6 Zw7 G u q.vs vv
 dom : ∀ b, H b ∨ Hv b ∨ G b → lo ≤ b ∧ b < hi
 dH : ∀ b, H b → ¬ Hv b ∧ ¬ G b
 dD : ∀ b, Hv b → ¬ G b
section
variable {lo hi : Nat} {u v : World} {q : Zg6} {pcs : List Value} {vd vv : Value} {H Hv G : Nat → Prop}
theorem Zdm.keep (h : Zdm lo hi u q pcs vd vv H Hv G) (hk : Ze (fun b => H b ∨ Hv b ∨ G b) u v) : Zdm lo hi v q pcs vd vv H Hv G :=
 ⟨(Zv (lv + 1)).is.keep h.pat (fun _ h => h) (hk.mono fun _ h => .inl h), h.defs.keep (Zv (lv + 1)).is (fun _ h => h) (hk.mono fun _ h => .inr (.inl h)), h.vals.keep Zl.is (fun _ h => h) (hk.mono fun _ h => .inr (.inr h)), h.dom, h.dH, h.dD⟩
theorem Zdm.wide {lo' hi' : Nat} (h : Zdm lo hi u q pcs vd vv H Hv G) (h1 : lo' ≤ lo) (h2 : hi ≤ hi') : Zdm lo' hi' u q pcs vd vv H Hv G :=
 ⟨h.pat, h.defs, h.vals, fun b hb => ⟨Nat.le_trans h1 (h.dom b hb).1, Nat.lt_of_lt_of_le (h.dom b hb).2 h2⟩, h.dH, h.dD⟩
end
/-- What PatternOfValue leaves. -/
def Zhv (w : World) (q : Zg6) (e : Ending) (w' : World) : Prop :=
 ∃ (pcs : List Value) (vd vv : Value) (H Hv G : Nat → Prop), e = .returned (.tuple #[.agg pcs.toArray, vd, vv, .int .i64 q.c]) ∧ Zdm w.heap.size w'.heap.size w' q pcs vd vv H Hv G ∧ Below w.heap.size w w'
theorem Tch.bel {w x : World} (h : Tch (fun _ => False) w x) : Below w.heap.size w x :=
 Ze1 h.keep h.below (fun _ h => h.elim) (Nat.le_refl _)
theorem Zdm.zero (lo hi : Nat) (u : World) (c : Int) : Zdm lo hi u ⟨Zjs, [], [], c⟩ ZP6 (.slice none 0 0) (.slice none 0 0) (fun _ => False) (fun _ => False) (fun _ => False) :=
 ⟨Zvi _ _, Zbe.nil _ _ _ _ _, Zbe.nil _ _ _ _ _, fun _ h => (h.elim id (fun h => h.elim id id)).elim, fun _ h => h.elim, fun _ h => h.elim⟩
theorem Zhv.of {T : Zf8} {w w' : World} {e : Ending} (h : Zld T w e w') : Zhv w (Zql T) e w' := by
 obtain ⟨ht, h⟩ := h
 cases T with
 | bad c => exact ⟨_, _, _, _, _, _, h, Zdm.zero _ _ _ c, ht.bel⟩
 | good p ds vs =>
  obtain ⟨pcs, vd, vv, H, Hv, G, he, hp, hd, hv, h1, h2, h3⟩ := h;refine ⟨pcs, vd, vv, H, Hv, G, he, ⟨hp, hd, hv, fun b hb => ?_, fun b hb => ⟨(h1 b hb).2.2.2, (h1 b hb).2.2.1⟩, fun b hb => (h2 b hb).2.2⟩, ht.bel⟩
  rcases hb with hb | hb | hb
  ·exact ⟨(h1 b hb).1, (h1 b hb).2.1⟩
  ·exact ⟨(h2 b hb).1, (h2 b hb).2.1⟩
  ·exact h3 b hb
theorem Zhv.zero {w w' : World} (hb : Below w.heap.size w w') : Zhv w ⟨Zjs, [], [], 205⟩ (.returned (.tuple #[.agg ZP6.toArray, .slice none 0 0, .slice none 0 0, .int .i64 205])) w' :=
 ⟨_, _, _, _, _, _, rfl, Zdm.zero _ _ _ _, hb⟩
theorem Zdh {w wz : World} {q : Zg6} {pcs : List Value} {vd vv : Value} {H Hv G : Nat → Prop} {RB n : Nat} (hp : Zdm n wz.heap.size wz q pcs vd vv H Hv G) (h1 : w.heap.size ≤ RB) (h2 : RB < n) (hb : Below w.heap.size w wz) :
  Zhv w q (.returned (.tuple #[.agg pcs.toArray, vd, vv, .int .i64 q.c])) (Zz wz RB 0 pcs) := by
 have hK := Zaf (F := fun b => b ≠ RB) (B := RB) (w := wz) (fun h => h rfl) pcs wz 0 (Ze.refl _ _);exact ⟨pcs, vd, vv, H, Hv, G, rfl, (hp.keep (hK.mono fun b hh e => by have := (hp.dom b hh).1; omega)).wide (by omega) hK.size, Zae h1 pcs wz 0 hb⟩
/-! ### What a law holds -/
/-- A call's results: N: blocks that are none of theirs. -/
def Zh8 (W u : World) (q : Zg6) (N : Nat → Prop) (x : Value) : Prop :=
 ∃ (pcs : List Value) (vd vv : Value) (H Hv G : Nat → Prop), x = .tuple #[.agg pcs.toArray, vd, vv, .int .i64 q.c] ∧ Zdm W.heap.size u.heap.size u q pcs vd vv H Hv G ∧ ∀ b, N b → ¬ (H b ∨ Hv b ∨ G b)
theorem Zh8.later {W u v : World} {q : Zg6} {N N' : Nat → Prop} {x : Value} (h : Zh8 W u q N x) (hl : Za u v) (hN : ∀ b, N' b → N b ∨ u.heap.size ≤ b) : Zh8 W v q N' x := by
 obtain ⟨pcs, vd, vv, H, Hv, G, h1, h2, h4⟩ := h;refine ⟨pcs, vd, vv, H, Hv, G, h1, (h2.keep (Ze.later hl)).wide (Nat.le_refl _) hl.size, fun b hb hF => ?_⟩
 rcases hN b hb with h | h
 ·exact h4 b h hF
 ·have := (h2.dom b hF).2
  omega
theorem Zh8.new {W u v : World} {q : Zg6} {N : Nat → Prop} {e : Ending} (h : Zhv u q e v) (hW : Za W u) (hN : ∀ b, N b → b < u.heap.size) : ∃ x, e = .returned x ∧ Zh8 W v q N x ∧ Za u v := by
 obtain ⟨pcs, vd, vv, H, Hv, G, h1, h2, h3⟩ := h;exact ⟨_, h1, ⟨pcs, vd, vv, H, Hv, G, rfl, h2.wide hW.size (Nat.le_refl _), fun b hb hF => by have := hN b hb; have := (h2.dom b hF).1; omega⟩, h3⟩
/-- Results of the law's own: the pattern in block B. -/
structure Zfk (lo hi : Nat) (u : World) (q : Zg6) (B : Nat) (pcs : List Value) (vd vv : Value) (H Hv G : Nat → Prop) : Prop where
 blk : u.heap[B]? = some (.cells pcs.toArray Zbc (0, 0))
 parts : Zdm lo hi u q pcs vd vv H Hv G
 loB : lo ≤ B
 hiB : B < hi
 nB : ¬ (H B ∨ Hv B ∨ G B)
 le : hi ≤ u.heap.size
section
variable {lo hi : Nat} {u v : World} {q : Zg6} {B : Nat} {pcs : List Value} {vd vv : Value} {H Hv G : Nat → Prop}
theorem Zfk.move (h : Zfk lo hi u q B pcs vd vv H Hv G) (hs : u.heap.size ≤ v.heap.size) (hb : ∀ b, lo ≤ b → b < hi → v.heap[b]? = u.heap[b]?) : Zfk lo hi v q B pcs vd vv H Hv G :=
 ⟨(hb B h.loB h.hiB).trans h.blk, h.parts.keep ⟨hs, fun b hF _ => hb b (h.parts.dom b hF).1 (h.parts.dom b hF).2⟩, h.loB, h.hiB, h.nB, Nat.le_trans h.le hs⟩
theorem Zfk.later (h : Zfk lo hi u q B pcs vd vv H Hv G) (hl : Za u v) : Zfk lo hi v q B pcs vd vv H Hv G :=
 h.move hl.size fun b _ hb => hl.block b (Nat.lt_of_lt_of_le hb h.le)
/-- Blocks elsewhere are turned. -/
theorem Zfk.apart (h : Zfk lo hi u q B pcs vd vv H Hv G) {lo' hi' : Nat} {F : Nat → Prop} (hF : ∀ b, F b → lo' ≤ b ∧ b < hi') (hk : Ze (fun y => ¬ F y) u v) (hd : hi ≤ lo' ∨ hi' ≤ lo) : Zfk lo hi v q B pcs vd vv H Hv G :=
 h.move hk.size fun b h1 h2 => hk.same b (fun hb => by have := hF b hb; omega) (Nat.lt_of_lt_of_le h2 h.le)
/-- Its own pattern's rows are turned. -/
theorem Zfk.turnP (h : Zfk lo hi u q B pcs vd vv H Hv G) (hk : Ze (fun y => ¬ H y) u v) {p : Zaj} (hp : Zcm (lv + 1) H v p pcs) : Zfk lo hi v ⟨p, q.ds, q.vs, q.c⟩ B pcs vd vv H Hv G :=
 ⟨(hk.same B (fun hh => h.nB (.inl hh)) (Zb h.blk)).trans h.blk, ⟨hp, h.parts.defs.keep (Zv (lv + 1)).is (fun _ h => h) (hk.mono fun b hb hh => (h.parts.dH b hh).1 hb), h.parts.vals.keep Zl.is (fun _ h => h) (hk.mono fun b hb hh => (h.parts.dH b hh).2 hb), h.parts.dom, h.parts.dH, h.parts.dD⟩, h.loB, h.hiB, h.nB, Nat.le_trans h.le hk.size⟩
theorem Zfk.turnD (h : Zfk lo hi u q B pcs vd vv H Hv G) (hk : Ze (fun y => ¬ Hv y) u v) {ds : List Zaj} (hp : Zbe (Zcm (lv + 1)) 6 Zbc Hv v ds vd) : Zfk lo hi v ⟨q.p, ds, q.vs, q.c⟩ B pcs vd vv H Hv G :=
 ⟨(hk.same B (fun hh => h.nB (.inr (.inl hh))) (Zb h.blk)).trans h.blk, ⟨(Zv (lv + 1)).is.keep h.parts.pat (fun _ h => h) (hk.mono fun b hb hh => (h.parts.dH b hb).1 hh), hp, h.parts.vals.keep Zl.is (fun _ h => h) (hk.mono fun b hb hh => h.parts.dD b hh hb), h.parts.dom, h.parts.dH, h.parts.dD⟩, h.loB, h.hiB, h.nB, Nat.le_trans h.le hk.size⟩
theorem Zfk.turnV (h : Zfk lo hi u q B pcs vd vv H Hv G) (hk : Ze (fun y => ¬ G y) u v) {vs : List Zd} (hp : Zbe Zg 6 Zw7 G v vs vv) : Zfk lo hi v ⟨q.p, q.ds, vs, q.c⟩ B pcs vd vv H Hv G :=
 ⟨(hk.same B (fun hh => h.nB (.inr (.inr hh))) (Zb h.blk)).trans h.blk, ⟨(Zv (lv + 1)).is.keep h.parts.pat (fun _ h => h) (hk.mono fun b hb hh => (h.parts.dH b hb).2 hh), h.parts.defs.keep (Zv (lv + 1)).is (fun _ h => h) (hk.mono fun b hb hh => h.parts.dD b hb hh), hp, h.parts.dom, h.parts.dH, h.parts.dD⟩, h.loB, h.hiB, h.nB, Nat.le_trans h.le hk.size⟩
theorem Zfk.below (h : Zfk lo hi u q B pcs vd vv H Hv G) {F : Nat → Prop} (hF : ∀ b, F b → H b ∨ Hv b ∨ G b) (hk : Ze (fun y => ¬ F y) u v) (h0 : Below 0 u v) {n : Nat} (hn : n ≤ lo) : Below n u v :=
 Ze1 hk h0 (fun b hb => Nat.le_trans hn (h.parts.dom b (hF b hb)).1) (Nat.le_trans hn (Nat.le_trans h.loB (Nat.le_of_lt (Zb h.blk))))
end
/-- Behind a drawn region: the pattern is stored. -/
theorem Zg7 {W u : World} {q : Zg6} {B : Nat} {pcs : List Value} {vd vv : Value} {H Hv G : Nat → Prop} {zs : Array Value} (hW : Za W u) (hB : u.heap[B]? = some (.cells zs Zbc (0, 0))) (hz : zs.size = pcs.length) (hWB : W.heap.size ≤ B) (hp : Zdm W.heap.size u.heap.size u q pcs vd vv H Hv G) (hN : ¬ (H B ∨ Hv B ∨ G B)) :
  Zfk W.heap.size u.heap.size (Zz u B 0 pcs) q B pcs vd vv H Hv G ∧ Za W (Zz u B 0 pcs) := by
 have k1 : Ze (fun y => y ≠ B) u (Zz u B 0 pcs) := Zaf (fun h => h rfl) pcs u 0 (Ze.refl _ _);exact ⟨⟨Zpa pcs hB hz, hp.keep (k1.mono fun b hb e => hN (e ▸ hb)), hWB, Zb hB, hN, k1.size⟩, Zae hWB pcs u 0 hW⟩
theorem kP {l : Array Bool} {i j a : Nat} {W u v : World} {q : Zg6} {x y : Value} (F : Hd (bt l j → Zh8 W u q (fun n => bt l a ∧ n = Zg5 y) x)) (hb : Za u v) (h : i ≠ j := by decide) (ha : i ≠ a := by decide) :
  Hd (bt (l.setIfInBounds i true) j → Zh8 W v q (fun n => bt (l.setIfInBounds i true) a ∧ n = Zg5 y) x) := fun k => (F (Zeq h k)).later hb fun n hN => .inl ⟨Zeq ha hN.1, hN.2⟩
theorem kPa {l : Array Bool} {i j : Nat} {W u v : World} {q : Zg6} {x y : Value} (F : Hd (bt l j → Zh8 W u q (fun n => bt l i ∧ n = Zg5 y) x)) (hb : Za u v) (h : i ≠ j := by decide) :
  Hd (bt (l.setIfInBounds i true) j → Zh8 W v q (fun n => bt (l.setIfInBounds i true) i ∧ n = Zg5 (.pointer (some ⟨u.heap.size, 0, none⟩))) x) := fun k => (F (Zeq h k)).later hb fun n hN => .inr (Nat.le_of_eq hN.2.symm)
/-! ### How much there is to mark -/
theorem Zhj (rc : List Zd → Nat → Zd → Zbp) (hrc : ∀ n vs m x q vs' m', rc vs m x = .good q vs' m' → Zi (Zb6 n) q.kids + 5 * (m + 1) ≤ 5 * m' ∧ m' ≤ 300) :
  ∀ (n : Nat) (l : List Zd) (p : Zaj) (vs : List Zd) (m : Nat) (p' : Zaj) (vs' : List Zd) (m' : Nat), m ≤ 300 → itR rc l p vs m = .good p' vs' m' → Zi (Zb6 n) p'.kids + 5 * m ≤ 5 * m' + Zi (Zb6 n) p.kids ∧ m' ≤ 300
 | n, [], p, vs, m, p', vs', m', hm, h => by
  simp only [itR, Zbp.good.injEq] at h;obtain ⟨rfl, rfl, rfl⟩ := h;exact ⟨by omega, hm⟩
 | n, x :: l, p, vs, m, p', vs', m', hm, h => by
  unfold itR at h
  split at h
  ·split at h
   ·exact Zhj rc hrc n l { p with aH := x.aH } vs m p' vs' m' hm h
   ·cases h
  ·split at h
   ·exact Zhj rc hrc n l { p with text := x.text } vs m p' vs' m' hm h
   ·split at h
    ·exact Zhj rc hrc n l { p with set_ := x.set_ } vs m p' vs' m' hm h
    ·split at h
     ·split at h
      ·cases h
      ·rename_i q vs1 m1 he;have h1 := hrc n vs m x q vs1 m1 he;have h2 := Zhj rc hrc n l { p with kids := p.kids ++ [q] } vs1 m1 p' vs' m' h1.2 h;have h3 : Zb6 n q + 5 * m ≤ 5 * m1 := by
        cases n with
        | zero => simp only [Zb6]; omega
        | succ n =>
         have h4 := hrc n vs m x q vs1 m1 he;simp only [Zb6, Zby]
         omega
       have h5 : Zi (Zb6 n) (p.kids ++ [q]) = Zi (Zb6 n) p.kids + Zb6 n q := by rw [Zh6]; simp [Zi]
       refine ⟨?_, h2.2⟩;have h6 := h2.1;simp only [h5] at h6
       omega
     ·split at h
      ·cases h
      ·rename_i k vs1 he;exact Zhj rc hrc n l { p with aH := k } vs1 m p' vs' m' hm h
theorem Zm7 (r : Zf) : ∀ (f n : Nat) (vs : List Zd) (m : Nat) (x : Zd) (q : Zaj) (vs' : List Zd) (m' : Nat), trR r f vs m x = .good q vs' m' → Zi (Zb6 n) q.kids + 5 * (m + 1) ≤ 5 * m' ∧ m' ≤ 300
 | 0, n, vs, m, x, q, vs', m', h => by simp [trR] at h
 | f + 1, n, vs, m, x, q, vs', m', h => by
  unfold trR at h
  split at h
  ·cases h
  ·split at h
   ·have h1 := Zhj (trR r f) (fun n vs m x q vs' m' h => Zm7 r f n vs m x q vs' m' h) n _ _ _ _ _ _ _ (by omega) h;simp only [Zdq, Zi] at h1;exact ⟨by omega, h1.2⟩
   ·split at h
    ·cases h
    ·simp only [Zbp.good.injEq] at h;obtain ⟨rfl, rfl, rfl⟩ := h;simp only [Zdq, Zi];exact ⟨by omega, by omega⟩
theorem Zme (r : Zf) (p : Zaj) (n : Nat) : ∀ (g i : Nat) (ds : List Zaj) (vs : List Zd) (p' : Zaj) (ds' : List Zaj) (vs' : List Zd), Zgf r p g i ds vs = .good p' ds' vs' → p' = p ∧ vs'.length + 1 ≤ i + g ∧ Zi (Zb6 n) ds' + 1505 ≤ Zi (Zb6 n) ds + 1505 * g
 | 0, i, ds, vs, p', ds', vs', h => by simp [Zgf] at h
 | g + 1, i, ds, vs, p', ds', vs', h => by
  unfold Zgf at h
  split at h
  ·split at h
   ·cases h
   ·rename_i q vs1 m1 he;have h1 := Zme r p n g (i + 1) (ds ++ [q]) vs1 p' ds' vs' h;have h5 : Zi (Zb6 n) (ds ++ [q]) = Zi (Zb6 n) ds + Zb6 n q := by rw [Zh6]; simp [Zi]
    have h3 : Zb6 n q ≤ 1505 := by
     cases n with
     | zero => simp only [Zb6]; omega
     | succ n =>
      have h4 := Zm7 r lv n _ _ _ _ _ _ he;simp only [Zb6, Zby]
      omega
    refine ⟨h1.1, by omega, by omega⟩
  ·simp only [Zf8.good.injEq] at h;obtain ⟨rfl, rfl, rfl⟩ := h;exact ⟨rfl, by omega, by omega⟩
theorem Zvj (l : List Zd) : Zi Z2 l = 6 * l.length := by
 induction l with
 | nil => rfl
 | cons a l ih => simp only [Zi, Z2, List.length_cons, ih]; omega
theorem Zsl (r : Zf) (v : Zd) : Za6 (Zb6 lv) (Zet r v).p + Zi (Zb6 (lv + 1)) (Zet r v).ds + Zi Z2 (Zet r v).vs ≤ 100000 := by
 unfold Zet
 split
 ·generalize hT : Zgg r v = T
  unfold Zgg at hT
  split at hT
  ·subst hT; simp [Zql, Za6, Zjs, Zi]
  ·rename_i p vs m he
   cases T with
   | bad c => simp [Zql, Za6, Zjs, Zi]
   | good p' ds' vs' =>
    have h1 := Zm7 r lv lv _ _ _ _ _ _ he;have h2 := Zme r p (lv + 1) _ _ _ _ _ _ _ hT;obtain ⟨rfl, h3, h4⟩ := h2;simp only [Zql, Za6];rw [Zvj];simp only [Zi] at h4
    omega
 ·simp [Za6, Zjs, Zi]
end Go.Proofs.YtpmhelkiicigfaaGreatDoor
namespace Go.Proofs.YtpmhelkiicigfaaGreatDoor
open Go.RowKit
theorem Zo.nar {α : Type} {El : Zbt α} {size : Nat} {F : Nat → Prop} {w : World} {l : List α} {v : Value} (hn : ∀ a cs, El F w a cs → El (fun b => F b ∧ b < w.heap.size) w a cs) (h : Zo El size F w l v) : Zo El size (fun b => F b ∧ b < w.heap.size) w l v := by
 obtain ⟨A, c, e, h1, h2, h3⟩ := h;refine ⟨A, c, e, h1, h2, fun i hi => ?_⟩;obtain ⟨b, o, cs, h4, h5, h6, h7, h8⟩ := h3 i hi;exact ⟨b, o, cs, h4, ⟨h5, h6⟩, h6, hn _ _ h7, h8⟩
theorem Zjt {F : Nat → Prop} {w : World} (r : Za3) (cs : List Value) (h : Za1 F w r cs) : Za1 (fun b => F b ∧ b < w.heap.size) w r cs := by
 obtain ⟨vf, e, h1, h2, h3⟩ := h;exact ⟨vf, e, h1, h2.nar (fun _ _ h => h), h3⟩
theorem Zm8 {F : Nat → Prop} {w : World} (r : Zam) (cs : List Value) (h : Zbk F w r cs) : Zbk (fun b => F b ∧ b < w.heap.size) w r cs := by
 obtain ⟨vi, vk, e, h1, h2, h3, h4, h5⟩ := h;exact ⟨vi, vk, e, h1, h2, h3, h4.nar (fun _ _ h => h), h5.nar (fun _ _ h => h)⟩
theorem Zj7 {F : Nat → Prop} {w : World} (r : Zf) (cs : List Value) (h : Zcf F w r cs) : Zcf (fun b => F b ∧ b < w.heap.size) w r cs := by
 obtain ⟨v1, v2, v3, v4, v5, v6, v7, e, h1, h2, h3, h4, h5, h6, h7, h8, h9, h10, h11, h12⟩ := h;exact ⟨v1, v2, v3, v4, v5, v6, v7, e, h1.nar (fun _ _ h => h), h2.nar Zjt, h3.nar Zm8, h4.nar (fun _ _ h => h), h5, h6, h7.nar (fun _ _ h => h), h8.nar (fun _ _ h => h), h9.nar (fun _ _ h => h), h10, h11, h12⟩
theorem Zdv (r : Zf) (cs : List Value) (F : Nat → Prop) (w : World) (x : Zd) (hsz : Zav r ≤ 1048576) (h : Zcf F w r cs) (hx : Zg F w x [.int .i64 x.kind, .int .i64 x.aH, .int .i64 x.index, .string x.text, .int .i64 x.set_.low, .int .i64 x.set_.high]) (ht : Spc w) (hp : Pw w) :
  Calls Tryz.prog 20 #[.agg cs.toArray, .agg #[.int .i64 x.kind, .int .i64 x.aH, .int .i64 x.index, .string x.text, .int .i64 x.set_.low, .int .i64 x.set_.high]] w fun e w' => Zhv w (Zet r x) e w' := by
 have hh := h;obtain ⟨aL, aM, aN, aO, aP, aQ, aR, rfl, _⟩ := h;have HH := zh hh;have HX64 := zh (show Zg F w x [.int .i64 x.kind, .int .i64 x.aH, .int .i64 x.index, .string x.text, .int .i64 x.set_.low, .int .i64 x.set_.high] from hx);have HSZ := zh hsz;have HBD := zh (show r.aA.length ≤ 1048576 by
  have hz : Zk ByteArray.size r.names + (Zk Zp r.aB + (Zk Zs r.aA + (Zk Zw r.globals + (r.aC.size + (Zk ByteArray.size r.output + (Zk ByteArray.size r.trace + (Zk (fun _ => 0) r.aE))))))) ≤ 1048576 := hsz;have h1 : Zk Zs r.aA = r.aA.length + Za0 Zs r.aA := rfl
  omega)
 obtain ⟨w5, hw5⟩ : ∃ z, z = (((w.alloc (.cells #[aL, aM, aN, aO, .string r.aC, .int .i64 r.aD, aP, aQ, aR, .bool r.aF, .int .i64 r.ticks, .int .i64 r.aG, .int .i64 r.made] 30)).alloc (.cells #[.int .i64 x.kind, .int .i64 x.aH, .int .i64 x.index, .string x.text, .int .i64 x.set_.low, .int .i64 x.set_.high] 34)).alloc (.cells #[.int .i64 0, .string ⟨#[]⟩, .int .i64 0, .int .i64 0, .int .i64 0, .slice none 0 0] 55)) := ⟨_, rfl⟩;have HL := zh (show Za w w5 by rw [hw5]; exact (((Za.refl w).alloc _).alloc _).alloc _);have HMB := zh (show w5.heap[w.heap.size]? = some (.cells #[aL, aM, aN, aO, .string r.aC, .int .i64 r.aD, aP, aQ, aR, .bool r.aF, .int .i64 r.ticks, .int .i64 r.aG, .int .i64 r.made] 30 (0, 0)) by rw [hw5]; exact (((Za.refl (w.alloc (.cells #[aL, aM, aN, aO, .string r.aC, .int .i64 r.aD, aP, aQ, aR, .bool r.aF, .int .i64 r.ticks, .int .i64 r.aG, .int .i64 r.made] 30))).alloc _).alloc _).block (w.heap.size) (by simp) |>.trans (Za8 (by simp)));have HXB := zh (show w5.heap[w.heap.size + 1]? = some (.cells #[.int .i64 x.kind, .int .i64 x.aH, .int .i64 x.index, .string x.text, .int .i64 x.set_.low, .int .i64 x.set_.high] 34 (0, 0)) by rw [hw5]; exact ((Za.refl ((w.alloc (.cells #[aL, aM, aN, aO, .string r.aC, .int .i64 r.aD, aP, aQ, aR, .bool r.aF, .int .i64 r.ticks, .int .i64 r.aG, .int .i64 r.made] 30)).alloc (.cells #[.int .i64 x.kind, .int .i64 x.aH, .int .i64 x.index, .string x.text, .int .i64 x.set_.low, .int .i64 x.set_.high] 34))).alloc _).block (w.heap.size + 1) (by simp) |>.trans (Za8 (by simp)))
 have HRS := zh (show w5.heap[w.heap.size + 1 + 1]? = some (.cells #[.int .i64 0, .string ⟨#[]⟩, .int .i64 0, .int .i64 0, .int .i64 0, .slice none 0 0] 55 (0, 0)) by rw [hw5]; exact Za8 (by simp));have HSW := zh (show w5.heap.size = w.heap.size + 3 by rw [hw5]; simp);have HT := zh (ht.below HL.o);have HPW := zh (hp.below HL.o);have HLC := zh (Za.refl w5);obtain ⟨q, hq⟩ : ∃ q, Zet r x = q := ⟨_, rfl⟩;rw [hq];have HQ := zh hq;clear hq;obtain ⟨c1, hc1⟩ : ∃ q, Zap r = q := ⟨_, rfl⟩;obtain ⟨c2, hc2⟩ : ∃ q, Zbn r x = q := ⟨_, rfl⟩;have H1 := zh hc1;have H2 := zh hc2;clear hh hx hsz hc1 hc2 ht hp;go_enter Tryz.func20, Tryz.ntmps20;go_upto_region 1 with (fail);rw [← hw5];clear hw5;have HMC := zB HLC HMB;have HXC := zB HLC HXB;have HSC := zB HLC HRS;have m0 := Zbb HMC.o;have p0 := cz6 HXC.o;have s0 := cz6 HSC.o;have fs0 := fz HSC.o;go_wp2_with fail;refine (Zgq r _ F _ HSZ.o (Zal.keep HH.o (fun _ h => h) (Ze.later (HL.o.trans HLC.o))) (HT.o.below HLC.o)).mono ?_;rw [H1.o];rintro e x1 ⟨rfl, hcl⟩;clear HMC HXC HSC m0 p0 s0 fs0;replace HLC := zh (HLC.o.trans hcl);clear hcl;have HMC := zB HLC HMB;have HXC := zB HLC HXB;have HSC := zB HLC HRS;have m0 := Zbb HMC.o;have p0 := cz6 HXC.o;have s0 := cz6 HSC.o
 have fs0 := fz HSC.o
 cases c1 with
 | false =>
  have hq : q = ⟨Zjs, [], [], 205⟩ := by rw [← HQ.o]; unfold Zet; rw [if_neg (by rw [H1.o, H2.o]; simp)]
  subst hq;go_wp2_with fail;have hd := Zdh (RB := w.heap.size + 1 + 1) (n := w.heap.size + 3) (Zdm.zero (w.heap.size + 3) _ _ 205) (by omega) (by omega) (HL.o.trans HLC.o);simp only [Zz, ZP6, Nat.zero_add, Nat.reduceAdd] at hd;exact bodyPost_ret (v := .tuple #[.agg #[.int .i64 0, .string ⟨#[]⟩, .int .i64 0, .int .i64 0, .int .i64 0, .slice none 0 0], .slice none 0 0, .slice none 0 0, .int .i64 205]) (by simp [results, Tryz.results20, go_sem, s0, fs0]) rfl hd
 | true =>
  go_wp2_with fail;refine (Zhs r w.heap.size _ F _ x _ (⟨HMC.o, Zal.keep HH.o (fun _ h => h) (Ze.later (HL.o.trans HLC.o))⟩ : Z3 F _ _ r _) (Zc.keep (G := F) HX64.o (fun _ h => h) (Ze.later (HL.o.trans HLC.o)))).mono ?_;rw [H2.o];rintro e x2 ⟨rfl, hcl⟩;clear HMC HXC HSC m0 p0 s0 fs0;replace HLC := zh (HLC.o.trans hcl);clear hcl;have HMC := zB HLC HMB;have HXC := zB HLC HXB;have HSC := zB HLC HRS;have m0 := Zbb HMC.o;have p0 := cz6 HXC.o;have s0 := cz6 HSC.o;have fs0 := fz HSC.o
  cases c2 with
  | false =>
   have hq : q = ⟨Zjs, [], [], 205⟩ := by rw [← HQ.o]; unfold Zet; rw [if_neg (by rw [H1.o, H2.o]; simp)]
   subst hq;go_wp2_with fail;have hd := Zdh (RB := w.heap.size + 1 + 1) (n := w.heap.size + 3) (Zdm.zero (w.heap.size + 3) _ _ 205) (by omega) (by omega) (HL.o.trans HLC.o);simp only [Zz, ZP6, Nat.zero_add, Nat.reduceAdd] at hd;exact bodyPost_ret (v := .tuple #[.agg #[.int .i64 0, .string ⟨#[]⟩, .int .i64 0, .int .i64 0, .int .i64 0, .slice none 0 0], .slice none 0 0, .slice none 0 0, .int .i64 205]) (by simp [results, Tryz.results20, go_sem, s0, fs0]) rfl hd
  | true =>
   go_wp2_with fail;refine (Zvf w.heap.size r _ (fun b => F b ∧ b < w.heap.size) x _ H1.o HBD.o (zh (⟨HMC.o, Zal.keep (Zj7 _ _ HH.o) (fun _ h => h) (Ze.later (HL.o.trans HLC.o))⟩ : Z3 (fun b => F b ∧ b < w.heap.size) _ _ r _)) (zh fun b hb => Nat.lt_of_lt_of_le hb.2 (HL.o.trans HLC.o).size) (zh fun y hy => (HPW.o.below HLC.o).below (Tch.bel hy)) (zh (Zf7 H2.o)) (zh HX64.o.2)).mono ?_;rintro e wz hpo;clear HMC HXC HSC m0 p0 s0 fs0;have hpp := Zhv.of hpo;have hq : q = Zql (Zgg r x) := by rw [← HQ.o]; unfold Zet; rw [if_pos (by rw [H1.o, H2.o]; rfl)]
   rw [← hq] at hpp;clear hpo hq;obtain ⟨p, ds, vs, qc⟩ := q;obtain ⟨pcs, vd, vv, H, Hv, G, rfl, hparts, hbel⟩ := hpp;have HP := zh hparts;obtain ⟨tg, kq, rfl, z1, z2, z3, z4, z5, hkq⟩ := hparts.pat;obtain ⟨Aq, cq, rfl, -⟩ := hkq;obtain ⟨Ad, cd, rfl, -⟩ := id hparts.defs;obtain ⟨Av, cv, rfl, -⟩ := id hparts.vals;have HSB := zh HLC.o.size;replace HLC := zh (HLC.o.trans hbel);clear hparts hbel z1 z2 z3 z4 z5;obtain ⟨w6, hw6⟩ : ∃ z, z = wz.alloc (.cells #[.int .i64 p.op, .string p.text, .int .i64 p.aH, .int .i64 p.set_.low, .int .i64 p.set_.high, .slice Aq p.kids.length cq] 55) := ⟨_, rfl⟩;have HL6 := zh (show Za wz w6 by rw [hw6]; exact (Za.refl _).alloc _);have HP6 := zh ((HP.o.keep (Ze.later HL6.o)).wide (Nat.le_refl _) HL6.o.size);have HPX := zh (show w6.heap[wz.heap.size]? = some (.cells #[.int .i64 p.op, .string p.text, .int .i64 p.aH, .int .i64 p.set_.low, .int .i64 p.set_.high, .slice Aq p.kids.length cq] 55 (0, 0)) by rw [hw6]; exact heap_alloc_new _ _);replace HLC := zh (HLC.o.trans HL6.o);go_upto_region 4 with (fail);rw [← hw6];clear hw6;have y0 := cz6 HPX.o;have HSC := zB HLC HRS;have s0 := cz6 HSC.o;have fs0 := fz HSC.o;go_wp2_with fail;have hd := Zdh (RB := w.heap.size + 1 + 1) (n := _) HP6.o (by omega) (by have := HSB.o; have := HSW.o; omega) (HL.o.trans HLC.o);simp only [Zz, Nat.zero_add, Nat.reduceAdd] at hd;exact bodyPost_ret (v := .tuple #[.agg #[.int .i64 p.op, .string p.text, .int .i64 p.aH, .int .i64 p.set_.low, .int .i64 p.set_.high, .slice Aq p.kids.length cq], .slice Ad ds.length cd, .slice Av vs.length cv, .int .i64 qc]) (by simp [results, Tryz.results20, go_sem, s0, fs0]) rfl hd
set_option maxRecDepth 1000000
set_option maxHeartbeats 4000000
theorem Zsm : (Tryz.prog.info? Zbc).map (fun i => (i.zero, i.size, i.bytes)) = some (some (.agg #[.int .i64 0, .string ⟨#[]⟩, .int .i64 0, .int .i64 0, .int .i64 0, .slice none 0 0]), 6, 72) := by kernel_rfl
set_option maxRecDepth 1000000
set_option maxHeartbeats 4000000
theorem Zsn {a : Act} {w : World} (w0 : World) (B BB RB PB : Nat) (r : Zf) (T : Zf8) (p : Zaj) (pcs : List Value) (cs : List Value) (F : Nat → Prop) (hok : Zap r = true) (hol : r.aA.length ≤ 1048576) (HST : Hd (Z3 F w0 B r cs)) (HFA : Hd (∀ b, F b → b < w0.heap.size)) (HII : Hd (∀ x, Tch (fun _ => False) w0 x → (fun _ => True) x)) (i n : Nat) (ds : List Zaj) (vars : List Zd) (vv vd v12 : Value) (G H Hv : Nat → Prop) (hi : i < vars.length) (HF : Hd (Zhn B BB RB PB vd (.int .i64 i) v12 a)) (HS : Hd (OfS w0 B BB RB PB 148 r T w p i ds vars n 0 vv vd pcs G H Hv)) :
  ofBkS.wp Tryz.prog (Zjm (fun a w => ∃ v10 v12, Zhn B BB RB PB v10 (.int .i64 i) v12 a ∧ ∃ ds' vars' n' code' vv' G' Hv', OfS w0 B BB RB PB 148 r T w p (i + 1) ds' vars' n' code' vv' v10 pcs G' H Hv')) a w := by
 obtain ⟨fr, rfl⟩ := HF.o.opn;clear HF
 conv => arg 2; whnf
 obtain ⟨iP, hiP, hzP0, hzP1, hzP2⟩ := info_parts Zsm;obtain ⟨Av, cv, rfl, -⟩ := id HS.o.bu.row;obtain ⟨Ad, cd, rfl, -⟩ := id HS.o.defs;obtain ⟨x, hx⟩ : ∃ x, x = vars[i] := ⟨_, rfl⟩;obtain ⟨y, hy⟩ : ∃ y, y = Zdr r x := ⟨_, rfl⟩;obtain ⟨vb, vo, eA, hvb, ⟨c0, c1, c2, c3, c4, c5⟩, -⟩ := (HS.o.bu.row.el Zl).vat hi;rw [← hx] at c0 c1 c2 c3 c4 c5;have hvx : Zhl r x := by rw [hx]; exact HS.o.vb rfl _ (List.getElem_mem hi)
 have hSt : Z3 F w B r cs := HST.o.tch HS.o.tch (fun _ _ h => h) (fun h => h);have HY := zh hy;have HXE := zh hx;have hl24 := HS.o.bu.len;have hi2 : (i : Int) < (vars.length : Int) := by omega
 subst eA;clear hx hy;have b0 := cz4 HS.o.bu.blk;go_wp2_with fail;refine (Zsa B F r cs x w hSt hol hvx).mono ?_;rw [← HY.o];rintro e w4 ⟨rfl, ht4⟩;have HS4 := zh (HS.o.tc ht4);obtain ⟨w5, hw5⟩ : ∃ z, z = w4.alloc (.cells (VC6 y).toArray 34) := ⟨_, rfl⟩;obtain ⟨XB, hXe⟩ : ∃ b, b = w4.heap.size := ⟨_, rfl⟩;have hl5 : Za w4 w5 := by rw [hw5]; exact (Za.refl _).alloc _
 have HX5 := zh (show w5.heap[XB]? = some (.cells (VC6 y).toArray 34 (0, 0)) by rw [hw5, hXe]; exact heap_alloc_new _ _);have HS5 := zh (HS4.o.later hl5);have hXB : XB ≠ BB := by have := Zb HS4.o.bu.blk; omega
 have hx0s : w0.heap.size ≤ XB := by have := HS4.o.tch.size; omega
 have hXN : ¬ (XB = PB ∨ XB = RB ∨ G XB ∨ H XB ∨ Hv XB) := by
  rintro (e | e | e | e | e)
  ·have := Zb HS4.o.pb; omega
  ·have := Zb HS4.o.rb; omega
  ·have := HS4.o.bu.lt XB e; omega
  ·have := (HS4.o.hH XB e).2.1; omega
  ·have := (HS4.o.hD XB e).2.1; omega
 clear ht4 hl5 b0 c0 c1 c2 c3 c4 c5 hSt hvx HS HS4;go_upto_region 8 with (fail);rw [← hw5, ← hXe];clear hw5 hXe;have x0 := cz6 HX5.o;have fx0 := fz HX5.o
 by_cases hk0 : y.kind = 0
 ·have tk : (y.kind == 0) = true := beq_iff_eq.2 hk0;have HZ := zh (show (⟨2, 0, 0, ⟨#[]⟩, ⟨0, 0⟩⟩ : Zd) = Zdf (Zdr r vars[i]) from by rw [← HXE.o, ← HY.o]; unfold Zdf; rw [if_pos hk0]);clear hk0;go_wp2_with fail;refine (Zo5 ⟨#[]⟩ w5).mono ?_;rintro e w5b ⟨rfl, hl5b⟩;replace HX5 := zC hl5b HX5;replace HS5 := zh (HS5.o.later hl5b);clear hl5b x0 fx0;have x0 := cz6 HX5.o;have fx0 := fz HX5.o;have HT6 := zh (show Tch (fun b => b = XB) w5b (Zz w5b XB 0 (VC6 ⟨2, 0, 0, ⟨#[]⟩, ⟨0, 0⟩⟩)) from ⟨Zaf (F := fun b => ¬ b = XB) (B := XB) (w := w5b) (fun h => h rfl) _ w5b 0 (Ze.refl _ _), Zae (Nat.zero_le XB) _ w5b 0 (Below.refl _ _)⟩);have HX6 := zh (Zaa (o := 5) (Zaa (o := 4) (Zaa (o := 3) (Zaa (o := 2) (Zaa (o := 1) (Zaa (o := 0) HX5.o (.int .i64 2)) (.int .i64 0)) (.int .i64 0)) (.string ⟨#[]⟩)) (.int .i64 0)) (.int .i64 0));go_upto_region 10 with (fail);obtain ⟨w6, hw6⟩ : ∃ u, u = Zz w5b XB 0 (VC6 ⟨2, 0, 0, ⟨#[]⟩, ⟨0, 0⟩⟩) := ⟨_, rfl⟩;have hxs : w0.heap.size ≤ XB := hx0s;have HS6 := zh (show OfS _ _ _ _ _ _ _ _ w6 _ _ _ _ _ _ _ _ _ _ _ _ from hw6 ▸ HS5.o.other HT6.o hXB hXN hxs);simp only [Zz, VC6, Nat.zero_add, Nat.reduceAdd] at hw6;replace HX6 := zh (show w6.heap[XB]? = some (.cells (VC6 ⟨2, 0, 0, ⟨#[]⟩, ⟨0, 0⟩⟩).toArray 34 (0, 0)) by rw [hw6]; simpa using HX6.o);rw [← hw6];clear hw6 HT6 x0 fx0;obtain ⟨z, hz⟩ : ∃ z : Zd, z = ⟨2, 0, 0, ⟨#[]⟩, ⟨0, 0⟩⟩ := ⟨_, rfl⟩
  rw [← hz] at HZ HX6;clear hz;replace HS5 := HS6;replace HX5 := HX6;clear HS6 HX6;have HS1 := zh (HS5.o.setN 0);have HX1 := zh ((Below.heap_setCell w6 ⟨BB, 2, none⟩ (.int .i64 ((0 : Nat) : Int)) XB hXB).trans HX5.o);have b0 := cz4 HS5.o.bu.blk;have b2f := fz HS5.o.bu.blk;go_upto_region 11 with (fail);obtain ⟨W, hW⟩ : ∃ z, z = w6.setCell ⟨BB, 2, none⟩ (.int .i64 ((0 : Nat) : Int)) := ⟨_, rfl⟩;rw [← hW] at HS1 HX1;have hW2 : w6.setCell ⟨BB, 2, none⟩ (.int .i64 0) = W := hW.symm;rw [hW2];clear hW hW2 HS5 HX5 b0 b2f;have x0 := cz6 HX1.o;have hpos := HS1.o.pos;have hBl := HST.o.lt;have hSt : Z3 F W B r cs := HST.o.tch HS1.o.tch (fun _ _ h => h) (fun h => h);have hFW : ∀ b, F b → b ≠ BB ∧ ¬ G b ∧ b < W.heap.size := fun b hb => by
   have h1 := HFA.o b hb;have h2 := HS1.o.tch.size;exact ⟨by omega, fun hg => by have := HS1.o.gG b hg; omega, by omega⟩
  have hBW : B ≠ BB ∧ ¬ G B := ⟨by omega, fun hg => by have := HS1.o.gG B hg; omega⟩;have hvb := HS1.o.vb rfl _ (List.getElem_mem hi);have hzh : Zj r z = true := by rw [HZ.o]; exact Zds (Zem hok hvb)
  have hzi : vIn z := by rw [HZ.o]; exact Zhe (Ziz hSt hvb)
  have hIW : ∀ y, Tch (fun b => b = BB ∨ G b ∨ W.heap.size ≤ b) W y → (fun _ => True) y := fun y hy => HII.o y (Tch.trans HS1.o.tch hy (fun _ h => h) (fun b hl hb => by
   rcases hb with hb | hb | hb
   ·omega
   ·have := HS1.o.gG b hb; omega
   ·have := HS1.o.tch.size; omega))
  go_wp2_with fail;refine (Zhg r cs hok hol lv Zma B BB F G vars 0 0 _ W z (zh HS1.o.bu) (zh hSt) (zh hFW) (zh hBW) (by omega) (zh fun _ => by have := Zmb; omega) (zh hzh) (zh hzi) (zh hIW)).mono ?_;rintro e W2 ⟨q, qcs, vars2, n2, code2, vv2, G2, Hq, rfl, hq, hb2, hN2, hnn, hG2, hHq, ht2⟩;rw [if_pos rfl, HZ.o] at hN2;have hq0 : Zcm (lv + 1) Hq W2 q qcs := hq;obtain ⟨tg, kq, rfl, z1, z2, z3, z4, z5, hkq⟩ := hq;obtain ⟨Aq, cq, rfl, -⟩ := hkq;have hlx : Za W2 (W2.alloc (.cells (PC q (.slice Aq q.kids.length cq)).toArray Zbc)) := (Za.refl _).alloc _;have HLX := zh hlx;have HQR := zh ((Zv (lv + 1)).is.keep hq0 (fun _ h => h) (Ze.later hlx));have HKR := zh (HS1.o.defs.keep (Zv (lv + 1)).is (fun _ h => h) ((ht2.keeps fun b hb e => by
   have h1 := HS1.o.hD b hb
   rcases e with e | e
   ·exact h1.2.2.2.1 e
   ·exact h1.2.2.1 e).trans (Ze.later hlx)))
  have HHN := zh (show ∀ y, Hq y → ¬ Hv y from fun y hy hh => by
   have h1 := hHq y hy;have h2 := (HS1.o.hD y hh).2.1
   omega)
  have HNX := zh (And.intro hb2 (And.intro hN2 (And.intro hG2 (And.intro hHq ht2))));have hlen : ds.length ≤ 24 := by have := HS1.o.len; omega
  clear hq0 z1 z2 z3 z4 z5 hb2 hN2 hnn hG2 hHq ht2 hlx x0 hSt hFW hBW hIW hzi hzh hvb
  go_wp2_with (at_builtin; refine Zbo (Zv (lv + 1)) rfl _ _ 53 rfl Zbc iP (.agg #[.int .i64 0, .string ⟨#[]⟩, .int .i64 0, .int .i64 0, .int .i64 0, .slice none 0 0]) 72 Tryz.underlying53 hiP hzP0 hzP1 hzP2 rfl rfl HKR.o ⟨W2.heap.size, 0, none⟩ 1 rfl q (PC q (.slice Aq q.kids.length cq)) (Zfc W2 (PC q (.slice Aq q.kids.length cq)) Zbc) (by intro u hu; simp at hu; rcases hu with rfl | rfl | rfl | rfl | rfl | rfl <;> rfl) HQR.o HHN.o (by omega) (by decide) ?_; intro v2 Y hrow hkp hb0)
  obtain ⟨Hd2, hfin⟩ := OfS.next hok HS1.o hi HNX.o.1 HNX.o.2.2.1 HNX.o.2.2.2.1 HNX.o.2.2.2.2 HNX.o.2.1 HLX.o hrow hkp hb0;go_wp2_with fail;exact ⟨_, _, Zhn.mk' rfl rfl rfl rfl rfl rfl rfl rfl, _, _, _, _, _, _, _, hfin⟩
 ·have tk : (y.kind == 0) = false := nH.2 hk0;have HZ := zh (show y = Zdf (Zdr r vars[i]) from by rw [← HXE.o, ← HY.o]; unfold Zdf; rw [if_neg hk0]);obtain ⟨z, rfl⟩ : ∃ z, z = y := ⟨_, rfl⟩;clear hk0;have HS1 := zh (HS5.o.setN 0);have HX1 := zh ((Below.heap_setCell w5 ⟨BB, 2, none⟩ (.int .i64 ((0 : Nat) : Int)) XB hXB).trans HX5.o);have b0 := cz4 HS5.o.bu.blk;have b2f := fz HS5.o.bu.blk;go_upto_region 11 with (fail);obtain ⟨W, hW⟩ : ∃ z, z = w5.setCell ⟨BB, 2, none⟩ (.int .i64 ((0 : Nat) : Int)) := ⟨_, rfl⟩;rw [← hW] at HS1 HX1;have hW2 : w5.setCell ⟨BB, 2, none⟩ (.int .i64 0) = W := hW.symm;rw [hW2];clear hW hW2 x0 fx0 HS5 HX5 b0 b2f;have x0 := cz6 HX1.o;have hpos := HS1.o.pos;have hBl := HST.o.lt;have hSt : Z3 F W B r cs := HST.o.tch HS1.o.tch (fun _ _ h => h) (fun h => h);have hFW : ∀ b, F b → b ≠ BB ∧ ¬ G b ∧ b < W.heap.size := fun b hb => by
   have h1 := HFA.o b hb;have h2 := HS1.o.tch.size;exact ⟨by omega, fun hg => by have := HS1.o.gG b hg; omega, by omega⟩
  have hBW : B ≠ BB ∧ ¬ G B := ⟨by omega, fun hg => by have := HS1.o.gG B hg; omega⟩;have hvb := HS1.o.vb rfl _ (List.getElem_mem hi);have hzh : Zj r z = true := by rw [HZ.o]; exact Zds (Zem hok hvb)
  have hzi : vIn z := by rw [HZ.o]; exact Zhe (Ziz hSt hvb)
  have hIW : ∀ y, Tch (fun b => b = BB ∨ G b ∨ W.heap.size ≤ b) W y → (fun _ => True) y := fun y hy => HII.o y (Tch.trans HS1.o.tch hy (fun _ h => h) (fun b hl hb => by
   rcases hb with hb | hb | hb
   ·omega
   ·have := HS1.o.gG b hb; omega
   ·have := HS1.o.tch.size; omega))
  go_wp2_with fail;refine (Zhg r cs hok hol lv Zma B BB F G vars 0 0 _ W z (zh HS1.o.bu) (zh hSt) (zh hFW) (zh hBW) (by omega) (zh fun _ => by have := Zmb; omega) (zh hzh) (zh hzi) (zh hIW)).mono ?_;rintro e W2 ⟨q, qcs, vars2, n2, code2, vv2, G2, Hq, rfl, hq, hb2, hN2, hnn, hG2, hHq, ht2⟩;rw [if_pos rfl, HZ.o] at hN2;have hq0 : Zcm (lv + 1) Hq W2 q qcs := hq;obtain ⟨tg, kq, rfl, z1, z2, z3, z4, z5, hkq⟩ := hq;obtain ⟨Aq, cq, rfl, -⟩ := hkq;have hlx : Za W2 (W2.alloc (.cells (PC q (.slice Aq q.kids.length cq)).toArray Zbc)) := (Za.refl _).alloc _;have HLX := zh hlx;have HQR := zh ((Zv (lv + 1)).is.keep hq0 (fun _ h => h) (Ze.later hlx));have HKR := zh (HS1.o.defs.keep (Zv (lv + 1)).is (fun _ h => h) ((ht2.keeps fun b hb e => by
   have h1 := HS1.o.hD b hb
   rcases e with e | e
   ·exact h1.2.2.2.1 e
   ·exact h1.2.2.1 e).trans (Ze.later hlx)))
  have HHN := zh (show ∀ y, Hq y → ¬ Hv y from fun y hy hh => by
   have h1 := hHq y hy;have h2 := (HS1.o.hD y hh).2.1
   omega)
  have HNX := zh (And.intro hb2 (And.intro hN2 (And.intro hG2 (And.intro hHq ht2))));have hlen : ds.length ≤ 24 := by have := HS1.o.len; omega
  clear hq0 z1 z2 z3 z4 z5 hb2 hN2 hnn hG2 hHq ht2 hlx x0 hSt hFW hBW hIW hzi hzh hvb
  go_wp2_with (at_builtin; refine Zbo (Zv (lv + 1)) rfl _ _ 53 rfl Zbc iP (.agg #[.int .i64 0, .string ⟨#[]⟩, .int .i64 0, .int .i64 0, .int .i64 0, .slice none 0 0]) 72 Tryz.underlying53 hiP hzP0 hzP1 hzP2 rfl rfl HKR.o ⟨W2.heap.size, 0, none⟩ 1 rfl q (PC q (.slice Aq q.kids.length cq)) (Zfc W2 (PC q (.slice Aq q.kids.length cq)) Zbc) (by intro u hu; simp at hu; rcases hu with rfl | rfl | rfl | rfl | rfl | rfl <;> rfl) HQR.o HHN.o (by omega) (by decide) ?_; intro v2 Y hrow hkp hb0)
  obtain ⟨Hd2, hfin⟩ := OfS.next hok HS1.o hi HNX.o.1 HNX.o.2.2.1 HNX.o.2.2.2.1 HNX.o.2.2.2.2 HNX.o.2.1 HLX.o hrow hkp hb0;go_wp2_with fail;exact ⟨_, _, Zhn.mk' rfl rfl rfl rfl rfl rfl rfl rfl, _, _, _, _, _, _, _, hfin⟩
set_option maxRecDepth 1000000
set_option maxHeartbeats 4000000
theorem Zso {a : Act} {w : World} (w0 : World) (B BB RB PB : Nat) (r : Zf) (T : Zf8) (p : Zaj) (pcs : List Value) (cs : List Value) (F : Nat → Prop) (hok : Zap r = true) (hol : r.aA.length ≤ 1048576) (HST : Hd (Z3 F w0 B r cs)) (HFA : Hd (∀ b, F b → b < w0.heap.size)) (HII : Hd (∀ x, Tch (fun _ => False) w0 x → (fun _ => True) x)) (HA : Zw4 w0 B BB RB PB r T p pcs 0 a w) :
  ofLpS.wp Tryz.prog (Zjm (Zxf w0 B BB RB PB r T p pcs)) a w := by
 obtain ⟨v12, ds, vars, n, code, vv, vd, G, H, Hv, hf, hs⟩ := HA;obtain ⟨fr, rfl⟩ := hf.opn
 conv => arg 2; whnf
 go_wp2_with fail;refine wp_loop_ghost_k (fun g a u => ∃ i : Nat, g + i = 25 ∧ Zw4 w0 B BB RB PB r T p pcs i a u) 25 ⟨0, rfl, _, _, _, _, _, _, _, _, _, _, Zhn.mk' rfl rfl rfl rfl rfl rfl rfl rfl, hs⟩ ?_;clear hf hs fr;rintro gk a u ⟨i, hg, v12, ds, vars, n, code, vv, vd, G, H, Hv, hf, hs⟩ J K hJ hK;obtain ⟨fr, rfl⟩ := hf.opn;obtain ⟨Av, cv, rfl, -⟩ := id hs.bu.row;have HS := zh hs;clear hf hs;have hl24 := HS.o.bu.len;have b0 := cz4 HS.o.bu.blk
 by_cases hlt : i < vars.length
 ·have t1 : decide ((i : Int) < (vars.length : Int)) = true := decide_eq_true (by omega)
  by_cases hc : code = 0
  ·have t3 : (code == 0) = true := beq_iff_eq.2 hc;have HC := zh hc;clear hc
   go_upto_block 1 with (fail)
   obtain rfl : code = 0 := HC.o;refine Ziw (Zsn w0 B BB RB PB r T p pcs cs F hok hol HST HFA HII i n ds vars _ vd _ G H Hv hlt (zh (Zhn.mk' rfl rfl rfl rfl rfl rfl rfl rfl)) HS) ?_;rintro a' w' ⟨v10, v12', hf, ds', vars', n', code', vv', G', Hv', hs⟩;obtain ⟨fr, rfl⟩ := hf.opn;clear hf b0;go_wp2_with fail;refine Handed.intro (gk - 1) (by omega) (hJ _ _ _ ⟨i + 1, by omega, _, _, _, _, _, _, _, _, _, _, Zhn.mk' rfl rfl rfl rfl rfl rfl rfl rfl, hs⟩)
  ·have t3 : (code == 0) = false := nH.2 hc;go_wp2_with fail;exact ⟨_, _, _, _, _, _, _, _, _, _, _, Zhn.mk' rfl rfl rfl rfl rfl rfl rfl rfl, HS.o, .inl hc⟩
 ·have t1 : decide ((i : Int) < (vars.length : Int)) = false := decide_eq_false (by omega);go_wp2_with fail;exact ⟨_, _, _, _, _, _, _, _, _, _, _, Zhn.mk' rfl rfl rfl rfl rfl rfl rfl rfl, HS.o, .inr hlt⟩
set_option maxRecDepth 1000000
set_option maxHeartbeats 4000000
theorem Zvk (B : Nat) (r : Zf) (cs : List Value) (F : Nat → Prop) (v : Zd) (w : World) (hok : Zap r = true) (hol : r.aA.length ≤ 1048576) (HST : Hd (Z3 F w B r cs)) (HFA : Hd (∀ b, F b → b < w.heap.size)) (HII : Hd (∀ x, Tch (fun _ => False) w x → (fun _ => True) x)) (HH : Hd (Zj r v = true)) (HI : Hd (vIn v)) :
  Calls Tryz.prog 59 #[.pointer (some ⟨B, 0, none⟩), .agg (VC6 v).toArray] w (Zld (Zgg r v) w) := by
 obtain ⟨T, hT⟩ : ∃ T, Zgg r v = T := ⟨_, rfl⟩;rw [hT];have HT0 := zh hT;clear hT;obtain ⟨w2, hw2⟩ : ∃ z, z = ((w.alloc (.cells (VC6 v).toArray 34)).alloc (.cells ZP6.toArray Zbc)) := ⟨_, rfl⟩;have hl2 : Za w w2 := by rw [hw2]; exact ((Za.refl w).alloc _).alloc _
 have HV2 := zh (show w2.heap[w.heap.size]? = some (.cells (VC6 v).toArray 34 (0, 0)) by rw [hw2]; exact ((Za.refl _).alloc _).block w.heap.size (by simp) |>.trans (heap_alloc_new w _));have HR2 := zh (show w2.heap[w.heap.size + 1]? = some (.cells ZP6.toArray Zbc (0, 0)) by rw [hw2]; exact Za8 (by simp));have HS2 : Hd (w2.heap.size = w.heap.size + 2) := zh (by rw [hw2]; simp);have HL2 := zh hl2;clear hl2;go_enter Tryz.func59, Tryz.ntmps59;go_upto_region 1 with (fail);rw [← hw2];clear hw2;obtain ⟨w3, hw3⟩ : ∃ z, z = w2.alloc (.cells #[.pointer (some ⟨B, 0, none⟩), .slice none 0 0, .int .i64 0, .int .i64 0] 148) := ⟨_, rfl⟩;obtain ⟨BB, hBB⟩ : ∃ b, b = w2.heap.size := ⟨_, rfl⟩;have hl3 : Za w2 w3 := by rw [hw3]; exact (Za.refl _).alloc _
 have HB3 := zh (show Bu B BB 148 (fun _ => False) w3 [] 0 0 (.slice none 0 0) from ⟨by rw [hw3, hBB]; exact heap_alloc_new _ _, Zbe.nil _ _ _ _ _, fun h => h, fun _ h => h.elim, by simp, by omega⟩);go_upto_region 2 with (fail);rw [← hw3, ← hBB];have HPS := zh (show w.heap.size + 1 < BB ∧ BB < w3.heap.size from by have := HS2.o; have := Zb HB3.o.blk; omega);clear hw3 hBB HS2;have HV3 := zC hl3 HV2;have HR3 := zC hl3 HR2;have hl03 : Za w w3 := HL2.o.trans hl3;have hSt : Z3 F w3 B r cs := HST.o.later hl03;have hBl := HST.o.lt;have hFW : ∀ b, F b → b ≠ BB ∧ ¬ (fun _ : Nat => False) b ∧ b < w3.heap.size := fun b hb => by
  have h1 := HFA.o b hb;have h2 := HPS.o;exact ⟨by omega, fun h => h, by omega⟩
 have hBW : B ≠ BB ∧ ¬ (fun _ : Nat => False) B := ⟨by have := HPS.o; omega, fun h => h⟩;have hIW : ∀ y, Tch (fun b => b = BB ∨ (fun _ : Nat => False) b ∨ w3.heap.size ≤ b) w3 y → (fun _ => True) y := fun y hy => HII.o y (Tch.trans (Tch.later (P := fun _ => False) hl03) hy (fun _ h => h) (fun b hl hb => by
  have h2 := HPS.o
  rcases hb with hb | hb | hb
  ·omega
  ·exact hb
  ·omega))
 have HT3 := zh (Tch.later (P := fun _ => False) hl03);clear hl3 hl03 HV2 HR2 HL2;have v0 := cz6 HV3.o;go_wp2_with fail;refine (Zhg r cs hok hol lv Zma B BB F (fun _ => False) [] 0 0 _ w3 v (zh HB3.o) (zh hSt) (zh hFW) (zh hBW) (by omega) (zh fun _ => by have := Zmb; omega) (zh HH.o) (zh HI.o) (zh hIW)).mono ?_;rintro e W2 ⟨q, qcs, vars2, n2, code2, vv2, G2, Hq, rfl, hq, hb2, hN2, hnn, hG2, hHq, ht2⟩;rw [if_pos rfl] at hN2;have hq0 : Zcm (lv + 1) Hq W2 q qcs := hq;obtain ⟨tg, kq, rfl, z1, z2, z3, z4, z5, hkq⟩ := hq;obtain ⟨Aq, cq, rfl, -⟩ := hkq;obtain ⟨w6, hw6⟩ : ∃ z, z = W2.alloc (.cells (PC q (.slice Aq q.kids.length cq)).toArray Zbc) := ⟨_, rfl⟩;obtain ⟨PB, hPB⟩ : ∃ b, b = W2.heap.size := ⟨_, rfl⟩;have hl6 : Za W2 w6 := by rw [hw6]; exact (Za.refl _).alloc _
 have HPB6 := zh (show w6.heap[PB]? = some (.cells (PC q (.slice Aq q.kids.length cq)).toArray Zbc (0, 0)) by rw [hw6, hPB]; exact heap_alloc_new _ _);have hs2 := ht2.size;have hps := HPS.o;have HR6 : w6.heap[w.heap.size + 1]? = some (.cells ZP6.toArray Zbc (0, 0)) := (hl6.block _ (by have := Zb HR3.o; omega)).trans (ht2.has HR3.o (fun e => e.elim (by omega) (fun h => h)));have HS6 : Hd (∀ A : Option Addr, OfS w B BB (w.heap.size + 1) PB 148 r T w6 q 0 [] vars2 n2 code2 vv2 (.slice A 0 0) (PC q (.slice Aq q.kids.length cq)) G2 Hq (fun _ => False)) := zh fun A => by
  rw [← HT0.o];refine OfS.start hok HH.o (hb2.later hl6) HPB6.o ((Zv (lv + 1)).is.keep hq0 (fun _ h => h) (Ze.later hl6)) HR6 hN2 (fun b hb => ?_) (fun b hb => ?_) ⟨fun hg => ?_, fun hg => ?_⟩ ⟨by omega, by omega, by omega, by omega, by omega, by omega⟩ (Tch.trans HT3.o (ht2.la hl6) (fun _ h => h) (fun b hl e => e.elim (by omega) (fun h => h)))
  ·rcases hG2 b hb with e | e
   ·exact e.elim
   ·have := HT3.o.size; omega
  ·have h1 := hHq b hb;have := HT3.o.size;have := hl6.size;exact ⟨by omega, by omega, h1.2.2, by omega, by omega, by omega⟩
  ·have := hb2.lt _ hg; omega
  ·rcases hG2 _ hg with e | e
   ·exact e
   ·omega
 clear hl6 HPB6 hs2 HR6 hN2 hnn hG2 hHq ht2 hb2 hq0 z1 z2 z3 z4 z5 hps v0 hSt hFW hBW hIW HV3 HR3 HB3;go_upto_region 3 with (fail);rw [← hw6, ← hPB];clear hw6 hPB
 go_upto_block 0 with (fail)
 refine Ziw (Zso w B BB (w.heap.size + 1) PB r T q _ cs F hok hol HST HFA HII ⟨_, _, _, _, _, _, _, _, _, _, Zhn.mk' rfl rfl rfl rfl rfl rfl rfl rfl, OfS.later (HS6.o _) (by first | exact Za.refl _ | exact (Za.refl _).alloc _)⟩) ?_;rintro a' w' ⟨i, v12, ds, vars, n, code, vv, vd, G, H, Hv, hf, hs, hend⟩;obtain ⟨fr, rfl⟩ := hf.opn;have HSZ := zh hs;clear hf hs HS6;obtain ⟨Av, cv, rfl, -⟩ := id HSZ.o.bu.row;obtain ⟨Ad, cd, rfl, -⟩ := id HSZ.o.defs;obtain ⟨b0, b1, b2, b3⟩ := cz4 HSZ.o.bu.blk
 by_cases hc : code = 0
 ·subst hc;have HI := zh (hend.resolve_left (fun h => h rfl));clear hend;go_upto_region 14 with (fail);refine Zey [6, 7] [] (fun x => x.heap[BB]? = some (.cells #[.pointer (some ⟨B, 0, none⟩), .slice Av vars.length cv, .int .i64 n, .int .i64 0] 148 (0, 0)) ∧ x.heap[PB]? = some (.cells (PC q (.slice Aq q.kids.length cq)).toArray Zbc (0, 0))) (by kernel_rfl) (fun W hW => ?_);have hlW : Za w' W := by rw [hW]; exact (Za.refl _).drew
  clear hW;have HSW := zh (HSZ.o.later hlW);have HS := zh (And.intro HSW.o.bu.blk HSW.o.pb);have HPO := zh HSW.o.pos;clear hlW b0 b1 b2 b3;refine tV 0 57 (v := ?_) rfl rfl HS.o (fun x hx => ?_) ?_;rotate_left
  ·have b0 := cell_of_row _ BB 0 _ _ _ hx.1; have b1 := cell_of_row _ BB 1 _ _ _ hx.1; have b2 := cell_of_row _ BB 2 _ _ _ hx.1; have b3 := cell_of_row _ BB 3 _ _ _ hx.1; simp only [nD, nE, nF] at b0 b1 b2 b3; have p0 := cell_of_row _ PB 0 _ _ _ hx.2; have p1 := cell_of_row _ PB 1 _ _ _ hx.2; have p2 := cell_of_row _ PB 2 _ _ _ hx.2; have p3 := cell_of_row _ PB 3 _ _ _ hx.2; have p4 := cell_of_row _ PB 4 _ _ _ hx.2; have p5 := cell_of_row _ PB 5 _ _ _ hx.2; simp only [nD, nE, nF] at p0 p1 p2 p3 p4 p5; go_simp;first|done|with_reducible rfl
  simp only [Act.put, nA, nB, nC];refine tV 1 58 (v := ?_) rfl rfl HS.o (fun x hx => ?_) ?_;rotate_left
  ·go_simp;first|done|with_reducible rfl
  simp only [Act.put, nA, nB, nC];refine tV 2 59 (v := ?_) rfl rfl HS.o (fun x hx => ?_) ?_;rotate_left
  ·go_simp;first|done|with_reducible rfl
  simp only [Act.put, nA, nB, nC];refine tV 3 60 (v := ?_) rfl rfl HS.o (fun x hx => ?_) ?_;rotate_left
  ·have b0 := cell_of_row _ BB 0 _ _ _ hx.1; have b1 := cell_of_row _ BB 1 _ _ _ hx.1; have b2 := cell_of_row _ BB 2 _ _ _ hx.1; have b3 := cell_of_row _ BB 3 _ _ _ hx.1; simp only [nD, nE, nF] at b0 b1 b2 b3; have p0 := cell_of_row _ PB 0 _ _ _ hx.2; have p1 := cell_of_row _ PB 1 _ _ _ hx.2; have p2 := cell_of_row _ PB 2 _ _ _ hx.2; have p3 := cell_of_row _ PB 3 _ _ _ hx.2; have p4 := cell_of_row _ PB 4 _ _ _ hx.2; have p5 := cell_of_row _ PB 5 _ _ _ hx.2; simp only [nD, nE, nF] at p0 p1 p2 p3 p4 p5; go_simp;first|done|with_reducible rfl
  simp only [Act.put, nA, nB, nC];refine Zej 4 (by kernel_rfl) rfl rfl ?_;have r0 := cz6 HSW.o.rb;have fr0 := fz HSW.o.rb;have hs5 : _ ∧ _ := And.intro ((Zbw (B := w.heap.size + 1) (k := BB) (by have := HPO.o; omega) [.int .i64 q.op, .string q.text, .int .i64 q.aH, .int .i64 q.set_.low, .int .i64 q.set_.high, .slice Aq q.kids.length cq] W 0).trans HS.o.1) ((Zbw (B := w.heap.size + 1) (k := PB) (by have := HPO.o; omega) [.int .i64 q.op, .string q.text, .int .i64 q.aH, .int .i64 q.set_.low, .int .i64 q.set_.high, .slice Aq q.kids.length cq] W 0).trans HS.o.2);simp only [Zz, Nat.zero_add, Nat.reduceAdd] at hs5;have HS5 := zh hs5;clear hs5;go_wp2_with fail;refine ⟨HS5.o, ?_⟩;replace HS := HS5;refine tV 5 5 (v := ?_) rfl rfl HS.o (fun x hx => ?_) ?_;rotate_left
  ·go_simp;first|done|with_reducible rfl
  simp only [Act.put, nA, nB, nC];refine Zfo [_, _] (by kernel_rfl) rfl rfl ?_;simp only [List.getElem_toArray, List.getElem_cons_succ, List.getElem_cons_zero];go_wp2_with fail;have hd := Zq4 HSW.o HI.o;simp only [Zz, ZP6, PC, Nat.zero_add, Nat.reduceAdd] at hd;exact bodyPost_ret (v := .tuple #[.agg #[.int .i64 q.op, .string q.text, .int .i64 q.aH, .int .i64 q.set_.low, .int .i64 q.set_.high, .slice Aq q.kids.length cq], .slice Ad ds.length cd, .slice Av vars.length cv, .int .i64 0]) (by simp [results, Tryz.results59, go_sem, r0, fr0]) rfl hd
 ·have t3 : (code != 0) = true := bne_iff_ne.2 hc;go_upto_region 13 with (fail);refine Zey [6] [] (fun x => x.heap[BB]? = some (.cells #[.pointer (some ⟨B, 0, none⟩), .slice Av vars.length cv, .int .i64 n, .int .i64 code] 148 (0, 0)) ∧ x.heap[PB]? = some (.cells (PC q (.slice Aq q.kids.length cq)).toArray Zbc (0, 0))) (by kernel_rfl) (fun W hW => ?_);have hlW : Za w' W := by rw [hW]; exact (Za.refl _).drew
  clear hW;have HSW := zh (HSZ.o.later hlW);have HS := zh (And.intro HSW.o.bu.blk HSW.o.pb);have HPO := zh HSW.o.pos;clear hlW b0 b1 b2 b3;refine tV 0 54 (v := ?_) rfl rfl HS.o (fun x hx => ?_) ?_;rotate_left
  ·go_simp;first|done|with_reducible rfl|rw[if_neg (by omega)]|rw[if_pos (by omega)]
  simp only [Act.put, nA, nB, nC];refine tV 1 55 (v := ?_) rfl rfl HS.o (fun x hx => ?_) ?_;rotate_left
  ·go_simp;first|done|with_reducible rfl
  simp only [Act.put, nA, nB, nC];refine tV 2 56 (v := ?_) rfl rfl HS.o (fun x hx => ?_) ?_;rotate_left
  ·have b0 := cell_of_row _ BB 0 _ _ _ hx.1; have b1 := cell_of_row _ BB 1 _ _ _ hx.1; have b2 := cell_of_row _ BB 2 _ _ _ hx.1; have b3 := cell_of_row _ BB 3 _ _ _ hx.1; simp only [nD, nE, nF] at b0 b1 b2 b3; have p0 := cell_of_row _ PB 0 _ _ _ hx.2; have p1 := cell_of_row _ PB 1 _ _ _ hx.2; have p2 := cell_of_row _ PB 2 _ _ _ hx.2; have p3 := cell_of_row _ PB 3 _ _ _ hx.2; have p4 := cell_of_row _ PB 4 _ _ _ hx.2; have p5 := cell_of_row _ PB 5 _ _ _ hx.2; simp only [nD, nE, nF] at p0 p1 p2 p3 p4 p5; go_simp;first|done|with_reducible rfl
  simp only [Act.put, nA, nB, nC];refine Zej 3 (by kernel_rfl) rfl rfl ?_;have r0 := cz6 HSW.o.rb;have fr0 := fz HSW.o.rb;have hs5 : _ ∧ _ := And.intro ((Zbw (B := w.heap.size + 1) (k := BB) (by have := HPO.o; omega) [.int .i64 0, .string ⟨#[]⟩, .int .i64 0, .int .i64 0, .int .i64 0, .slice none 0 0] W 0).trans HS.o.1) ((Zbw (B := w.heap.size + 1) (k := PB) (by have := HPO.o; omega) [.int .i64 0, .string ⟨#[]⟩, .int .i64 0, .int .i64 0, .int .i64 0, .slice none 0 0] W 0).trans HS.o.2);simp only [Zz, Nat.zero_add, Nat.reduceAdd] at hs5;have HS5 := zh hs5;clear hs5;go_wp2_with fail;refine ⟨HS5.o, ?_⟩;replace HS := HS5;refine tV 4 5 (v := ?_) rfl rfl HS.o (fun x hx => ?_) ?_;rotate_left
  ·go_simp;first|done|with_reducible rfl
  simp only [Act.put, nA, nB, nC];refine tV 5 6 (v := ?_) rfl rfl HS.o (fun x hx => ?_) ?_;rotate_left
  ·go_simp;first|done|with_reducible rfl
  simp only [Act.put, nA, nB, nC];refine Zfo [_] (by kernel_rfl) rfl rfl ?_;simp only [List.getElem_toArray, List.getElem_cons_succ, List.getElem_cons_zero];go_wp2_with fail;have hd := Zuh HSW.o hc;simp only [Zz, ZP6, PC, Nat.zero_add, Nat.reduceAdd] at hd;exact bodyPost_ret (v := .tuple #[.agg #[.int .i64 0, .string ⟨#[]⟩, .int .i64 0, .int .i64 0, .int .i64 0, .slice none 0 0], .slice none 0 0, .slice none 0 0, .int .i64 code]) (by simp [results, Tryz.results59, go_sem, r0, fr0]) rfl hd
theorem Zgb (r : Zf) (cs : List Value) (F : Nat → Prop) (w : World) (x : Zd) (hsz : Zav r ≤ 1048576) (h : Zcf F w r cs) (hx : Zg F w x [.int .i64 x.kind, .int .i64 x.aH, .int .i64 x.index, .string x.text, .int .i64 x.set_.low, .int .i64 x.set_.high]) :
  Calls Tryz.prog 17 #[.agg cs.toArray, .agg #[.int .i64 x.kind, .int .i64 x.aH, .int .i64 x.index, .string x.text, .int .i64 x.set_.low, .int .i64 x.set_.high]] w fun e w' => Zhv w (Zet r x) e w' := by
 have hh := h;obtain ⟨aL, aM, aN, aO, aP, aQ, aR, rfl, _⟩ := h;have HH := zh hh;have HX64 := zh (show Zg F w x [.int .i64 x.kind, .int .i64 x.aH, .int .i64 x.index, .string x.text, .int .i64 x.set_.low, .int .i64 x.set_.high] from hx);have HSZ := zh hsz;have HBD := zh (show r.aA.length ≤ 1048576 by
  have hz : Zk ByteArray.size r.names + (Zk Zp r.aB + (Zk Zs r.aA + (Zk Zw r.globals + (r.aC.size + (Zk ByteArray.size r.output + (Zk ByteArray.size r.trace + (Zk (fun _ => 0) r.aE))))))) ≤ 1048576 := hsz;have h1 : Zk Zs r.aA = r.aA.length + Za0 Zs r.aA := rfl
  omega)
 obtain ⟨w5, hw5⟩ : ∃ z, z = (((w.alloc (.cells #[aL, aM, aN, aO, .string r.aC, .int .i64 r.aD, aP, aQ, aR, .bool r.aF, .int .i64 r.ticks, .int .i64 r.aG, .int .i64 r.made] 30)).alloc (.cells #[.int .i64 x.kind, .int .i64 x.aH, .int .i64 x.index, .string x.text, .int .i64 x.set_.low, .int .i64 x.set_.high] 34)).alloc (.cells #[.int .i64 0, .string ⟨#[]⟩, .int .i64 0, .int .i64 0, .int .i64 0, .slice none 0 0] 55)) := ⟨_, rfl⟩;have HL := zh (show Za w w5 by rw [hw5]; exact (((Za.refl w).alloc _).alloc _).alloc _);have HMB := zh (show w5.heap[w.heap.size]? = some (.cells #[aL, aM, aN, aO, .string r.aC, .int .i64 r.aD, aP, aQ, aR, .bool r.aF, .int .i64 r.ticks, .int .i64 r.aG, .int .i64 r.made] 30 (0, 0)) by rw [hw5]; exact (((Za.refl (w.alloc (.cells #[aL, aM, aN, aO, .string r.aC, .int .i64 r.aD, aP, aQ, aR, .bool r.aF, .int .i64 r.ticks, .int .i64 r.aG, .int .i64 r.made] 30))).alloc _).alloc _).block (w.heap.size) (by simp) |>.trans (Za8 (by simp)));have HXB := zh (show w5.heap[w.heap.size + 1]? = some (.cells #[.int .i64 x.kind, .int .i64 x.aH, .int .i64 x.index, .string x.text, .int .i64 x.set_.low, .int .i64 x.set_.high] 34 (0, 0)) by rw [hw5]; exact ((Za.refl ((w.alloc (.cells #[aL, aM, aN, aO, .string r.aC, .int .i64 r.aD, aP, aQ, aR, .bool r.aF, .int .i64 r.ticks, .int .i64 r.aG, .int .i64 r.made] 30)).alloc (.cells #[.int .i64 x.kind, .int .i64 x.aH, .int .i64 x.index, .string x.text, .int .i64 x.set_.low, .int .i64 x.set_.high] 34))).alloc _).block (w.heap.size + 1) (by simp) |>.trans (Za8 (by simp)))
 have HRS := zh (show w5.heap[w.heap.size + 1 + 1]? = some (.cells #[.int .i64 0, .string ⟨#[]⟩, .int .i64 0, .int .i64 0, .int .i64 0, .slice none 0 0] 55 (0, 0)) by rw [hw5]; exact Za8 (by simp));have HSW := zh (show w5.heap.size = w.heap.size + 3 by rw [hw5]; simp);have HLC := zh (Za.refl w5);obtain ⟨q, hq⟩ : ∃ q, Zet r x = q := ⟨_, rfl⟩;rw [hq];have HQ := zh hq;clear hq;obtain ⟨c1, hc1⟩ : ∃ q, Zap r = q := ⟨_, rfl⟩;obtain ⟨c2, hc2⟩ : ∃ q, Zbn r x = q := ⟨_, rfl⟩;have H1 := zh hc1;have H2 := zh hc2;clear hh hx hsz hc1 hc2;go_enter Tryz.func17, Tryz.ntmps17;go_upto_region 1 with (fail);rw [← hw5];clear hw5;have HMC := zB HLC HMB;have HXC := zB HLC HXB;have HSC := zB HLC HRS;have m0 := Zbb HMC.o;have p0 := cz6 HXC.o;have s0 := cz6 HSC.o;have fs0 := fz HSC.o;go_wp2_with fail;refine (Ziu r _ F _ x HSZ.o (Zal.keep HH.o (fun _ h => h) (Ze.later (HL.o.trans HLC.o))) (Zc.keep (G := F) HX64.o (fun _ h => h) (Ze.later (HL.o.trans HLC.o)))).mono ?_;rw [H1.o];rintro e x1 ⟨rfl, hcl⟩;clear HMC HXC HSC m0 p0 s0 fs0;replace HLC := zh (HLC.o.trans hcl);clear hcl;have HMC := zB HLC HMB;have HXC := zB HLC HXB;have HSC := zB HLC HRS;have m0 := Zbb HMC.o;have p0 := cz6 HXC.o;have s0 := cz6 HSC.o
 have fs0 := fz HSC.o
 cases c1 with
 | false =>
  have hq : q = ⟨Zjs, [], [], 205⟩ := by rw [← HQ.o]; unfold Zet; rw [if_neg (by rw [H1.o, H2.o]; simp)]
  subst hq;go_wp2_with fail;have hd := Zdh (RB := w.heap.size + 1 + 1) (n := w.heap.size + 3) (Zdm.zero (w.heap.size + 3) _ _ 205) (by omega) (by omega) (HL.o.trans HLC.o);simp only [Zz, ZP6, Nat.zero_add, Nat.reduceAdd] at hd;exact bodyPost_ret (v := .tuple #[.agg #[.int .i64 0, .string ⟨#[]⟩, .int .i64 0, .int .i64 0, .int .i64 0, .slice none 0 0], .slice none 0 0, .slice none 0 0, .int .i64 205]) (by simp [results, Tryz.results17, go_sem, s0, fs0]) rfl hd
 | true =>
  obtain ⟨ch, hch⟩ : ∃ q, Zj r x = q := ⟨_, rfl⟩;rw [hch];have HCH := zh hch;clear hch
  cases ch with
  | false =>
   obtain rfl : c2 = false := by rw [← H2.o]; cases e : Zbn r x with | false => rfl | true => (have := Zf7 e; rw [HCH.o] at this; cases this)
   have hq : q = ⟨Zjs, [], [], 205⟩ := by rw [← HQ.o]; unfold Zet; rw [if_neg (by rw [H1.o, H2.o]; simp)]
   subst hq;go_wp2_with fail;have hd := Zdh (RB := w.heap.size + 1 + 1) (n := w.heap.size + 3) (Zdm.zero (w.heap.size + 3) _ _ 205) (by omega) (by omega) (HL.o.trans HLC.o);simp only [Zz, ZP6, Nat.zero_add, Nat.reduceAdd] at hd;exact bodyPost_ret (v := .tuple #[.agg #[.int .i64 0, .string ⟨#[]⟩, .int .i64 0, .int .i64 0, .int .i64 0, .slice none 0 0], .slice none 0 0, .slice none 0 0, .int .i64 205]) (by simp [results, Tryz.results17, go_sem, s0, fs0]) rfl hd
  | true =>
   go_wp2_with fail;refine (Zgp r w.heap.size _ F _ x _ (⟨HMC.o, Zal.keep HH.o (fun _ h => h) (Ze.later (HL.o.trans HLC.o))⟩ : Z3 F _ _ r _) (Zc.keep (G := F) HX64.o (fun _ h => h) (Ze.later (HL.o.trans HLC.o)))).mono ?_;rw [H2.o];rintro e x2 ⟨rfl, hcl⟩;clear HMC HXC HSC m0 p0 s0 fs0;replace HLC := zh (HLC.o.trans hcl);clear hcl;have HMC := zB HLC HMB;have HXC := zB HLC HXB;have HSC := zB HLC HRS;have m0 := Zbb HMC.o;have p0 := cz6 HXC.o;have s0 := cz6 HSC.o;have fs0 := fz HSC.o
   cases c2 with
   | false =>
    have hq : q = ⟨Zjs, [], [], 205⟩ := by rw [← HQ.o]; unfold Zet; rw [if_neg (by rw [H1.o, H2.o]; simp)]
    subst hq;go_wp2_with fail;have hd := Zdh (RB := w.heap.size + 1 + 1) (n := w.heap.size + 3) (Zdm.zero (w.heap.size + 3) _ _ 205) (by omega) (by omega) (HL.o.trans HLC.o);simp only [Zz, ZP6, Nat.zero_add, Nat.reduceAdd] at hd;exact bodyPost_ret (v := .tuple #[.agg #[.int .i64 0, .string ⟨#[]⟩, .int .i64 0, .int .i64 0, .int .i64 0, .slice none 0 0], .slice none 0 0, .slice none 0 0, .int .i64 205]) (by simp [results, Tryz.results17, go_sem, s0, fs0]) rfl hd
   | true =>
    go_wp2_with fail;refine (Zvk w.heap.size r _ (fun b => F b ∧ b < w.heap.size) x _ H1.o HBD.o (zh (⟨HMC.o, Zal.keep (Zj7 _ _ HH.o) (fun _ h => h) (Ze.later (HL.o.trans HLC.o))⟩ : Z3 (fun b => F b ∧ b < w.heap.size) _ _ r _)) (zh fun b hb => Nat.lt_of_lt_of_le hb.2 (HL.o.trans HLC.o).size) (zh fun _ _ => trivial) (zh (Zf7 H2.o)) (zh HX64.o.2)).mono ?_;rintro e wz hpo;clear HMC HXC HSC m0 p0 s0 fs0;have hpp := Zhv.of hpo;have hq : q = Zql (Zgg r x) := by rw [← HQ.o]; unfold Zet; rw [if_pos (by rw [H1.o, H2.o]; rfl)]
    rw [← hq] at hpp;clear hpo hq;obtain ⟨p, ds, vs, qc⟩ := q;obtain ⟨pcs, vd, vv, H, Hv, G, rfl, hparts, hbel⟩ := hpp;have HP := zh hparts;obtain ⟨tg, kq, rfl, z1, z2, z3, z4, z5, hkq⟩ := hparts.pat;obtain ⟨Aq, cq, rfl, -⟩ := hkq;obtain ⟨Ad, cd, rfl, -⟩ := id hparts.defs;obtain ⟨Av, cv, rfl, -⟩ := id hparts.vals;have HSB := zh HLC.o.size;replace HLC := zh (HLC.o.trans hbel);clear hparts hbel z1 z2 z3 z4 z5;have HSC := zB HLC HRS;have s0 := cz6 HSC.o;have fs0 := fz HSC.o;go_wp2_with fail;have hd := Zdh (RB := w.heap.size + 1 + 1) (n := _) HP.o (by omega) (by have := HSB.o; have := HSW.o; omega) (HL.o.trans HLC.o);simp only [Zz, Nat.zero_add, Nat.reduceAdd] at hd;exact bodyPost_ret (v := .tuple #[.agg #[.int .i64 p.op, .string p.text, .int .i64 p.aH, .int .i64 p.set_.low, .int .i64 p.set_.high, .slice Aq p.kids.length cq], .slice Ad ds.length cd, .slice Av vs.length cv, .int .i64 qc]) (by simp [results, Tryz.results17, go_sem, s0, fs0]) rfl hd
theorem Zg8 (l : List Zd) (v : Value) (F : Nat → Prop) (w : World) (k : Int) (hk : 1 ≤ k) (hk1 : k + (Zi Z2 l : Nat) ≤ 1099511627776) (hr : Zo Zg 6 F w (Zco Zdt Z2 l k) v) :
  Calls Tryz.prog 31 #[v, .int .i64 k] w fun e w' => e = .returned (.int .i64 (k + (Zi Z2 l : Nat))) ∧ Below w.heap.size w w' := by
 obtain ⟨A, cp, rfl, hc, hcm, hel⟩ := hr;have HEL := zh hel;clear hel;simp only [Zc3] at hc ⊢;unfold maxLen at hcm;have HK1 := zh hk1;clear hk1;go_enter Tryz.func31, Tryz.ntmps31;go_wp2_with fail
 go_loopw [1, 5] (fun kv i wr => ∃ j : Nat, j ≤ l.length ∧ i = .int .i64 j ∧ kv = .int .i64 (k + (Zi Z2 (l.take j) : Nat)) ∧ Below w.heap.size w wr) (fun _ i _ => l.length - (intOf i).toNat)
 case atStart => exact ⟨0, Nat.zero_le _, rfl, by simp [Zi], Below.refl _ _⟩
 case round =>
  obtain ⟨j, hj, rfl, rfl, hbel⟩ := hrel;have HBL := zh hbel;have HLE := zh (Zbm Z2 l j);obtain ⟨y, hy⟩ : ∃ y : Int, k + (Zi Z2 (l.take j) : Nat) = y := ⟨_, rfl⟩;have hy1 : 1 ≤ y := by omega
  have hy2 : y ≤ 1099511627776 := by have := HK1.o; have := HLE.o; omega
  rw [hy];have HY := zh hy;clear hy HLE hbel
  by_cases hlt : j < l.length
  ·have hlt' : (j : Int) < l.length := by omega
   have HCT := zh (Zce Z2 l j hlt);have HCL := zh (Zbm Z2 l (j + 1));obtain ⟨b, o, cs, rfl, hF, hbl, hE, hcell⟩ := HEL.o j (by rw [Zc3]; exact hlt);rw [Zl1 Zdt Z2 l k j hlt, HY.o] at hE;have hE' : cs = [.int .i64 (y), .int .i64 (y + 1), .int .i64 (y + 2), .string (Zb2 (y + 3)), .int .i64 (y + 4), .int .i64 (y + 5)] := by
    obtain ⟨e, bH, bI, bJ, bK, bL, bM⟩ := hE;exact e
   obtain rfl := hE';clear hE;have HC := zh hcell;clear hcell;have HCE := zh (show Z2 l[j] = 6 from rfl);have c0 : wr.cell? ⟨b, o + j * 6, none⟩ = some (.int .i64 (y)) := by have hh := (HBL.o.cell (p := ⟨b, o + j * 6 + 0, none⟩) hbl).trans (HC.o 0 _ rfl); exact hh
   have c1 : wr.cell? ⟨b, o + j * 6 + 1, none⟩ = some (.int .i64 (y + 1)) := by have hh := (HBL.o.cell (p := ⟨b, o + j * 6 + 1, none⟩) hbl).trans (HC.o 1 _ rfl); exact hh
   have c2 : wr.cell? ⟨b, o + j * 6 + 2, none⟩ = some (.int .i64 (y + 2)) := by have hh := (HBL.o.cell (p := ⟨b, o + j * 6 + 2, none⟩) hbl).trans (HC.o 2 _ rfl); exact hh
   have n0_1 : y + 1 + 1 = y + 2 := by omega
   have n0_2 : y + 2 + 1 = y + 3 := by omega
   have n0_3 : y + 3 + 1 = y + 4 := by omega
   go_upto_region 13 with (fail);clear c0 c1 c2 n0_1 n0_2 n0_3;refine Zax [] [] (by kernel_rfl) (fun W1 hW1 => ?_);have hW1L : Za wr W1 := by rw [hW1]; exact (Za.refl _).drew
   replace HBL := zh (HBL.o.trans (Below.mono hW1L HBL.o.size));clear hW1 hW1L;have cW : W1.cell? ⟨b, o + j * 6 + 3, none⟩ = some (.string (Zb2 (y + 3))) := by have hh := (HBL.o.cell (p := ⟨b, o + j * 6 + 3, none⟩) hbl).trans (HC.o 3 _ rfl); exact hh
   have hbW : b < W1.heap.size := Nat.lt_of_lt_of_le hbl HBL.o.size;have ysame : ((Zb2 (y + 3)).toList == (Zb2 (y + 3)).toList) = true := by simp
   refine tU 0 39 (v := ?_) rfl rfl (fun x hx => ?_) ?_;rotate_left
   ·go_simp;first|done|with_reducible rfl
   simp only [Act.put, nA, nB, nC];refine tU 1 40 (v := ?_) rfl rfl (fun x hx => ?_) ?_;rotate_left
   ·go_simp;first|done|with_reducible rfl
   simp only [Act.put, nA, nB, nC];refine tU 2 41 (v := ?_) rfl rfl (fun x hx => ?_) ?_;rotate_left
   ·go_simp;first|done|with_reducible rfl|rw[if_neg (by omega)]|rw[if_pos (by omega)]
   simp only [Act.put, nA, nB, nC];refine tU 3 42 (v := ?_) rfl rfl (fun x hx => ?_) ?_;rotate_left
   ·go_simp;first|done|with_reducible rfl
   simp only [Act.put, nA, nB, nC];refine tU 4 43 (v := ?_) rfl rfl (fun x hx => ?_) ?_;rotate_left
   ·have x0 := (hx.cell ⟨b, o + j * 6 + 3, none⟩ hbW).trans cW; go_simp;first|done|with_reducible rfl
   simp only [Act.put, nA, nB, nC];refine tU 5 44 (v := ?_) rfl rfl (fun x hx => ?_) ?_;rotate_left
   ·go_simp;first|done|with_reducible rfl
   simp only [Act.put, nA, nB, nC];refine Ze3 6 (by kernel_rfl) rfl rfl ?_;go_wp2_with fail;refine (Zc6 (y + 3) W1 (by omega) (by have := HCE.o; have := HCT.o; have := HCL.o; have := HK1.o; have := HY.o; omega)).mono ?_;rintro e w1 ⟨rfl, hb1⟩;go_wp2_with fail;refine ⟨hb1, ?_⟩;refine tU 7 46 (v := ?_) rfl rfl (fun x hx => ?_) ?_;rotate_left
   ·go_simp;first|done|with_reducible rfl
   simp only [Act.put, nA, nB, nC];refine Za7 [] (by kernel_rfl) rfl rfl ?_;replace HBL := zh (HBL.o.trans (Below.mono hb1 HBL.o.size));clear hb1 cW hbW ysame;have c4 : w1.cell? ⟨b, o + j * 6 + 4, none⟩ = some (.int .i64 (y + 4)) := by have hh := (HBL.o.cell (p := ⟨b, o + j * 6 + 4, none⟩) hbl).trans (HC.o 4 _ rfl); exact hh
   have c5 : w1.cell? ⟨b, o + j * 6 + 5, none⟩ = some (.int .i64 (y + 5)) := by have hh := (HBL.o.cell (p := ⟨b, o + j * 6 + 5, none⟩) hbl).trans (HC.o 5 _ rfl); exact hh
   have n1_1 : y + 1 + 1 = y + 2 := by omega
   have n1_2 : y + 2 + 1 = y + 3 := by omega
   have n1_3 : y + 3 + 1 = y + 4 := by omega
   have n1_4 : y + 4 + 1 = y + 5 := by omega
   have n1_5 : y + 5 + 1 = y + 6 := by omega
   have n1_6 : y + 6 + 1 = y + 7 := by omega
   go_wp2_with fail
   go_roundw
   case rel => exact ⟨j + 1, by omega, by go_num, by have := HCE.o; have := HCT.o; have := HCL.o; have := HK1.o; have := HY.o; congr 1; omega, HBL.o⟩
   case measure => simp [intOf]; omega
  ·have hjl : j = l.length := by omega
   go_wp2_with fail;go_ret;subst hjl;refine ⟨Zak ?_, HBL.o⟩;have := HY.o;rw [List.take_length] at this;exact this.symm
end Go.Proofs.YtpmhelkiicigfaaGreatDoor
namespace Go.Proofs.YtpmhelkiicigfaaGreatDoor
open Go.RowKit
section
variable {S K : Zbt Zaj} {mK : Zaj → Int → Zaj} {cK : Zaj → Nat}
def Zkq (K : Zbt Zaj) (mK : Zaj → Int → Zaj) (cK : Zaj → Nat) : Prop := ∀ (l : List Zaj) (v : Value) (F : Nat → Prop) (w : World) (k : Int) (hk : 1 ≤ k) (hk1 : k + (Zi cK l : Nat) ≤ 1099511627776) (hr : Zo K 6 F w (Zco mK cK l k) v),
 Calls Tryz.prog 30 #[v, .int .i64 k] w fun e w' => e = .returned (.int .i64 (k + (Zi cK l : Nat))) ∧ Below w.heap.size w w'
theorem Zi3 (hK : Zcx K 6) (hkid : Zkq K mK cK) : Zkq (Zdk K) (Zh7 mK cK) (Zby cK) := by
 intro l v F w k hk hk1 hr;obtain ⟨A, cp, rfl, hc, hcm, hel⟩ := hr;have HEL := zh hel;clear hel;simp only [Zc3] at hc ⊢;unfold maxLen at hcm;have HK1 := zh hk1;clear hk1;go_enter Tryz.func30, Tryz.ntmps30;go_wp2_with fail
 go_loopw [1, 5] (fun kv i wr => ∃ j : Nat, j ≤ l.length ∧ i = .int .i64 j ∧ kv = .int .i64 (k + (Zi (Zby cK) (l.take j) : Nat)) ∧ Below w.heap.size w wr) (fun _ i _ => l.length - (intOf i).toNat)
 case atStart => exact ⟨0, Nat.zero_le _, rfl, by simp [Zi], Below.refl _ _⟩
 case round =>
  obtain ⟨j, hj, rfl, rfl, hbel⟩ := hrel;have HBL := zh hbel;have HLE := zh (Zbm (Zby cK) l j);obtain ⟨y, hy⟩ : ∃ y : Int, k + (Zi (Zby cK) (l.take j) : Nat) = y := ⟨_, rfl⟩;have hy1 : 1 ≤ y := by omega
  have hy2 : y ≤ 1099511627776 := by have := HK1.o; have := HLE.o; omega
  rw [hy];have HY := zh hy;clear hy HLE hbel
  by_cases hlt : j < l.length
  ·have hlt' : (j : Int) < l.length := by omega
   have HCT := zh (Zce (Zby cK) l j hlt);have HCL := zh (Zbm (Zby cK) l (j + 1));obtain ⟨b, o, cs, rfl, hF, hbl, hE, hcell⟩ := HEL.o j (by rw [Zc3]; exact hlt);rw [Zl1 (Zh7 mK cK) (Zby cK) l k j hlt, HY.o] at hE;have hE' : ∃ vkids, cs = [.int .i64 (y), .string (Zb2 (y + 1)), .int .i64 (y + 2), .int .i64 (y + 3), .int .i64 (y + 4), vkids] ∧ Zo K 6 F w (Zco mK cK l[j].kids (y + 5)) vkids := by
    obtain ⟨vkids, e, hop, bK, bI, bL, bM, hkids⟩ := hE;exact ⟨_, e, hkids⟩
   obtain ⟨vkids, rfl, hkids⟩ := hE';clear hE;have Rkids := zh hkids;clear hkids;have HC := zh hcell;clear hcell;have HCE := zh (show (Zby cK) l[j] = 5 + (Zi cK l[j].kids) from rfl);have c0 : wr.cell? ⟨b, o + j * 6, none⟩ = some (.int .i64 (y)) := by have hh := (HBL.o.cell (p := ⟨b, o + j * 6 + 0, none⟩) hbl).trans (HC.o 0 _ rfl); exact hh
   have n0_1 : y + 1 + 1 = y + 2 := by omega
   go_upto_region 7 with (fail);clear c0 n0_1;refine Zax [] [] (by kernel_rfl) (fun W1 hW1 => ?_);have hW1L : Za wr W1 := by rw [hW1]; exact (Za.refl _).drew
   replace HBL := zh (HBL.o.trans (Below.mono hW1L HBL.o.size));clear hW1 hW1L;have cW : W1.cell? ⟨b, o + j * 6 + 1, none⟩ = some (.string (Zb2 (y + 1))) := by have hh := (HBL.o.cell (p := ⟨b, o + j * 6 + 1, none⟩) hbl).trans (HC.o 1 _ rfl); exact hh
   have hbW : b < W1.heap.size := Nat.lt_of_lt_of_le hbl HBL.o.size;have ysame : ((Zb2 (y + 1)).toList == (Zb2 (y + 1)).toList) = true := by simp
   refine tU 0 21 (v := ?_) rfl rfl (fun x hx => ?_) ?_;rotate_left
   ·go_simp;first|done|with_reducible rfl
   simp only [Act.put, nA, nB, nC];refine tU 1 22 (v := ?_) rfl rfl (fun x hx => ?_) ?_;rotate_left
   ·go_simp;first|done|with_reducible rfl
   simp only [Act.put, nA, nB, nC];refine tU 2 23 (v := ?_) rfl rfl (fun x hx => ?_) ?_;rotate_left
   ·go_simp;first|done|with_reducible rfl|rw[if_neg (by omega)]|rw[if_pos (by omega)]
   simp only [Act.put, nA, nB, nC];refine tU 3 24 (v := ?_) rfl rfl (fun x hx => ?_) ?_;rotate_left
   ·go_simp;first|done|with_reducible rfl
   simp only [Act.put, nA, nB, nC];refine tU 4 25 (v := ?_) rfl rfl (fun x hx => ?_) ?_;rotate_left
   ·have x0 := (hx.cell ⟨b, o + j * 6 + 1, none⟩ hbW).trans cW; go_simp;first|done|with_reducible rfl
   simp only [Act.put, nA, nB, nC];refine tU 5 26 (v := ?_) rfl rfl (fun x hx => ?_) ?_;rotate_left
   ·go_simp;first|done|with_reducible rfl
   simp only [Act.put, nA, nB, nC];refine Ze3 6 (by kernel_rfl) rfl rfl ?_;go_wp2_with fail;refine (Zc6 (y + 1) W1 (by omega) (by have := HCE.o; have := HCT.o; have := HCL.o; have := HK1.o; have := HY.o; omega)).mono ?_;rintro e w1 ⟨rfl, hb1⟩;go_wp2_with fail;refine ⟨hb1, ?_⟩;refine tU 7 28 (v := ?_) rfl rfl (fun x hx => ?_) ?_;rotate_left
   ·go_simp;first|done|with_reducible rfl
   simp only [Act.put, nA, nB, nC];refine Za7 [] (by kernel_rfl) rfl rfl ?_;replace HBL := zh (HBL.o.trans (Below.mono hb1 HBL.o.size));clear hb1 cW hbW ysame;have c2 : w1.cell? ⟨b, o + j * 6 + 2, none⟩ = some (.int .i64 (y + 2)) := by have hh := (HBL.o.cell (p := ⟨b, o + j * 6 + 2, none⟩) hbl).trans (HC.o 2 _ rfl); exact hh
   have c3 : w1.cell? ⟨b, o + j * 6 + 3, none⟩ = some (.int .i64 (y + 3)) := by have hh := (HBL.o.cell (p := ⟨b, o + j * 6 + 3, none⟩) hbl).trans (HC.o 3 _ rfl); exact hh
   have c4 : w1.cell? ⟨b, o + j * 6 + 4, none⟩ = some (.int .i64 (y + 4)) := by have hh := (HBL.o.cell (p := ⟨b, o + j * 6 + 4, none⟩) hbl).trans (HC.o 4 _ rfl); exact hh
   have c5 : w1.cell? ⟨b, o + j * 6 + 5, none⟩ = some (vkids) := by have hh := (HBL.o.cell (p := ⟨b, o + j * 6 + 5, none⟩) hbl).trans (HC.o 5 _ rfl); exact hh
   have n1_1 : y + 1 + 1 = y + 2 := by omega
   have n1_2 : y + 2 + 1 = y + 3 := by omega
   have n1_3 : y + 3 + 1 = y + 4 := by omega
   have n1_4 : y + 4 + 1 = y + 5 := by omega
   have n1_5 : y + 5 + 1 = y + 6 := by omega
   go_wp2_with fail;clear c2 c3 c4 c5 n1_1 n1_2 n1_3 n1_4 n1_5;have HR2 : Hd (Zo K 6 F w (Zco mK cK l[j].kids (y + 5)) vkids) := zh (by exact Rkids.o);refine (hkid l[j].kids vkids F _ (y + 5) (by omega) (by have := HCE.o; have := HCT.o; have := HCL.o; have := HK1.o; have := HY.o; omega) (HR2.o.keep hK (fun _ h => h) (Ze.later HBL.o))).mono ?_;rintro e w2 ⟨rfl, hb2⟩;replace HBL := zh (HBL.o.trans (Below.mono hb2 HBL.o.size));clear hb2 HR2;obtain ⟨y2, hy2⟩ : ∃ z : Int, y + 5 + (Zi cK l[j].kids : Nat) = z := ⟨_, rfl⟩;rw [hy2];have HY2 := zh hy2;have hl2 : 1 ≤ y2 := by omega
   have hu2 : y2 ≤ 1099511627776 := by have := HCE.o; have := HCT.o; have := HCL.o; have := HK1.o; have := HY.o; omega
   have ht2 : decide (y2 < 0) = false := by simp; omega
   clear hy2;go_wp2_with fail
   go_roundw
   case rel => exact ⟨j + 1, by omega, by go_num, by have := HCE.o; have := HCT.o; have := HCL.o; have := HK1.o; have := HY.o; have := HY2.o; congr 1; omega, HBL.o⟩
   case measure => simp [intOf]; omega
  ·have hjl : j = l.length := by omega
   go_wp2_with fail;go_ret;subst hjl;refine ⟨Zak ?_, HBL.o⟩;have := HY.o;rw [List.take_length] at this;exact this.symm
theorem Zck : ∀ n, Zkq (Zoq n) (mkN n) (Zb6 n)
 | 0 => by
  intro l v F w k hk hk1 hr;obtain ⟨A, cp, rfl, hc, hcm, hel⟩ := hr;unfold maxLen at hcm;have h0 : l.length = 0 := by
   rcases Nat.eq_zero_or_pos l.length with h | h
   ·exact h
   ·obtain ⟨b, o, cs, e, hF, hbl, hE, hcell⟩ := hel 0 (by rw [Zc3]; exact h);exact hE.elim
  obtain rfl : l = [] := List.eq_nil_of_length_eq_zero h0;clear hel h0;go_enter Tryz.func30, Tryz.ntmps30;go_wp2_with fail;refine wp_loop_rounds 1 ?_;rw [rounds_succ];go_wp2_with fail;go_ret;exact ⟨by simp [Zi], Below.refl _ _⟩
 | n + 1 => Zi3 (Zcz n) (Zck n)
theorem Zgi (hK : Zcx K 6) (hkid : Zkq K mK cK) (r : Zaj) (cs : List Value) (F : Nat → Prop) (w : World) (k : Int) (hk : 1 ≤ k) (hk1 : k + ((Za6 cK) r : Nat) ≤ 1099511627776) (h : (Zdk K) F w ((Zq6 mK cK) r k) cs) :
  Calls Tryz.prog 29 #[.agg cs.toArray, .int .i64 k] w fun e w' => e = .returned (.int .i64 (k + ((Za6 cK) r : Nat))) ∧ Below w.heap.size w w' := by
 have h' : ∃ vkids, cs = [.int .i64 r.op, .string r.text, .int .i64 r.aH, .int .i64 r.set_.low, .int .i64 r.set_.high, vkids] ∧ Zo K 6 F w (Zco mK cK r.kids (k)) vkids := by
  obtain ⟨vkids, e, hop, bK, bI, bL, bM, hkids⟩ := h;exact ⟨_, e, hkids⟩
 obtain ⟨vkids, rfl, hkids⟩ := h';clear h;have HCE := zh (show (Za6 cK) r = Zi cK r.kids from rfl);have HK1 := zh hk1;clear hk1;have HP := zh (heap_alloc_new w (.cells #[.int .i64 r.op, .string r.text, .int .i64 r.aH, .int .i64 r.set_.low, .int .i64 r.set_.high, vkids] 55));have HB := zh ((Below.refl w.heap.size w).alloc (Nat.le_refl _) (.cells #[.int .i64 r.op, .string r.text, .int .i64 r.aH, .int .i64 r.set_.low, .int .i64 r.set_.high, vkids] 55));have Rkids := zh hkids;clear hkids;go_enter Tryz.func29, Tryz.ntmps29;go_wp2_with fail;refine (hkid r.kids vkids F _ k (by omega) (by have := HCE.o; have := HK1.o; omega) (Rkids.o.later hK HB.o)).mono ?_;rintro e w0 ⟨rfl, hb0⟩;replace HP := zC hb0 HP;replace HB := zh (HB.o.trans (Below.mono hb0 HB.o.size));clear hb0;obtain ⟨y0, hy0⟩ : ∃ z : Int, k + (Zi cK r.kids : Nat) = z := ⟨_, rfl⟩;rw [hy0];have HY0 := zh hy0;have hl0 : 1 ≤ y0 := by omega
 have hu0 : y0 ≤ 1099511627776 := by have := HCE.o; have := HK1.o; omega
 have ht0 : decide (y0 < 0) = false := by simp; omega
 clear hy0;go_wp2_with fail;go_ret;exact ⟨Zak (by have := HCE.o; have := HK1.o; have := HY0.o; omega), HB.o⟩
end
end Go.Proofs.YtpmhelkiicigfaaGreatDoor
namespace Go.Proofs.YtpmhelkiicigfaaGreatDoor
open Go.RowKit
theorem Zdw (l : List ByteArray) (v v' : Value) (F G : Nat → Prop) (w : World) (hr : Zo Zbz 1 F w l v) (gr : Zo Zbz 1 G w l v') :
  Calls Tryz.prog 68 #[v, v'] w fun e w' => e = .returned (.bool true) ∧ Below w.heap.size w w' := by
 obtain ⟨A, c, rfl, hc, hcm, hel⟩ := hr;obtain ⟨A', c', rfl, hc', hcm', gel⟩ := gr;unfold maxLen at hcm hcm';have HEL := zh hel;have GEL := zh gel;clear hel gel;go_enter Tryz.func68, Tryz.ntmps68;go_wp2_with fail
 go_loopw [5] (fun i wr => ∃ j : Nat, j ≤ l.length ∧ i = .int .i64 j ∧ Below w.heap.size w wr) (fun i _ => l.length - (intOf i).toNat)
 case atStart => exact ⟨0, Nat.zero_le _, rfl, Below.refl _ _⟩
 case round =>
  obtain ⟨j, hj, rfl, hbel⟩ := hrel;have hsz := hbel.size
  by_cases hlt : j < l.length
  ·obtain ⟨b, o, cs, rfl, hF, hbl, hE, hcell⟩ := HEL.o j hlt;obtain ⟨b2, o2, cs2, rfl, hF2, hbl2, hG, hcell2⟩ := GEL.o j hlt
   skip
   skip
   obtain ⟨rfl, hsm⟩ := hE;obtain ⟨rfl, _⟩ := hG;have hlt' : (j : Int) < l.length := by omega
   have e0 := (hbel.cell (p := ⟨b, o + j * 1 + 0, none⟩) hbl).trans (hcell 0 _ rfl);have g0 := (hbel.cell (p := ⟨b2, o2 + j * 1 + 0, none⟩) hbl2).trans (hcell2 0 _ rfl);simp only [Nat.mul_one, Nat.add_zero] at e0 g0;have ysame : (l[j].toList == l[j].toList) = true := by simp
   obtain ⟨s, hs⟩ : ∃ s, l[j] = s := ⟨_, rfl⟩;rw [hs] at e0 g0 ysame;have hbr : b < wr.heap.size := Nat.lt_of_lt_of_le hbl hsz;have hb2r : b2 < wr.heap.size := Nat.lt_of_lt_of_le hbl2 hsz;clear hcell hcell2 hsm hs;go_upto_region 6 with (fail);refine Z4 (fun W hW => ?_);have hWL : Za wr W := by rw [hW]; exact (Za.refl _).drew
   have eW0 := (hWL.cell ⟨b, o + j, none⟩ hbr).trans e0;have gW0 := (hWL.cell ⟨b2, o2 + j, none⟩ hb2r).trans g0;have hbW : b < W.heap.size := Nat.lt_of_lt_of_le hbr hWL.size;have hb2W : b2 < W.heap.size := Nat.lt_of_lt_of_le hb2r hWL.size;clear hW
   repeat go_big_quiet_step (fail)
   refine wpQuiet_nil ?_;clear e0 g0;have hb5 := hbel.trans (Below.mono hWL hbel.size);clear hWL eW0 gW0;go_wp2_with fail
   go_roundw
   case rel => exact ⟨j + 1, by omega, by go_num, hb5⟩
   case measure => simp [intOf]; omega
  ·have hjl : j = l.length := by omega
   go_wp2_with fail;go_ret;exact ⟨rfl, hbel⟩
theorem Zj8 (r : Zjx) (cs cs' : List Value) (F G : Nat → Prop) (w : World) (h : Ze2 F w r cs) (g : Ze2 G w r cs') :
  Calls Tryz.prog 67 #[.agg cs.toArray, .agg cs'.toArray] w fun e w' => e = .returned (.bool true) ∧ Below w.heap.size w w' := by
 obtain ⟨rfl, hlow, hhigh⟩ := h;obtain ⟨rfl, _, _⟩ := g;clear hlow hhigh;go_enter Tryz.func67, Tryz.ntmps67;go_wp2_with fail;go_ret;exact ⟨rfl, ((Below.refl _ _).alloc (Nat.le_refl _) _).alloc (by simp) _⟩
theorem Zi4 (r : Za3) (cs cs' : List Value) (F G : Nat → Prop) (w : World) (h : Za1 F w r cs) (g : Za1 G w r cs') :
  Calls Tryz.prog 120 #[.agg cs.toArray, .agg cs'.toArray] w fun e w' => e = .returned (.bool true) ∧ Below w.heap.size w w' := by
 obtain ⟨aU, rfl, bR, bS, bT⟩ := h;obtain ⟨vfields', rfl, _, cI, _⟩ := g;have yname : (r.name.toList == r.name.toList) = true := by simp
 clear bR;have Hfields := zh bS;have Gfields := zh cI;clear bS cI;clear bT;have HP := zh ((Za.refl _).alloc (.cells #[.string r.name, vfields', .int .i64 r.line] 136) |>.block _ (by simp) |>.trans (heap_alloc_new w (.cells #[.string r.name, aU, .int .i64 r.line] 136)));have HZ := zh (heap_alloc_new (w.alloc (.cells #[.string r.name, aU, .int .i64 r.line] 136)) (.cells #[.string r.name, vfields', .int .i64 r.line] 136));simp only [Zbl] at HZ;have HB := zh (((Below.refl w.heap.size w).alloc (Nat.le_refl _) (.cells #[.string r.name, aU, .int .i64 r.line] 136)).alloc (by simp) (.cells #[.string r.name, vfields', .int .i64 r.line] 136));go_enter Tryz.func120, Tryz.ntmps120;go_wp2_with fail;refine (Zdw r.fields aU vfields' F G _ (Hfields.o.later Zad HB.o) (Gfields.o.later Zad HB.o)).mono ?_;rintro e w1 ⟨rfl, hb1⟩;replace HP := zC hb1 HP;replace HZ := zC hb1 HZ;replace HB := zh (HB.o.trans (Below.mono hb1 HB.o.size));clear hb1;have p0 := cz3 HP.o;have z0 := cz3 HZ.o;go_wp2_with fail;go_ret;exact ⟨rfl, HB.o⟩
theorem Zh9 (l : List Za3) (v v' : Value) (F G : Nat → Prop) (w : World) (hr : Zo Za1 3 F w l v) (gr : Zo Za1 3 G w l v') :
  Calls Tryz.prog 69 #[v, v'] w fun e w' => e = .returned (.bool true) ∧ Below w.heap.size w w' := by
 obtain ⟨A, c, rfl, hc, hcm, hel⟩ := hr;obtain ⟨A', c', rfl, hc', hcm', gel⟩ := gr;unfold maxLen at hcm hcm';have HEL := zh hel;have GEL := zh gel;clear hel gel;go_enter Tryz.func69, Tryz.ntmps69;go_wp2_with fail
 go_loopw [5] (fun i wr => ∃ j : Nat, j ≤ l.length ∧ i = .int .i64 j ∧ Below w.heap.size w wr) (fun i _ => l.length - (intOf i).toNat)
 case atStart => exact ⟨0, Nat.zero_le _, rfl, Below.refl _ _⟩
 case round =>
  obtain ⟨j, hj, rfl, hbel⟩ := hrel;have hsz := hbel.size
  by_cases hlt : j < l.length
  ·obtain ⟨b, o, cs, rfl, hF, hbl, hE, hcell⟩ := HEL.o j hlt;obtain ⟨b2, o2, cs2, rfl, hF2, hbl2, hG, hcell2⟩ := GEL.o j hlt;have hE' := hE;have hG' := hG;obtain ⟨aU, rfl, hfacts⟩ := hE;obtain ⟨vfields', rfl, hfacts2⟩ := hG;have hlt' : (j : Int) < l.length := by omega
   have e0 := (hbel.cell (p := ⟨b, o + j * 3 + 0, none⟩) hbl).trans (hcell 0 _ rfl);have e1 := (hbel.cell (p := ⟨b, o + j * 3 + 1, none⟩) hbl).trans (hcell 1 _ rfl);have e2 := (hbel.cell (p := ⟨b, o + j * 3 + 2, none⟩) hbl).trans (hcell 2 _ rfl);have g0 := (hbel.cell (p := ⟨b2, o2 + j * 3 + 0, none⟩) hbl2).trans (hcell2 0 _ rfl);have g1 := (hbel.cell (p := ⟨b2, o2 + j * 3 + 1, none⟩) hbl2).trans (hcell2 1 _ rfl);have g2 := (hbel.cell (p := ⟨b2, o2 + j * 3 + 2, none⟩) hbl2).trans (hcell2 2 _ rfl);simp only [Nat.mul_one, Nat.add_zero] at e0 g0;have HE2 := zh (Zah.keep (G := F) hE' (fun _ h => h) (Ze.later hbel));have HG2 := zh (Zah.keep (G := G) hG' (fun _ h => h) (Ze.later hbel));have hbr : b < wr.heap.size := Nat.lt_of_lt_of_le hbl hsz;have hb2r : b2 < wr.heap.size := Nat.lt_of_lt_of_le hbl2 hsz;clear hE' hG' hcell hcell2 hfacts hfacts2;go_upto_region 6 with (fail);refine Zax [8, 9] [] (by kernel_rfl) (fun W hW => ?_);have hWL : Za wr W := by rw [hW]; exact (Za.refl _).drew
   have eW0 := (hWL.cell ⟨b, o + j * 3, none⟩ hbr).trans e0;have eW1 := (hWL.cell ⟨b, o + j * 3 + 1, none⟩ hbr).trans e1;have eW2 := (hWL.cell ⟨b, o + j * 3 + 2, none⟩ hbr).trans e2;have gW0 := (hWL.cell ⟨b2, o2 + j * 3, none⟩ hb2r).trans g0;have gW1 := (hWL.cell ⟨b2, o2 + j * 3 + 1, none⟩ hb2r).trans g1;have gW2 := (hWL.cell ⟨b2, o2 + j * 3 + 2, none⟩ hb2r).trans g2;have hbW : b < W.heap.size := Nat.lt_of_lt_of_le hbr hWL.size;have hb2W : b2 < W.heap.size := Nat.lt_of_lt_of_le hb2r hWL.size;clear hW;refine tU 0 17 (v := ?_) rfl rfl (fun x hx => ?_) ?_;rotate_left
   ·go_simp;first|done|with_reducible rfl
   simp only [Act.put, nA, nB, nC];refine tU 1 18 (v := ?_) rfl rfl (fun x hx => ?_) ?_;rotate_left
   ·go_simp;first|done|with_reducible rfl
   simp only [Act.put, nA, nB, nC];refine tU 2 19 (v := ?_) rfl rfl (fun x hx => ?_) ?_;rotate_left
   ·go_simp;first|done|with_reducible rfl|rw[if_neg (by omega)]|rw[if_pos (by omega)]
   simp only [Act.put, nA, nB, nC];refine tU 3 20 (v := ?_) rfl rfl (fun x hx => ?_) ?_;rotate_left
   ·have x0 := (hx.cell ⟨b, o + j * 3, none⟩ hbW).trans eW0; have x1 := (hx.cell ⟨b, o + j * 3 + 1, none⟩ hbW).trans eW1; have x2 := (hx.cell ⟨b, o + j * 3 + 2, none⟩ hbW).trans eW2; have y0 := (hx.cell ⟨b2, o2 + j * 3, none⟩ hb2W).trans gW0; have y1 := (hx.cell ⟨b2, o2 + j * 3 + 1, none⟩ hb2W).trans gW1; have y2 := (hx.cell ⟨b2, o2 + j * 3 + 2, none⟩ hb2W).trans gW2; go_simp;first|done|with_reducible rfl
   simp only [Act.put, nA, nB, nC];refine tU 4 21 (v := ?_) rfl rfl (fun x hx => ?_) ?_;rotate_left
   ·go_simp;first|done|with_reducible rfl
   simp only [Act.put, nA, nB, nC];refine tU 5 22 (v := ?_) rfl rfl (fun x hx => ?_) ?_;rotate_left
   ·go_simp;first|done|with_reducible rfl
   simp only [Act.put, nA, nB, nC];refine tU 6 23 (v := ?_) rfl rfl (fun x hx => ?_) ?_;rotate_left
   ·go_simp;first|done|with_reducible rfl|rw[if_neg (by omega)]|rw[if_pos (by omega)]
   simp only [Act.put, nA, nB, nC];refine tU 7 24 (v := ?_) rfl rfl (fun x hx => ?_) ?_;rotate_left
   ·have x0 := (hx.cell ⟨b, o + j * 3, none⟩ hbW).trans eW0; have x1 := (hx.cell ⟨b, o + j * 3 + 1, none⟩ hbW).trans eW1; have x2 := (hx.cell ⟨b, o + j * 3 + 2, none⟩ hbW).trans eW2; have y0 := (hx.cell ⟨b2, o2 + j * 3, none⟩ hb2W).trans gW0; have y1 := (hx.cell ⟨b2, o2 + j * 3 + 1, none⟩ hb2W).trans gW1; have y2 := (hx.cell ⟨b2, o2 + j * 3 + 2, none⟩ hb2W).trans gW2; go_simp;first|done|with_reducible rfl
   simp only [Act.put, nA, nB, nC];refine Za7 [_, _] (by kernel_rfl) rfl rfl ?_;simp only [List.getElem_toArray, List.getElem_cons_succ, List.getElem_cons_zero];clear e0 g0 e1 g1 e2 g2;have HB2 := zh (hbel.trans (Below.mono hWL hbel.size));have HE3 := zh (Zah.keep (G := F) HE2.o (fun _ h => h) (Ze.later hWL));have HG3 := zh (Zah.keep (G := G) HG2.o (fun _ h => h) (Ze.later hWL));clear hWL eW0 gW0 eW1 gW1 eW2 gW2;go_wp2_with fail;refine (Zi4 l[j] _ _ F G W HE3.o HG3.o).mono ?_;rintro e w4 ⟨rfl, hb4⟩;have hb5 := HB2.o.trans (Below.mono hb4 HB2.o.size);clear hb4;go_wp2_with fail
   go_roundw
   case rel => exact ⟨j + 1, by omega, by go_num, hb5⟩
   case measure => simp [intOf]; omega
  ·have hjl : j = l.length := by omega
   go_wp2_with fail;go_ret;exact ⟨rfl, hbel⟩
theorem Zm9 (r : Zd) (cs cs' : List Value) (F G : Nat → Prop) (w : World) (h : Zg F w r cs) (g : Zg G w r cs') :
  Calls Tryz.prog 34 #[.agg cs.toArray, .agg cs'.toArray] w fun e w' => e = .returned (.bool true) ∧ Below w.heap.size w w' := by
 obtain ⟨rfl, bH, bI, bJ, bK, bL, bM⟩ := h;obtain ⟨rfl, _, _, _, _, cC, cD⟩ := g;have ytext : (r.text.toList == r.text.toList) = true := by simp
 have Hset_ := zh (show Ze2 F w r.set_ [.int .i64 r.set_.low, .int .i64 r.set_.high] from ⟨rfl, bL, bM⟩);have Gset_ := zh (show Ze2 G w r.set_ [.int .i64 r.set_.low, .int .i64 r.set_.high] from ⟨rfl, cC, cD⟩);clear bH;clear bI;clear bJ;clear bK;clear bL cC;clear bM cD;have HP := zh ((Za.refl _).alloc (.cells #[.int .i64 r.kind, .int .i64 r.aH, .int .i64 r.index, .string r.text, .int .i64 r.set_.low, .int .i64 r.set_.high] 34) |>.block _ (by simp) |>.trans (heap_alloc_new w (.cells #[.int .i64 r.kind, .int .i64 r.aH, .int .i64 r.index, .string r.text, .int .i64 r.set_.low, .int .i64 r.set_.high] 34)));have HZ := zh (heap_alloc_new (w.alloc (.cells #[.int .i64 r.kind, .int .i64 r.aH, .int .i64 r.index, .string r.text, .int .i64 r.set_.low, .int .i64 r.set_.high] 34)) (.cells #[.int .i64 r.kind, .int .i64 r.aH, .int .i64 r.index, .string r.text, .int .i64 r.set_.low, .int .i64 r.set_.high] 34));simp only [Zbl] at HZ;have HB := zh (((Below.refl w.heap.size w).alloc (Nat.le_refl _) (.cells #[.int .i64 r.kind, .int .i64 r.aH, .int .i64 r.index, .string r.text, .int .i64 r.set_.low, .int .i64 r.set_.high] 34)).alloc (by simp) (.cells #[.int .i64 r.kind, .int .i64 r.aH, .int .i64 r.index, .string r.text, .int .i64 r.set_.low, .int .i64 r.set_.high] 34));go_enter Tryz.func34, Tryz.ntmps34;go_wp2_with fail;refine (Zj8 r.set_ _ _ F G _ (Zd2.keep Hset_.o (fun _ h => h) (Ze.later HB.o)) (Zd2.keep Gset_.o (fun _ h => h) (Ze.later HB.o))).mono ?_
 rintro e w4 ⟨rfl, hb4⟩;replace HP := zC hb4 HP;replace HZ := zC hb4 HZ;replace HB := zh (HB.o.trans (Below.mono hb4 HB.o.size));clear hb4;have p0 := cz6 HP.o;have z0 := cz6 HZ.o;go_wp2_with fail;go_ret;exact ⟨rfl, HB.o⟩
theorem Zct (l : List Zd) (v v' : Value) (F G : Nat → Prop) (w : World) (hr : Zo Zg 6 F w l v) (gr : Zo Zg 6 G w l v') :
  Calls Tryz.prog 23 #[v, v'] w fun e w' => e = .returned (.bool true) ∧ Below w.heap.size w w' := by
 obtain ⟨A, c, rfl, hc, hcm, hel⟩ := hr;obtain ⟨A', c', rfl, hc', hcm', gel⟩ := gr;unfold maxLen at hcm hcm';have HEL := zh hel;have GEL := zh gel;clear hel gel;go_enter Tryz.func23, Tryz.ntmps23;go_wp2_with fail
 go_loopw [5] (fun i wr => ∃ j : Nat, j ≤ l.length ∧ i = .int .i64 j ∧ Below w.heap.size w wr) (fun i _ => l.length - (intOf i).toNat)
 case atStart => exact ⟨0, Nat.zero_le _, rfl, Below.refl _ _⟩
 case round =>
  obtain ⟨j, hj, rfl, hbel⟩ := hrel;have hsz := hbel.size
  by_cases hlt : j < l.length
  ·obtain ⟨b, o, cs, rfl, hF, hbl, hE, hcell⟩ := HEL.o j hlt;obtain ⟨b2, o2, cs2, rfl, hF2, hbl2, hG, hcell2⟩ := GEL.o j hlt;have hE' := hE;have hG' := hG;obtain ⟨rfl, hfacts⟩ := hE;obtain ⟨rfl, hfacts2⟩ := hG;have hlt' : (j : Int) < l.length := by omega
   have e0 := (hbel.cell (p := ⟨b, o + j * 6 + 0, none⟩) hbl).trans (hcell 0 _ rfl);have e1 := (hbel.cell (p := ⟨b, o + j * 6 + 1, none⟩) hbl).trans (hcell 1 _ rfl);have e2 := (hbel.cell (p := ⟨b, o + j * 6 + 2, none⟩) hbl).trans (hcell 2 _ rfl);have e3 := (hbel.cell (p := ⟨b, o + j * 6 + 3, none⟩) hbl).trans (hcell 3 _ rfl);have e4 := (hbel.cell (p := ⟨b, o + j * 6 + 4, none⟩) hbl).trans (hcell 4 _ rfl);have e5 := (hbel.cell (p := ⟨b, o + j * 6 + 5, none⟩) hbl).trans (hcell 5 _ rfl);have g0 := (hbel.cell (p := ⟨b2, o2 + j * 6 + 0, none⟩) hbl2).trans (hcell2 0 _ rfl);have g1 := (hbel.cell (p := ⟨b2, o2 + j * 6 + 1, none⟩) hbl2).trans (hcell2 1 _ rfl);have g2 := (hbel.cell (p := ⟨b2, o2 + j * 6 + 2, none⟩) hbl2).trans (hcell2 2 _ rfl);have g3 := (hbel.cell (p := ⟨b2, o2 + j * 6 + 3, none⟩) hbl2).trans (hcell2 3 _ rfl);have g4 := (hbel.cell (p := ⟨b2, o2 + j * 6 + 4, none⟩) hbl2).trans (hcell2 4 _ rfl);have g5 := (hbel.cell (p := ⟨b2, o2 + j * 6 + 5, none⟩) hbl2).trans (hcell2 5 _ rfl);simp only [Nat.mul_one, Nat.add_zero] at e0 g0;have HE2 := zh (Zc.keep (G := F) hE' (fun _ h => h) (Ze.later hbel));have HG2 := zh (Zc.keep (G := G) hG' (fun _ h => h) (Ze.later hbel));have hbr : b < wr.heap.size := Nat.lt_of_lt_of_le hbl hsz;have hb2r : b2 < wr.heap.size := Nat.lt_of_lt_of_le hbl2 hsz;clear hE' hG' hcell hcell2 hfacts hfacts2;go_upto_region 6 with (fail);refine Zax [8, 9] [] (by kernel_rfl) (fun W hW => ?_);have hWL : Za wr W := by rw [hW]; exact (Za.refl _).drew
   have eW0 := (hWL.cell ⟨b, o + j * 6, none⟩ hbr).trans e0;have eW1 := (hWL.cell ⟨b, o + j * 6 + 1, none⟩ hbr).trans e1;have eW2 := (hWL.cell ⟨b, o + j * 6 + 2, none⟩ hbr).trans e2;have eW3 := (hWL.cell ⟨b, o + j * 6 + 3, none⟩ hbr).trans e3;have eW4 := (hWL.cell ⟨b, o + j * 6 + 4, none⟩ hbr).trans e4;have eW5 := (hWL.cell ⟨b, o + j * 6 + 5, none⟩ hbr).trans e5;have gW0 := (hWL.cell ⟨b2, o2 + j * 6, none⟩ hb2r).trans g0;have gW1 := (hWL.cell ⟨b2, o2 + j * 6 + 1, none⟩ hb2r).trans g1;have gW2 := (hWL.cell ⟨b2, o2 + j * 6 + 2, none⟩ hb2r).trans g2;have gW3 := (hWL.cell ⟨b2, o2 + j * 6 + 3, none⟩ hb2r).trans g3;have gW4 := (hWL.cell ⟨b2, o2 + j * 6 + 4, none⟩ hb2r).trans g4;have gW5 := (hWL.cell ⟨b2, o2 + j * 6 + 5, none⟩ hb2r).trans g5;have hbW : b < W.heap.size := Nat.lt_of_lt_of_le hbr hWL.size;have hb2W : b2 < W.heap.size := Nat.lt_of_lt_of_le hb2r hWL.size;clear hW;refine tU 0 17 (v := ?_) rfl rfl (fun x hx => ?_) ?_;rotate_left
   ·go_simp;first|done|with_reducible rfl
   simp only [Act.put, nA, nB, nC];refine tU 1 18 (v := ?_) rfl rfl (fun x hx => ?_) ?_;rotate_left
   ·go_simp;first|done|with_reducible rfl
   simp only [Act.put, nA, nB, nC];refine tU 2 19 (v := ?_) rfl rfl (fun x hx => ?_) ?_;rotate_left
   ·go_simp;first|done|with_reducible rfl|rw[if_neg (by omega)]|rw[if_pos (by omega)]
   simp only [Act.put, nA, nB, nC];refine tU 3 20 (v := ?_) rfl rfl (fun x hx => ?_) ?_;rotate_left
   ·have x0 := (hx.cell ⟨b, o + j * 6, none⟩ hbW).trans eW0; have x1 := (hx.cell ⟨b, o + j * 6 + 1, none⟩ hbW).trans eW1; have x2 := (hx.cell ⟨b, o + j * 6 + 2, none⟩ hbW).trans eW2; have x3 := (hx.cell ⟨b, o + j * 6 + 3, none⟩ hbW).trans eW3; have x4 := (hx.cell ⟨b, o + j * 6 + 4, none⟩ hbW).trans eW4; have x5 := (hx.cell ⟨b, o + j * 6 + 5, none⟩ hbW).trans eW5; have y0 := (hx.cell ⟨b2, o2 + j * 6, none⟩ hb2W).trans gW0; have y1 := (hx.cell ⟨b2, o2 + j * 6 + 1, none⟩ hb2W).trans gW1; have y2 := (hx.cell ⟨b2, o2 + j * 6 + 2, none⟩ hb2W).trans gW2; have y3 := (hx.cell ⟨b2, o2 + j * 6 + 3, none⟩ hb2W).trans gW3; have y4 := (hx.cell ⟨b2, o2 + j * 6 + 4, none⟩ hb2W).trans gW4; have y5 := (hx.cell ⟨b2, o2 + j * 6 + 5, none⟩ hb2W).trans gW5; go_simp;first|done|with_reducible rfl
   simp only [Act.put, nA, nB, nC];refine tU 4 21 (v := ?_) rfl rfl (fun x hx => ?_) ?_;rotate_left
   ·go_simp;first|done|with_reducible rfl
   simp only [Act.put, nA, nB, nC];refine tU 5 22 (v := ?_) rfl rfl (fun x hx => ?_) ?_;rotate_left
   ·go_simp;first|done|with_reducible rfl
   simp only [Act.put, nA, nB, nC];refine tU 6 23 (v := ?_) rfl rfl (fun x hx => ?_) ?_;rotate_left
   ·go_simp;first|done|with_reducible rfl|rw[if_neg (by omega)]|rw[if_pos (by omega)]
   simp only [Act.put, nA, nB, nC];refine tU 7 24 (v := ?_) rfl rfl (fun x hx => ?_) ?_;rotate_left
   ·have x0 := (hx.cell ⟨b, o + j * 6, none⟩ hbW).trans eW0; have x1 := (hx.cell ⟨b, o + j * 6 + 1, none⟩ hbW).trans eW1; have x2 := (hx.cell ⟨b, o + j * 6 + 2, none⟩ hbW).trans eW2; have x3 := (hx.cell ⟨b, o + j * 6 + 3, none⟩ hbW).trans eW3; have x4 := (hx.cell ⟨b, o + j * 6 + 4, none⟩ hbW).trans eW4; have x5 := (hx.cell ⟨b, o + j * 6 + 5, none⟩ hbW).trans eW5; have y0 := (hx.cell ⟨b2, o2 + j * 6, none⟩ hb2W).trans gW0; have y1 := (hx.cell ⟨b2, o2 + j * 6 + 1, none⟩ hb2W).trans gW1; have y2 := (hx.cell ⟨b2, o2 + j * 6 + 2, none⟩ hb2W).trans gW2; have y3 := (hx.cell ⟨b2, o2 + j * 6 + 3, none⟩ hb2W).trans gW3; have y4 := (hx.cell ⟨b2, o2 + j * 6 + 4, none⟩ hb2W).trans gW4; have y5 := (hx.cell ⟨b2, o2 + j * 6 + 5, none⟩ hb2W).trans gW5; go_simp;first|done|with_reducible rfl
   simp only [Act.put, nA, nB, nC];refine Za7 [_, _] (by kernel_rfl) rfl rfl ?_;simp only [List.getElem_toArray, List.getElem_cons_succ, List.getElem_cons_zero];clear e0 g0 e1 g1 e2 g2 e3 g3 e4 g4 e5 g5;have HB2 := zh (hbel.trans (Below.mono hWL hbel.size));have HE3 := zh (Zc.keep (G := F) HE2.o (fun _ h => h) (Ze.later hWL));have HG3 := zh (Zc.keep (G := G) HG2.o (fun _ h => h) (Ze.later hWL));clear hWL eW0 gW0 eW1 gW1 eW2 gW2 eW3 gW3 eW4 gW4 eW5 gW5;go_wp2_with fail;refine (Zm9 l[j] _ _ F G W HE3.o HG3.o).mono ?_;rintro e w4 ⟨rfl, hb4⟩;have hb5 := HB2.o.trans (Below.mono hb4 HB2.o.size);clear hb4;go_wp2_with fail
   go_roundw
   case rel => exact ⟨j + 1, by omega, by go_num, hb5⟩
   case measure => simp [intOf]; omega
  ·have hjl : j = l.length := by omega
   go_wp2_with fail;go_ret;exact ⟨rfl, hbel⟩
theorem Zly (r : Zam) (cs cs' : List Value) (F G : Nat → Prop) (w : World) (h : Zbk F w r cs) (g : Zbk G w r cs') :
  Calls Tryz.prog 121 #[.agg cs.toArray, .agg cs'.toArray] w fun e w' => e = .returned (.bool true) ∧ Below w.heap.size w w' := by
 obtain ⟨aS, aT, rfl, bH, bN, bO, bP, bQ⟩ := h;obtain ⟨vitems', vkeys', rfl, _, _, _, cG, cH⟩ := g;clear bH;clear bN;clear bO;have Hitems := zh bP;have Gitems := zh cG;clear bP cG;have Hkeys := zh bQ;have Gkeys := zh cH;clear bQ cH;have HP := zh ((Za.refl _).alloc (.cells #[.int .i64 r.kind, .int .i64 r.tag, .int .i64 r.aI, vitems', vkeys'] 94) |>.block _ (by simp) |>.trans (heap_alloc_new w (.cells #[.int .i64 r.kind, .int .i64 r.tag, .int .i64 r.aI, aS, aT] 94)));have HZ := zh (heap_alloc_new (w.alloc (.cells #[.int .i64 r.kind, .int .i64 r.tag, .int .i64 r.aI, aS, aT] 94)) (.cells #[.int .i64 r.kind, .int .i64 r.tag, .int .i64 r.aI, vitems', vkeys'] 94));simp only [Zbl] at HZ;have HB := zh (((Below.refl w.heap.size w).alloc (Nat.le_refl _) (.cells #[.int .i64 r.kind, .int .i64 r.tag, .int .i64 r.aI, aS, aT] 94)).alloc (by simp) (.cells #[.int .i64 r.kind, .int .i64 r.tag, .int .i64 r.aI, vitems', vkeys'] 94));go_enter Tryz.func121, Tryz.ntmps121;go_wp2_with fail;refine (Zct r.aJ aS vitems' F G _ (Hitems.o.later Zc HB.o) (Gitems.o.later Zc HB.o)).mono ?_;rintro e w3 ⟨rfl, hb3⟩;replace HP := zC hb3 HP;replace HZ := zC hb3 HZ;replace HB := zh (HB.o.trans (Below.mono hb3 HB.o.size));clear hb3;have p0 := cz5 HP.o;have z0 := cz5 HZ.o;go_wp2_with fail;refine (Zct r.aK aT vkeys' F G _ (Hkeys.o.later Zc HB.o) (Gkeys.o.later Zc HB.o)).mono ?_
 rintro e w4 ⟨rfl, hb4⟩;replace HP := zC hb4 HP;replace HZ := zC hb4 HZ;replace HB := zh (HB.o.trans (Below.mono hb4 HB.o.size));clear hb4;clear p0;have p0 := cz5 HP.o;clear z0;have z0 := cz5 HZ.o;go_wp2_with fail;go_ret;exact ⟨rfl, HB.o⟩
theorem Zli (l : List Zam) (v v' : Value) (F G : Nat → Prop) (w : World) (hr : Zo Zbk 5 F w l v) (gr : Zo Zbk 5 G w l v') :
  Calls Tryz.prog 70 #[v, v'] w fun e w' => e = .returned (.bool true) ∧ Below w.heap.size w w' := by
 obtain ⟨A, c, rfl, hc, hcm, hel⟩ := hr;obtain ⟨A', c', rfl, hc', hcm', gel⟩ := gr;unfold maxLen at hcm hcm';have HEL := zh hel;have GEL := zh gel;clear hel gel;go_enter Tryz.func70, Tryz.ntmps70;go_wp2_with fail
 go_loopw [5] (fun i wr => ∃ j : Nat, j ≤ l.length ∧ i = .int .i64 j ∧ Below w.heap.size w wr) (fun i _ => l.length - (intOf i).toNat)
 case atStart => exact ⟨0, Nat.zero_le _, rfl, Below.refl _ _⟩
 case round =>
  obtain ⟨j, hj, rfl, hbel⟩ := hrel;have hsz := hbel.size
  by_cases hlt : j < l.length
  ·obtain ⟨b, o, cs, rfl, hF, hbl, hE, hcell⟩ := HEL.o j hlt;obtain ⟨b2, o2, cs2, rfl, hF2, hbl2, hG, hcell2⟩ := GEL.o j hlt;have hE' := hE;have hG' := hG;obtain ⟨aS, aT, rfl, hfacts⟩ := hE;obtain ⟨vitems', vkeys', rfl, hfacts2⟩ := hG;have hlt' : (j : Int) < l.length := by omega
   have e0 := (hbel.cell (p := ⟨b, o + j * 5 + 0, none⟩) hbl).trans (hcell 0 _ rfl);have e1 := (hbel.cell (p := ⟨b, o + j * 5 + 1, none⟩) hbl).trans (hcell 1 _ rfl);have e2 := (hbel.cell (p := ⟨b, o + j * 5 + 2, none⟩) hbl).trans (hcell 2 _ rfl);have e3 := (hbel.cell (p := ⟨b, o + j * 5 + 3, none⟩) hbl).trans (hcell 3 _ rfl);have e4 := (hbel.cell (p := ⟨b, o + j * 5 + 4, none⟩) hbl).trans (hcell 4 _ rfl);have g0 := (hbel.cell (p := ⟨b2, o2 + j * 5 + 0, none⟩) hbl2).trans (hcell2 0 _ rfl);have g1 := (hbel.cell (p := ⟨b2, o2 + j * 5 + 1, none⟩) hbl2).trans (hcell2 1 _ rfl);have g2 := (hbel.cell (p := ⟨b2, o2 + j * 5 + 2, none⟩) hbl2).trans (hcell2 2 _ rfl);have g3 := (hbel.cell (p := ⟨b2, o2 + j * 5 + 3, none⟩) hbl2).trans (hcell2 3 _ rfl);have g4 := (hbel.cell (p := ⟨b2, o2 + j * 5 + 4, none⟩) hbl2).trans (hcell2 4 _ rfl);simp only [Nat.mul_one, Nat.add_zero] at e0 g0;have HE2 := zh (Za4.keep (G := F) hE' (fun _ h => h) (Ze.later hbel));have HG2 := zh (Za4.keep (G := G) hG' (fun _ h => h) (Ze.later hbel));have hbr : b < wr.heap.size := Nat.lt_of_lt_of_le hbl hsz;have hb2r : b2 < wr.heap.size := Nat.lt_of_lt_of_le hbl2 hsz;clear hE' hG' hcell hcell2 hfacts hfacts2;go_upto_region 6 with (fail);refine Zax [8, 9] [] (by kernel_rfl) (fun W hW => ?_);have hWL : Za wr W := by rw [hW]; exact (Za.refl _).drew
   have eW0 := (hWL.cell ⟨b, o + j * 5, none⟩ hbr).trans e0;have eW1 := (hWL.cell ⟨b, o + j * 5 + 1, none⟩ hbr).trans e1;have eW2 := (hWL.cell ⟨b, o + j * 5 + 2, none⟩ hbr).trans e2;have eW3 := (hWL.cell ⟨b, o + j * 5 + 3, none⟩ hbr).trans e3;have eW4 := (hWL.cell ⟨b, o + j * 5 + 4, none⟩ hbr).trans e4;have gW0 := (hWL.cell ⟨b2, o2 + j * 5, none⟩ hb2r).trans g0;have gW1 := (hWL.cell ⟨b2, o2 + j * 5 + 1, none⟩ hb2r).trans g1;have gW2 := (hWL.cell ⟨b2, o2 + j * 5 + 2, none⟩ hb2r).trans g2;have gW3 := (hWL.cell ⟨b2, o2 + j * 5 + 3, none⟩ hb2r).trans g3;have gW4 := (hWL.cell ⟨b2, o2 + j * 5 + 4, none⟩ hb2r).trans g4;have hbW : b < W.heap.size := Nat.lt_of_lt_of_le hbr hWL.size;have hb2W : b2 < W.heap.size := Nat.lt_of_lt_of_le hb2r hWL.size;clear hW;refine tU 0 17 (v := ?_) rfl rfl (fun x hx => ?_) ?_;rotate_left
   ·go_simp;first|done|with_reducible rfl
   simp only [Act.put, nA, nB, nC];refine tU 1 18 (v := ?_) rfl rfl (fun x hx => ?_) ?_;rotate_left
   ·go_simp;first|done|with_reducible rfl
   simp only [Act.put, nA, nB, nC];refine tU 2 19 (v := ?_) rfl rfl (fun x hx => ?_) ?_;rotate_left
   ·go_simp;first|done|with_reducible rfl|rw[if_neg (by omega)]|rw[if_pos (by omega)]
   simp only [Act.put, nA, nB, nC];refine tU 3 20 (v := ?_) rfl rfl (fun x hx => ?_) ?_;rotate_left
   ·have x0 := (hx.cell ⟨b, o + j * 5, none⟩ hbW).trans eW0; have x1 := (hx.cell ⟨b, o + j * 5 + 1, none⟩ hbW).trans eW1; have x2 := (hx.cell ⟨b, o + j * 5 + 2, none⟩ hbW).trans eW2; have x3 := (hx.cell ⟨b, o + j * 5 + 3, none⟩ hbW).trans eW3; have x4 := (hx.cell ⟨b, o + j * 5 + 4, none⟩ hbW).trans eW4; have y0 := (hx.cell ⟨b2, o2 + j * 5, none⟩ hb2W).trans gW0; have y1 := (hx.cell ⟨b2, o2 + j * 5 + 1, none⟩ hb2W).trans gW1; have y2 := (hx.cell ⟨b2, o2 + j * 5 + 2, none⟩ hb2W).trans gW2; have y3 := (hx.cell ⟨b2, o2 + j * 5 + 3, none⟩ hb2W).trans gW3; have y4 := (hx.cell ⟨b2, o2 + j * 5 + 4, none⟩ hb2W).trans gW4; go_simp;first|done|with_reducible rfl
   simp only [Act.put, nA, nB, nC];refine tU 4 21 (v := ?_) rfl rfl (fun x hx => ?_) ?_;rotate_left
   ·go_simp;first|done|with_reducible rfl
   simp only [Act.put, nA, nB, nC];refine tU 5 22 (v := ?_) rfl rfl (fun x hx => ?_) ?_;rotate_left
   ·go_simp;first|done|with_reducible rfl
   simp only [Act.put, nA, nB, nC];refine tU 6 23 (v := ?_) rfl rfl (fun x hx => ?_) ?_;rotate_left
   ·go_simp;first|done|with_reducible rfl|rw[if_neg (by omega)]|rw[if_pos (by omega)]
   simp only [Act.put, nA, nB, nC];refine tU 7 24 (v := ?_) rfl rfl (fun x hx => ?_) ?_;rotate_left
   ·have x0 := (hx.cell ⟨b, o + j * 5, none⟩ hbW).trans eW0; have x1 := (hx.cell ⟨b, o + j * 5 + 1, none⟩ hbW).trans eW1; have x2 := (hx.cell ⟨b, o + j * 5 + 2, none⟩ hbW).trans eW2; have x3 := (hx.cell ⟨b, o + j * 5 + 3, none⟩ hbW).trans eW3; have x4 := (hx.cell ⟨b, o + j * 5 + 4, none⟩ hbW).trans eW4; have y0 := (hx.cell ⟨b2, o2 + j * 5, none⟩ hb2W).trans gW0; have y1 := (hx.cell ⟨b2, o2 + j * 5 + 1, none⟩ hb2W).trans gW1; have y2 := (hx.cell ⟨b2, o2 + j * 5 + 2, none⟩ hb2W).trans gW2; have y3 := (hx.cell ⟨b2, o2 + j * 5 + 3, none⟩ hb2W).trans gW3; have y4 := (hx.cell ⟨b2, o2 + j * 5 + 4, none⟩ hb2W).trans gW4; go_simp;first|done|with_reducible rfl
   simp only [Act.put, nA, nB, nC];refine Za7 [_, _] (by kernel_rfl) rfl rfl ?_;simp only [List.getElem_toArray, List.getElem_cons_succ, List.getElem_cons_zero];clear e0 g0 e1 g1 e2 g2 e3 g3 e4 g4;have HB2 := zh (hbel.trans (Below.mono hWL hbel.size));have HE3 := zh (Za4.keep (G := F) HE2.o (fun _ h => h) (Ze.later hWL));have HG3 := zh (Za4.keep (G := G) HG2.o (fun _ h => h) (Ze.later hWL));clear hWL eW0 gW0 eW1 gW1 eW2 gW2 eW3 gW3 eW4 gW4;go_wp2_with fail;refine (Zly l[j] _ _ F G W HE3.o HG3.o).mono ?_;rintro e w4 ⟨rfl, hb4⟩;have hb5 := HB2.o.trans (Below.mono hb4 HB2.o.size);clear hb4;go_wp2_with fail
   go_roundw
   case rel => exact ⟨j + 1, by omega, by go_num, hb5⟩
   case measure => simp [intOf]; omega
  ·have hjl : j = l.length := by omega
   go_wp2_with fail;go_ret;exact ⟨rfl, hbel⟩
theorem Zlz (r : Zc4) (cs cs' : List Value) (F G : Nat → Prop) (w : World) (h : Zbg F w r cs) (g : Zbg G w r cs') :
  Calls Tryz.prog 122 #[.agg cs.toArray, .agg cs'.toArray] w fun e w' => e = .returned (.bool true) ∧ Below w.heap.size w w' := by
 obtain ⟨rfl, hroutine, hframe⟩ := h;obtain ⟨rfl, _, _⟩ := g;clear hroutine hframe;go_enter Tryz.func122, Tryz.ntmps122;go_wp2_with fail;go_ret;exact ⟨rfl, ((Below.refl _ _).alloc (Nat.le_refl _) _).alloc (by simp) _⟩
theorem Zlj (l : List Zc4) (v v' : Value) (F G : Nat → Prop) (w : World) (hr : Zo Zbg 2 F w l v) (gr : Zo Zbg 2 G w l v') :
  Calls Tryz.prog 71 #[v, v'] w fun e w' => e = .returned (.bool true) ∧ Below w.heap.size w w' := by
 obtain ⟨A, c, rfl, hc, hcm, hel⟩ := hr;obtain ⟨A', c', rfl, hc', hcm', gel⟩ := gr;unfold maxLen at hcm hcm';have HEL := zh hel;have GEL := zh gel;clear hel gel;go_enter Tryz.func71, Tryz.ntmps71;go_wp2_with fail
 go_loopw [5] (fun i wr => ∃ j : Nat, j ≤ l.length ∧ i = .int .i64 j ∧ Below w.heap.size w wr) (fun i _ => l.length - (intOf i).toNat)
 case atStart => exact ⟨0, Nat.zero_le _, rfl, Below.refl _ _⟩
 case round =>
  obtain ⟨j, hj, rfl, hbel⟩ := hrel;have hsz := hbel.size
  by_cases hlt : j < l.length
  ·obtain ⟨b, o, cs, rfl, hF, hbl, hE, hcell⟩ := HEL.o j hlt;obtain ⟨b2, o2, cs2, rfl, hF2, hbl2, hG, hcell2⟩ := GEL.o j hlt;have hE' := hE;have hG' := hG;obtain ⟨rfl, hfacts⟩ := hE;obtain ⟨rfl, hfacts2⟩ := hG;have hlt' : (j : Int) < l.length := by omega
   have e0 := (hbel.cell (p := ⟨b, o + j * 2 + 0, none⟩) hbl).trans (hcell 0 _ rfl);have e1 := (hbel.cell (p := ⟨b, o + j * 2 + 1, none⟩) hbl).trans (hcell 1 _ rfl);have g0 := (hbel.cell (p := ⟨b2, o2 + j * 2 + 0, none⟩) hbl2).trans (hcell2 0 _ rfl);have g1 := (hbel.cell (p := ⟨b2, o2 + j * 2 + 1, none⟩) hbl2).trans (hcell2 1 _ rfl);simp only [Nat.mul_one, Nat.add_zero] at e0 g0;have HE2 := zh (Zbd.keep (G := F) hE' (fun _ h => h) (Ze.later hbel));have HG2 := zh (Zbd.keep (G := G) hG' (fun _ h => h) (Ze.later hbel));have hbr : b < wr.heap.size := Nat.lt_of_lt_of_le hbl hsz;have hb2r : b2 < wr.heap.size := Nat.lt_of_lt_of_le hbl2 hsz;clear hE' hG' hcell hcell2 hfacts hfacts2;go_upto_region 6 with (fail);refine Zax [8, 9] [] (by kernel_rfl) (fun W hW => ?_);have hWL : Za wr W := by rw [hW]; exact (Za.refl _).drew
   have eW0 := (hWL.cell ⟨b, o + j * 2, none⟩ hbr).trans e0;have eW1 := (hWL.cell ⟨b, o + j * 2 + 1, none⟩ hbr).trans e1;have gW0 := (hWL.cell ⟨b2, o2 + j * 2, none⟩ hb2r).trans g0;have gW1 := (hWL.cell ⟨b2, o2 + j * 2 + 1, none⟩ hb2r).trans g1;have hbW : b < W.heap.size := Nat.lt_of_lt_of_le hbr hWL.size;have hb2W : b2 < W.heap.size := Nat.lt_of_lt_of_le hb2r hWL.size;clear hW;refine tU 0 17 (v := ?_) rfl rfl (fun x hx => ?_) ?_;rotate_left
   ·go_simp;first|done|with_reducible rfl
   simp only [Act.put, nA, nB, nC];refine tU 1 18 (v := ?_) rfl rfl (fun x hx => ?_) ?_;rotate_left
   ·go_simp;first|done|with_reducible rfl
   simp only [Act.put, nA, nB, nC];refine tU 2 19 (v := ?_) rfl rfl (fun x hx => ?_) ?_;rotate_left
   ·go_simp;first|done|with_reducible rfl|rw[if_neg (by omega)]|rw[if_pos (by omega)]
   simp only [Act.put, nA, nB, nC];refine tU 3 20 (v := ?_) rfl rfl (fun x hx => ?_) ?_;rotate_left
   ·have x0 := (hx.cell ⟨b, o + j * 2, none⟩ hbW).trans eW0; have x1 := (hx.cell ⟨b, o + j * 2 + 1, none⟩ hbW).trans eW1; have y0 := (hx.cell ⟨b2, o2 + j * 2, none⟩ hb2W).trans gW0; have y1 := (hx.cell ⟨b2, o2 + j * 2 + 1, none⟩ hb2W).trans gW1; go_simp;first|done|with_reducible rfl
   simp only [Act.put, nA, nB, nC];refine tU 4 21 (v := ?_) rfl rfl (fun x hx => ?_) ?_;rotate_left
   ·go_simp;first|done|with_reducible rfl
   simp only [Act.put, nA, nB, nC];refine tU 5 22 (v := ?_) rfl rfl (fun x hx => ?_) ?_;rotate_left
   ·go_simp;first|done|with_reducible rfl
   simp only [Act.put, nA, nB, nC];refine tU 6 23 (v := ?_) rfl rfl (fun x hx => ?_) ?_;rotate_left
   ·go_simp;first|done|with_reducible rfl|rw[if_neg (by omega)]|rw[if_pos (by omega)]
   simp only [Act.put, nA, nB, nC];refine tU 7 24 (v := ?_) rfl rfl (fun x hx => ?_) ?_;rotate_left
   ·have x0 := (hx.cell ⟨b, o + j * 2, none⟩ hbW).trans eW0; have x1 := (hx.cell ⟨b, o + j * 2 + 1, none⟩ hbW).trans eW1; have y0 := (hx.cell ⟨b2, o2 + j * 2, none⟩ hb2W).trans gW0; have y1 := (hx.cell ⟨b2, o2 + j * 2 + 1, none⟩ hb2W).trans gW1; go_simp;first|done|with_reducible rfl
   simp only [Act.put, nA, nB, nC];refine Za7 [_, _] (by kernel_rfl) rfl rfl ?_;simp only [List.getElem_toArray, List.getElem_cons_succ, List.getElem_cons_zero];clear e0 g0 e1 g1;have HB2 := zh (hbel.trans (Below.mono hWL hbel.size));have HE3 := zh (Zbd.keep (G := F) HE2.o (fun _ h => h) (Ze.later hWL));have HG3 := zh (Zbd.keep (G := G) HG2.o (fun _ h => h) (Ze.later hWL));clear hWL eW0 gW0 eW1 gW1;go_wp2_with fail;refine (Zlz l[j] _ _ F G W HE3.o HG3.o).mono ?_;rintro e w4 ⟨rfl, hb4⟩;have hb5 := HB2.o.trans (Below.mono hb4 HB2.o.size);clear hb4;go_wp2_with fail
   go_roundw
   case rel => exact ⟨j + 1, by omega, by go_num, hb5⟩
   case measure => simp [intOf]; omega
  ·have hjl : j = l.length := by omega
   go_wp2_with fail;go_ret;exact ⟨rfl, hbel⟩
theorem Zna (r : Zf) (cs cs' : List Value) (F G : Nat → Prop) (w : World) (h : Zcf F w r cs) (g : Zcf G w r cs') :
  Calls Tryz.prog 24 #[.agg cs.toArray, .agg cs'.toArray] w fun e w' => e = .returned (.bool true) ∧ Below w.heap.size w w' := by
 obtain ⟨aL, aM, aN, aO, aP, aQ, aR, rfl, aV, aW, aX, aY, aZ, bA, bB, bC, bD, bE, bF, bG⟩ := h;obtain ⟨vnames', vrecords', vobjects', vglobals', voutput', vtrace', vactives', rfl, bU, bV, bW, bX, _, _, bY, bZ, cA, _, _, _⟩ := g;have ysubject : (r.aC.toList == r.aC.toList) = true := by simp
 have Hnames := zh aV;have Gnames := zh bU;clear aV bU;have Hrecords := zh aW;have Grecords := zh bV;clear aW bV;have Hobjects := zh aX;have Gobjects := zh bW;clear aX bW;have Hglobals := zh aY;have Gglobals := zh bX;clear aY bX;clear aZ;clear bA;have Houtput := zh bB;have Goutput := zh bY;clear bB bY;have Htrace := zh bC;have Gtrace := zh bZ;clear bC bZ;have Hactives := zh bD;have Gactives := zh cA;clear bD cA;clear bE;clear bF;clear bG;have HP := zh ((Za.refl _).alloc (.cells #[vnames', vrecords', vobjects', vglobals', .string r.aC, .int .i64 r.aD, voutput', vtrace', vactives', .bool r.aF, .int .i64 r.ticks, .int .i64 r.aG, .int .i64 r.made] 30) |>.block _ (by simp) |>.trans (heap_alloc_new w (.cells #[aL, aM, aN, aO, .string r.aC, .int .i64 r.aD, aP, aQ, aR, .bool r.aF, .int .i64 r.ticks, .int .i64 r.aG, .int .i64 r.made] 30)));have HZ := zh (heap_alloc_new (w.alloc (.cells #[aL, aM, aN, aO, .string r.aC, .int .i64 r.aD, aP, aQ, aR, .bool r.aF, .int .i64 r.ticks, .int .i64 r.aG, .int .i64 r.made] 30)) (.cells #[vnames', vrecords', vobjects', vglobals', .string r.aC, .int .i64 r.aD, voutput', vtrace', vactives', .bool r.aF, .int .i64 r.ticks, .int .i64 r.aG, .int .i64 r.made] 30))
 simp only [Zbl] at HZ;have HB := zh (((Below.refl w.heap.size w).alloc (Nat.le_refl _) (.cells #[aL, aM, aN, aO, .string r.aC, .int .i64 r.aD, aP, aQ, aR, .bool r.aF, .int .i64 r.ticks, .int .i64 r.aG, .int .i64 r.made] 30)).alloc (by simp) (.cells #[vnames', vrecords', vobjects', vglobals', .string r.aC, .int .i64 r.aD, voutput', vtrace', vactives', .bool r.aF, .int .i64 r.ticks, .int .i64 r.aG, .int .i64 r.made] 30));go_enter Tryz.func24, Tryz.ntmps24;go_wp2_with fail;refine (Zdw r.names aL vnames' F G _ (Hnames.o.later Zad HB.o) (Gnames.o.later Zad HB.o)).mono ?_;rintro e w0 ⟨rfl, hb0⟩;replace HP := zC hb0 HP;replace HZ := zC hb0 HZ;replace HB := zh (HB.o.trans (Below.mono hb0 HB.o.size));clear hb0;have p0 := Zbb HP.o;have z0 := Zbb HZ.o;go_wp2_with fail;refine (Zh9 r.aB aM vrecords' F G _ (Hrecords.o.later Zah HB.o) (Grecords.o.later Zah HB.o)).mono ?_;rintro e w1 ⟨rfl, hb1⟩;replace HP := zC hb1 HP;replace HZ := zC hb1 HZ;replace HB := zh (HB.o.trans (Below.mono hb1 HB.o.size));clear hb1;clear p0;have p0 := Zbb HP.o;clear z0;have z0 := Zbb HZ.o
 go_wp2_with fail;refine (Zli r.aA aN vobjects' F G _ (Hobjects.o.later Za4 HB.o) (Gobjects.o.later Za4 HB.o)).mono ?_;rintro e w2 ⟨rfl, hb2⟩;replace HP := zC hb2 HP;replace HZ := zC hb2 HZ;replace HB := zh (HB.o.trans (Below.mono hb2 HB.o.size));clear hb2;clear p0;have p0 := Zbb HP.o;clear z0;have z0 := Zbb HZ.o;go_wp2_with fail;refine (Zct r.globals aO vglobals' F G _ (Hglobals.o.later Zc HB.o) (Gglobals.o.later Zc HB.o)).mono ?_;rintro e w3 ⟨rfl, hb3⟩;replace HP := zC hb3 HP;replace HZ := zC hb3 HZ;replace HB := zh (HB.o.trans (Below.mono hb3 HB.o.size));clear hb3;clear p0;have p0 := Zbb HP.o;clear z0;have z0 := Zbb HZ.o;go_wp2_with fail;refine (Zdw r.output aP voutput' F G _ (Houtput.o.later Zad HB.o) (Goutput.o.later Zad HB.o)).mono ?_;rintro e w6 ⟨rfl, hb6⟩;replace HP := zC hb6 HP;replace HZ := zC hb6 HZ;replace HB := zh (HB.o.trans (Below.mono hb6 HB.o.size));clear hb6;clear p0;have p0 := Zbb HP.o;clear z0
 have z0 := Zbb HZ.o;go_wp2_with fail;refine (Zdw r.trace aQ vtrace' F G _ (Htrace.o.later Zad HB.o) (Gtrace.o.later Zad HB.o)).mono ?_;rintro e w7 ⟨rfl, hb7⟩;replace HP := zC hb7 HP;replace HZ := zC hb7 HZ;replace HB := zh (HB.o.trans (Below.mono hb7 HB.o.size));clear hb7;clear p0;have p0 := Zbb HP.o;clear z0;have z0 := Zbb HZ.o;go_wp2_with fail;refine (Zlj r.aE aR vactives' F G _ (Hactives.o.later Zbd HB.o) (Gactives.o.later Zbd HB.o)).mono ?_;rintro e w8 ⟨rfl, hb8⟩;replace HP := zC hb8 HP;replace HZ := zC hb8 HZ;replace HB := zh (HB.o.trans (Below.mono hb8 HB.o.size));clear hb8;clear p0;have p0 := Zbb HP.o;clear z0;have z0 := Zbb HZ.o;go_wp2_with fail;go_ret;exact ⟨rfl, HB.o⟩
end Go.Proofs.YtpmhelkiicigfaaGreatDoor
namespace Go.Proofs.YtpmhelkiicigfaaGreatDoor
open Go.RowKit
section
variable {S K : Zbt Zaj}
def Zq7 (K : Zbt Zaj) : Prop := ∀ (l : List Zaj) (v v' : Value) (F G : Nat → Prop) (w : World) (hr : Zo K 6 F w l v) (gr : Zo K 6 G w l v'),
 Calls Tryz.prog 22 #[v, v'] w fun e w' => e = .returned (.bool true) ∧ Below w.heap.size w w'
theorem Zdx (hK : Zcx K 6) (hkid : Zq7 K) (r : Zaj) (cs cs' : List Value) (F G : Nat → Prop) (w : World) (h : (Zdk K) F w r cs) (g : (Zdk K) G w r cs') :
  Calls Tryz.prog 21 #[.agg cs.toArray, .agg cs'.toArray] w fun e w' => e = .returned (.bool true) ∧ Below w.heap.size w w' := by
 obtain ⟨vkids, rfl, hop, bK, bI, bL, bM, hkids⟩ := h;obtain ⟨vkids', rfl, _, _, _, cC, cD, gkids⟩ := g;have ytext : (r.text.toList == r.text.toList) = true := by simp
 have Hset_ := zh (show Ze2 F w r.set_ [.int .i64 r.set_.low, .int .i64 r.set_.high] from ⟨rfl, bL, bM⟩);have Gset_ := zh (show Ze2 G w r.set_ [.int .i64 r.set_.low, .int .i64 r.set_.high] from ⟨rfl, cC, cD⟩);clear hop;clear bK;clear bI;clear bL cC;clear bM cD;have Hkids := zh hkids;have Gkids := zh gkids;clear hkids gkids;have HP := zh ((Za.refl _).alloc (.cells #[.int .i64 r.op, .string r.text, .int .i64 r.aH, .int .i64 r.set_.low, .int .i64 r.set_.high, vkids'] 55) |>.block _ (by simp) |>.trans (heap_alloc_new w (.cells #[.int .i64 r.op, .string r.text, .int .i64 r.aH, .int .i64 r.set_.low, .int .i64 r.set_.high, vkids] 55)));have HZ := zh (heap_alloc_new (w.alloc (.cells #[.int .i64 r.op, .string r.text, .int .i64 r.aH, .int .i64 r.set_.low, .int .i64 r.set_.high, vkids] 55)) (.cells #[.int .i64 r.op, .string r.text, .int .i64 r.aH, .int .i64 r.set_.low, .int .i64 r.set_.high, vkids'] 55));simp only [Zbl] at HZ;have HB := zh (((Below.refl w.heap.size w).alloc (Nat.le_refl _) (.cells #[.int .i64 r.op, .string r.text, .int .i64 r.aH, .int .i64 r.set_.low, .int .i64 r.set_.high, vkids] 55)).alloc (by simp) (.cells #[.int .i64 r.op, .string r.text, .int .i64 r.aH, .int .i64 r.set_.low, .int .i64 r.set_.high, vkids'] 55));go_enter Tryz.func21, Tryz.ntmps21;go_wp2_with fail;refine (Zj8 r.set_ _ _ F G _ (Zd2.keep Hset_.o (fun _ h => h) (Ze.later HB.o)) (Zd2.keep Gset_.o (fun _ h => h) (Ze.later HB.o))).mono ?_
 rintro e w3 ⟨rfl, hb3⟩;replace HP := zC hb3 HP;replace HZ := zC hb3 HZ;replace HB := zh (HB.o.trans (Below.mono hb3 HB.o.size));clear hb3;have p0 := cz6 HP.o;have z0 := cz6 HZ.o;go_wp2_with fail;refine (hkid r.kids vkids vkids' F G _ (Hkids.o.later hK HB.o) (Gkids.o.later hK HB.o)).mono ?_;rintro e w4 ⟨rfl, hb4⟩;replace HP := zC hb4 HP;replace HZ := zC hb4 HZ;replace HB := zh (HB.o.trans (Below.mono hb4 HB.o.size));clear hb4;clear p0;have p0 := cz6 HP.o;clear z0;have z0 := cz6 HZ.o;go_wp2_with fail;go_ret;exact ⟨rfl, HB.o⟩
theorem Zkl (hK : Zcx K 6) (hkid : Zq7 K) : Zq7 (Zdk K) := by
 intro l v v' F G w hr gr;obtain ⟨A, c, rfl, hc, hcm, hel⟩ := hr;obtain ⟨A', c', rfl, hc', hcm', gel⟩ := gr;unfold maxLen at hcm hcm';have HEL := zh hel;have GEL := zh gel;clear hel gel;go_enter Tryz.func22, Tryz.ntmps22;go_wp2_with fail
 go_loopw [5] (fun i wr => ∃ j : Nat, j ≤ l.length ∧ i = .int .i64 j ∧ Below w.heap.size w wr) (fun i _ => l.length - (intOf i).toNat)
 case atStart => exact ⟨0, Nat.zero_le _, rfl, Below.refl _ _⟩
 case round =>
  obtain ⟨j, hj, rfl, hbel⟩ := hrel;have hsz := hbel.size
  by_cases hlt : j < l.length
  ·obtain ⟨b, o, cs, rfl, hF, hbl, hE, hcell⟩ := HEL.o j hlt;obtain ⟨b2, o2, cs2, rfl, hF2, hbl2, hG, hcell2⟩ := GEL.o j hlt;have hE' := hE;have hG' := hG;obtain ⟨vkids, rfl, hfacts⟩ := hE;obtain ⟨vkids', rfl, hfacts2⟩ := hG;have hlt' : (j : Int) < l.length := by omega
   have e0 := (hbel.cell (p := ⟨b, o + j * 6 + 0, none⟩) hbl).trans (hcell 0 _ rfl);have e1 := (hbel.cell (p := ⟨b, o + j * 6 + 1, none⟩) hbl).trans (hcell 1 _ rfl);have e2 := (hbel.cell (p := ⟨b, o + j * 6 + 2, none⟩) hbl).trans (hcell 2 _ rfl);have e3 := (hbel.cell (p := ⟨b, o + j * 6 + 3, none⟩) hbl).trans (hcell 3 _ rfl);have e4 := (hbel.cell (p := ⟨b, o + j * 6 + 4, none⟩) hbl).trans (hcell 4 _ rfl);have e5 := (hbel.cell (p := ⟨b, o + j * 6 + 5, none⟩) hbl).trans (hcell 5 _ rfl);have g0 := (hbel.cell (p := ⟨b2, o2 + j * 6 + 0, none⟩) hbl2).trans (hcell2 0 _ rfl);have g1 := (hbel.cell (p := ⟨b2, o2 + j * 6 + 1, none⟩) hbl2).trans (hcell2 1 _ rfl);have g2 := (hbel.cell (p := ⟨b2, o2 + j * 6 + 2, none⟩) hbl2).trans (hcell2 2 _ rfl);have g3 := (hbel.cell (p := ⟨b2, o2 + j * 6 + 3, none⟩) hbl2).trans (hcell2 3 _ rfl);have g4 := (hbel.cell (p := ⟨b2, o2 + j * 6 + 4, none⟩) hbl2).trans (hcell2 4 _ rfl);have g5 := (hbel.cell (p := ⟨b2, o2 + j * 6 + 5, none⟩) hbl2).trans (hcell2 5 _ rfl);simp only [Nat.mul_one, Nat.add_zero] at e0 g0;have HE2 := zh ((Zdo hK).keep (G := F) hE' (fun _ h => h) (Ze.later hbel));have HG2 := zh ((Zdo hK).keep (G := G) hG' (fun _ h => h) (Ze.later hbel));have hbr : b < wr.heap.size := Nat.lt_of_lt_of_le hbl hsz;have hb2r : b2 < wr.heap.size := Nat.lt_of_lt_of_le hbl2 hsz;clear hE' hG' hcell hcell2 hfacts hfacts2;go_upto_region 6 with (fail);refine Zax [8, 9] [] (by kernel_rfl) (fun W hW => ?_);have hWL : Za wr W := by rw [hW]; exact (Za.refl _).drew
   have eW0 := (hWL.cell ⟨b, o + j * 6, none⟩ hbr).trans e0;have eW1 := (hWL.cell ⟨b, o + j * 6 + 1, none⟩ hbr).trans e1;have eW2 := (hWL.cell ⟨b, o + j * 6 + 2, none⟩ hbr).trans e2;have eW3 := (hWL.cell ⟨b, o + j * 6 + 3, none⟩ hbr).trans e3;have eW4 := (hWL.cell ⟨b, o + j * 6 + 4, none⟩ hbr).trans e4;have eW5 := (hWL.cell ⟨b, o + j * 6 + 5, none⟩ hbr).trans e5;have gW0 := (hWL.cell ⟨b2, o2 + j * 6, none⟩ hb2r).trans g0;have gW1 := (hWL.cell ⟨b2, o2 + j * 6 + 1, none⟩ hb2r).trans g1;have gW2 := (hWL.cell ⟨b2, o2 + j * 6 + 2, none⟩ hb2r).trans g2;have gW3 := (hWL.cell ⟨b2, o2 + j * 6 + 3, none⟩ hb2r).trans g3;have gW4 := (hWL.cell ⟨b2, o2 + j * 6 + 4, none⟩ hb2r).trans g4;have gW5 := (hWL.cell ⟨b2, o2 + j * 6 + 5, none⟩ hb2r).trans g5;have hbW : b < W.heap.size := Nat.lt_of_lt_of_le hbr hWL.size;have hb2W : b2 < W.heap.size := Nat.lt_of_lt_of_le hb2r hWL.size;clear hW;refine tU 0 17 (v := ?_) rfl rfl (fun x hx => ?_) ?_;rotate_left
   ·go_simp;first|done|with_reducible rfl
   simp only [Act.put, nA, nB, nC];refine tU 1 18 (v := ?_) rfl rfl (fun x hx => ?_) ?_;rotate_left
   ·go_simp;first|done|with_reducible rfl
   simp only [Act.put, nA, nB, nC];refine tU 2 19 (v := ?_) rfl rfl (fun x hx => ?_) ?_;rotate_left
   ·go_simp;first|done|with_reducible rfl|rw[if_neg (by omega)]|rw[if_pos (by omega)]
   simp only [Act.put, nA, nB, nC];refine tU 3 20 (v := ?_) rfl rfl (fun x hx => ?_) ?_;rotate_left
   ·have x0 := (hx.cell ⟨b, o + j * 6, none⟩ hbW).trans eW0; have x1 := (hx.cell ⟨b, o + j * 6 + 1, none⟩ hbW).trans eW1; have x2 := (hx.cell ⟨b, o + j * 6 + 2, none⟩ hbW).trans eW2; have x3 := (hx.cell ⟨b, o + j * 6 + 3, none⟩ hbW).trans eW3; have x4 := (hx.cell ⟨b, o + j * 6 + 4, none⟩ hbW).trans eW4; have x5 := (hx.cell ⟨b, o + j * 6 + 5, none⟩ hbW).trans eW5; have y0 := (hx.cell ⟨b2, o2 + j * 6, none⟩ hb2W).trans gW0; have y1 := (hx.cell ⟨b2, o2 + j * 6 + 1, none⟩ hb2W).trans gW1; have y2 := (hx.cell ⟨b2, o2 + j * 6 + 2, none⟩ hb2W).trans gW2; have y3 := (hx.cell ⟨b2, o2 + j * 6 + 3, none⟩ hb2W).trans gW3; have y4 := (hx.cell ⟨b2, o2 + j * 6 + 4, none⟩ hb2W).trans gW4; have y5 := (hx.cell ⟨b2, o2 + j * 6 + 5, none⟩ hb2W).trans gW5; go_simp;first|done|with_reducible rfl
   simp only [Act.put, nA, nB, nC];refine tU 4 21 (v := ?_) rfl rfl (fun x hx => ?_) ?_;rotate_left
   ·go_simp;first|done|with_reducible rfl
   simp only [Act.put, nA, nB, nC];refine tU 5 22 (v := ?_) rfl rfl (fun x hx => ?_) ?_;rotate_left
   ·go_simp;first|done|with_reducible rfl
   simp only [Act.put, nA, nB, nC];refine tU 6 23 (v := ?_) rfl rfl (fun x hx => ?_) ?_;rotate_left
   ·go_simp;first|done|with_reducible rfl|rw[if_neg (by omega)]|rw[if_pos (by omega)]
   simp only [Act.put, nA, nB, nC];refine tU 7 24 (v := ?_) rfl rfl (fun x hx => ?_) ?_;rotate_left
   ·have x0 := (hx.cell ⟨b, o + j * 6, none⟩ hbW).trans eW0; have x1 := (hx.cell ⟨b, o + j * 6 + 1, none⟩ hbW).trans eW1; have x2 := (hx.cell ⟨b, o + j * 6 + 2, none⟩ hbW).trans eW2; have x3 := (hx.cell ⟨b, o + j * 6 + 3, none⟩ hbW).trans eW3; have x4 := (hx.cell ⟨b, o + j * 6 + 4, none⟩ hbW).trans eW4; have x5 := (hx.cell ⟨b, o + j * 6 + 5, none⟩ hbW).trans eW5; have y0 := (hx.cell ⟨b2, o2 + j * 6, none⟩ hb2W).trans gW0; have y1 := (hx.cell ⟨b2, o2 + j * 6 + 1, none⟩ hb2W).trans gW1; have y2 := (hx.cell ⟨b2, o2 + j * 6 + 2, none⟩ hb2W).trans gW2; have y3 := (hx.cell ⟨b2, o2 + j * 6 + 3, none⟩ hb2W).trans gW3; have y4 := (hx.cell ⟨b2, o2 + j * 6 + 4, none⟩ hb2W).trans gW4; have y5 := (hx.cell ⟨b2, o2 + j * 6 + 5, none⟩ hb2W).trans gW5; go_simp;first|done|with_reducible rfl
   simp only [Act.put, nA, nB, nC];refine Za7 [_, _] (by kernel_rfl) rfl rfl ?_;simp only [List.getElem_toArray, List.getElem_cons_succ, List.getElem_cons_zero];clear e0 g0 e1 g1 e2 g2 e3 g3 e4 g4 e5 g5;have HB2 := zh (hbel.trans (Below.mono hWL hbel.size));have HE3 := zh ((Zdo hK).keep (G := F) HE2.o (fun _ h => h) (Ze.later hWL));have HG3 := zh ((Zdo hK).keep (G := G) HG2.o (fun _ h => h) (Ze.later hWL));clear hWL eW0 gW0 eW1 gW1 eW2 gW2 eW3 gW3 eW4 gW4 eW5 gW5;go_wp2_with fail;refine (Zdx hK hkid l[j] _ _ F G W HE3.o HG3.o).mono ?_;rintro e w4 ⟨rfl, hb4⟩;have hb5 := HB2.o.trans (Below.mono hb4 HB2.o.size);clear hb4;go_wp2_with fail
   go_roundw
   case rel => exact ⟨j + 1, by omega, by go_num, hb5⟩
   case measure => simp [intOf]; omega
  ·have hjl : j = l.length := by omega
   go_wp2_with fail;go_ret;exact ⟨rfl, hbel⟩
theorem Zb9 : ∀ n, Zq7 (Zoq n)
 | 0 => by
  intro l v v' F G w hr gr;obtain ⟨A, c, rfl, hc, hcm, hel⟩ := hr;obtain ⟨A', c', rfl, hc', hcm', gel⟩ := gr;unfold maxLen at hcm hcm';have h0 : l.length = 0 := by
   rcases Nat.eq_zero_or_pos l.length with h | h
   ·exact h
   ·obtain ⟨b, o, cs, e, hF, hbl, hE, hcell⟩ := hel 0 h;exact hE.elim
  obtain rfl : l = [] := List.eq_nil_of_length_eq_zero h0;clear hel gel h0;go_enter Tryz.func22, Tryz.ntmps22;go_wp2_with fail;refine wp_loop_rounds 1 ?_;rw [rounds_succ];go_wp2_with fail;go_ret;exact ⟨rfl, Below.refl _ _⟩
 | n + 1 => Zkl (Zcz n) (Zb9 n)
end
end Go.Proofs.YtpmhelkiicigfaaGreatDoor
namespace Go.Proofs.YtpmhelkiicigfaaGreatDoor
open Go.RowKit
end Go.Proofs.YtpmhelkiicigfaaGreatDoor
