/- Part of the walks that the claim stands on. -/
import Derived.Test.YtcmmdchjppaimaaGreatDoorS4
import Derived.Test.YtcmmdchjppaimaaGreatDoorS2
import Derived.Test.YtcmmdchjppaimaaGreatDoorS1
import Derived.Test.YtcmmdchjppaimaaGreatDoorS3
import Derived.Deep.DeepCutAuto
import Derived.Deep.CutBlock
import Derived.Deep.CutRange
set_option maxRecDepth 1000000
set_option maxHeartbeats 40000000
namespace Go.Proofs.YtcmmdchjppaimaaGreatDoor
open Go.RowKit
theorem Zsv : (Tryz.prog.info? Zco).map (fun i => (i.zero, i.size, i.bytes)) = some (some (.int .i64 0), 1, 8) := by kernel_rfl
theorem Zqo (n : Nat) (IH : ∀ n', n = n' + 1 → Zci n') (w : World) (MB : Nat) (G : Nat → Prop) (L : List Ze) (lp : Option Zr) (ls : List Zak) (bs : List Int) (ex : List Nat) (F : Nat → Prop) (c : Zd) (A : Option Addr) (k m B : Nat) (HS : Hd (SS w w MB G G L (stL lp ls ex) m (stB lp bs))) (HP : Hd (CxP n w MB G L.length lp (ex.length + ls.length + bs.length) F c A k m B)) (ho : c.kind = 20) :
  Calls Tryz.prog 129 #[.pointer (some ⟨MB, 0, none⟩), c.val A k] w (Zb5 n w MB G L lp ls bs ex c m) := by
 have HO := zh ho;unfold Zd.val;have hlwb : Za w (w.alloc (.cells #[.int .i64 c.kind, .int .i64 c.op, .int .i64 c.aB, .int .i64 c.line, .string c.text, .slice A c.kids.length k] 68)) := (Za.refl _).alloc _;obtain ⟨wb, hwb⟩ : ∃ z, w.alloc (.cells #[.int .i64 c.kind, .int .i64 c.op, .int .i64 c.aB, .int .i64 c.line, .string c.text, .slice A c.kids.length k] 68) = z := ⟨_, rfl⟩;rw [hwb] at hlwb;have HB := zh (show wb.heap[w.heap.size]? = some (.cells #[.int .i64 c.kind, .int .i64 c.op, .int .i64 c.aB, .int .i64 c.line, .string c.text, .slice A c.kids.length k] 68 (0, 0)) by rw [← hwb]; exact heap_alloc_new _ _);have hNP : ¬ (w.heap.size = MB ∨ G w.heap.size) := by
  obtain ⟨_, _, _, _, _, _, hs, -⟩ := HS.o.st;rintro (h | h)
  ·have := HS.o.below; omega
  ·have := HS.o.lt _ h; omega
 have HSb := zh ((HS.o.later hlwb).here);have HLb := zh hlwb;have hn3 := HP.o.cv.n3;have hmb := HP.o.mb;have hlb := HP.o.lb;have hbB := HP.o.bB;have hmul : Z0 c * B = Zx c.kids * B + B := by rw [Zq c, Nat.add_mul, Nat.one_mul]
 have tm1 : IntKind.i64.wrap ((m : Int) + 1) = ((m + 1 : Nat) : Int) := by rw [IntWalk.i64_in _ (by omega)]; rfl
 have tm0 : IntKind.i64.wrap (m : Int) = (m : Int) := IntWalk.i64_in _ (by omega);have hkn : 1 ≤ c.kids.length := by have := HP.o.ok.2.1; rw [ho] at this; exact this
 obtain ⟨n', rfl⟩ := HP.o.cv.lev (i := 0) (by omega);obtain ⟨n, rfl⟩ : ∃ z, z = n' := ⟨_, rfl⟩;obtain ⟨kb, ko, B0, q0, rfl, -⟩ := CAt.kid HP.o.cv.kids (i := 0) (by omega);have hkn2 : (1 : Int) ≤ (c.kids.length : Int) := by omega
 have hcnt := Zfw (c := c) hkn;have hmu := Zj8 (M := B) hcnt;obtain ⟨c0, c1, c2, c3, c4, c5⟩ := cz6 HB.o;have fc0 := fz HB.o;rw [ho] at c0;clear ho;obtain ⟨lx, rfl⟩ := Option.isSome_iff_exists.1 (HP.o.ok.2.2.1 (.inl HO.o));have hxm := HP.o.lm lx rfl;obtain ⟨Gc, Gl, Gb, cv, lv, bv, hs, hG⟩ := HSb.o.st;have HSK := zh hs;have HGK := zh hG;have b0 := cz4 hs.blk;have fb0 := fz hs.blk;clear hs hG;obtain ⟨Ac, cc, rfl, -⟩ := id HSK.o.code;have hs := HSK.o;obtain ⟨lb, lc, Fi, vo, el, hlc, hlm, hlbw, l0, l1, l2, hlfr, h64s, hro, hFi, hlbM, -⟩ := SpK.broke (ls := ls) (a := ⟨lx.every, lx.begin_, ex.map Int.ofNat⟩) hs;obtain ⟨Ab, cb, eb, hbc, hbm, hbel⟩ := (show Zah Zc1 1 Zco Gb wb (bs ++ [(lx.marks : Int)]) bv from hs.base).el Zap;simp only [List.length_append, List.length_singleton] at eb hbc;subst el eb;obtain ⟨bb, bo, cs, rfl, -, hbb, ⟨rfl, -⟩, hbcell⟩ := hbel bs.length (by simp);have e0 := hbcell 0 _ rfl;simp only [Nat.mul_one, Nat.add_zero] at e0;rw [show (bs ++ [(lx.marks : Int)])[bs.length]'(by simp) = (lx.marks : Int) by simp] at e0;have hlsl : ls.length + bs.length ≤ 300000 := by have := HP.o.exb; omega
 have tln : IntKind.i64.wrap (((ls.length + 1 : Nat) : Int) - 1) = (ls.length : Int) := by rw [IntWalk.i64_in _ (by omega)]; omega
 have tln0 : IntKind.i64.wrap (ls.length : Int) = (ls.length : Int) := IntWalk.i64_in _ (by omega);have tbn0 : IntKind.i64.wrap (bs.length : Int) = (bs.length : Int) := IntWalk.i64_in _ (by omega);have tbn : IntKind.i64.wrap (((bs.length + 1 : Nat) : Int) - 1) = (bs.length : Int) := by rw [IntWalk.i64_in _ (by omega)]; omega
 have hnl : (ls.length : Int) < ((ls.length + 1 : Nat) : Int) := by omega
 have hnb : (bs.length : Int) < ((bs.length + 1 : Nat) : Int) := by omega
 have tmx : IntKind.i64.wrap ((lx.marks : Int) + 1) = ((lx.marks + 1 : Nat) : Int) := by rw [IntWalk.i64_in _ (by omega)]; rfl
 have HRO := zh hro;have HFI := zh hFi;clear hs hro hFi hbel hbcell hlfr;go_enter Tryz.func129, Tryz.ntmps129;have HCB := zh HB.o;have HEB := zh (And.intro hbb e0);go_upto_region 10 with (fail);refine Z3 [9] [] (by kernel_rfl) (fun W1 hW1 => ?_);have hlW : Za wb W1 := by rw [hW1]; exact (Za.refl _).drew
 clear hW1 c0 c1 c2 c3 c4 c5 fc0 e0;have HCW := zC hlW HCB;have HEW := zh (And.intro (Nat.lt_of_lt_of_le HEB.o.1 hlW.size) ((hlW.cell ⟨bb, bo + bs.length, none⟩ HEB.o.1).trans HEB.o.2));have HLW := zh hlW;have HKW := zh (HSK.o.later hlW);clear hlW;refine tU 0 70 (v := ?_) rfl rfl (fun x hx => ?_) ?_;rotate_left
 ·go_simp;first|done|with_reducible rfl
 simp only [Act.put, nA, nB, nC];refine tU 1 71 (v := ?_) rfl rfl (fun x hx => ?_) ?_;rotate_left
 ·go_simp;first|done|with_reducible rfl
 simp only [Act.put, nA, nB, nC];refine tU 2 72 (v := ?_) rfl rfl (fun x hx => ?_) ?_;rotate_left
 ·go_simp;first|done|with_reducible rfl
 simp only [Act.put, nA, nB, nC];refine tU 3 73 (v := ?_) rfl rfl (fun x hx => ?_) ?_;rotate_left
 ·go_simp;first|done|with_reducible rfl
 simp only [Act.put, nA, nB, nC];refine tU 4 74 (v := ?_) rfl rfl (fun x hx => ?_) ?_;rotate_left
 ·go_simp;first|done|with_reducible rfl
 simp only [Act.put, nA, nB, nC];refine tU 5 75 (v := ?_) rfl rfl (fun x hx => ?_) ?_;rotate_left
 ·go_simp;first|done|with_reducible rfl|rw[if_neg (by omega)]|rw[if_pos (by omega)]
 simp only [Act.put, nA, nB, nC];refine tU 6 76 (v := ?_) rfl rfl (fun x hx => ?_) ?_;rotate_left
 ·have hxc := (hx.block _ (Zc HCW.o)).trans HCW.o; obtain ⟨c0, c1, c2, c3, c4, c5⟩ := cz6 hxc; have fc0 := fz hxc; have e0 := (hx.cell ⟨bb, bo + bs.length, none⟩ HEW.o.1).trans HEW.o.2; go_simp; first|done|with_reducible rfl
 simp only [Act.put, nA, nB, nC];refine tU 7 77 (v := ?_) rfl rfl (fun x hx => ?_) ?_;rotate_left
 ·go_simp;first|done|with_reducible rfl
 simp only [Act.put, nA, nB, nC];refine tU 8 78 (v := ?_) rfl rfl (fun x hx => ?_) ?_;rotate_left
 ·have hxc := (hx.block _ (Zc HCW.o)).trans HCW.o; obtain ⟨c0, c1, c2, c3, c4, c5⟩ := cz6 hxc; have fc0 := fz hxc; have e0 := (hx.cell ⟨bb, bo + bs.length, none⟩ HEW.o.1).trans HEW.o.2; go_simp; first|done|with_reducible rfl
 simp only [Act.put, nA, nB, nC];refine Zag [_] (by kernel_rfl) rfl rfl ?_;simp only [List.getElem_toArray, List.getElem_cons_succ, List.getElem_cons_zero];go_wp2_with fail;refine (Zg4 MB Gc Gl Gb L _ m _ _ _ _ lx.marks c.line W1 HKW.o (by omega) (by omega) hn3 (by omega)).mono ?_;rintro e w1 ⟨rfl, Gc1, cv1, hs1, hg1, ht1⟩;obtain ⟨Ac1, cc1, rfl, -⟩ := id hs1.code;have HK1 := zh hs1;have HG1 := zh hg1;have HT1 := zh ht1;have hW1 := HT1.o.size;obtain ⟨G1, hss⟩ := hs1.ss HGK.o hg1 ht1;have HS1 := zh ((HSb.o.later HLW.o).trans hss);clear hs1 hg1 ht1 hss b0 fb0;have HBk := zh (HS1.o.tn.has HB.o hNP);obtain ⟨c0, c1, c2, c3, c4, c5⟩ := cz6 HBk.o;have fc0 := fz HBk.o;have b0 := cz4 HK1.o.blk;have fb0 := fz HK1.o.blk;obtain ⟨Ab2, cb2, eb, -, -, hbel⟩ := (show Zah Zc1 1 Zco Gb w1 (bs ++ [(lx.marks : Int)]) _ from HK1.o.base).el Zap;simp only [List.length_append, List.length_singleton] at eb;cases eb;obtain ⟨bb2, bo2, cs, eA, -, hbb2, ⟨rfl, -⟩, hbcell⟩ := hbel bs.length (by simp);cases eA;have e0 := hbcell 0 _ rfl;simp only [Nat.mul_one, Nat.add_zero] at e0;rw [show (bs ++ [(lx.marks : Int)])[bs.length]'(by simp) = (lx.marks : Int) by simp] at e0;obtain ⟨w2, hwn⟩ : ∃ z, w1.setCell ⟨MB, 2, none⟩ (.int .i64 (lx.marks : Int)) = z := ⟨_, rfl⟩;have hsn := SS.of (x := w2) HGK.o (by rw [← hwn]; exact HK1.o.setM lx.marks) (by rw [← hwn]; exact Tn.set ((Tn.later HLW.o).tr (HT1.o.mono fun b _ hb => hb.imp id .inl)) (.inl rfl) _ _) (fun b hb => by
  rcases hb with hb | hb
  ·rcases HG1.o b hb with h | h
   ·exact .inl (.inl h)
   ·exact .inr (Nat.le_trans HLW.o.size h)
  ·exact .inl (.inr hb))
 obtain ⟨G2, hsn⟩ := hsn;have HS2' := zh (HSb.o.trans hsn);clear HBk hsn hbel hbcell l0 l1 l2;have hs := HS2'.o;obtain ⟨L2, hL⟩ : ∃ z, z = L ++ unm (m - lx.marks) c.line := ⟨_, rfl⟩;rw [← hL] at hs;have HL2 := zh (show L2 = L ++ (unm (m - lx.marks) c.line) by rw [hL]; try simp [Zg]);have HN2 := zh (show L2.length = L.length + (m - lx.marks) by rw [hL]; simp [unm]);have HS2 := zh hs;clear hs hL;clear c0 c1 c2 c3 c4 c5 fc0;have HBk := zh (HS2.o.tn.has HB.o hNP);obtain ⟨c0, c1, c2, c3, c4, c5⟩ := cz6 HBk.o;have fc0 := fz HBk.o;clear HBk;obtain ⟨kb3, ko3, Bk3, q3, eA, hca, HE3, hlen3⟩ := HP.o.sub (i := 0) (m1 := lx.marks) (lp1 := none) (w1 := w2) (MB1 := MB) (G1 := G2) (e1 := [].length + ((stL (some lx) ls ex)).length + ((stB (some lx) bs)).length) (l1 := L2.length) (by omega) (Nat.le_trans HLb.o.size HS2.o.tn.size) (HS2.o.keeps' HLb.o HP.o.fr) (HS2.o.off HLb.o HP.o.fr HP.o.flt) (by rw [HO.o]; simp [Zm]) (by omega) (fun x hx => by simp at hx) (by have := HP.o.exb; have := Zq c; simp [stL, stB]; omega) (by have := HN2.o; omega);cases eA;have d0 := hca.c0;have d1 := hca.c1;have d2 := hca.c2;have d3 := hca.c3;have d4 := hca.c4;have d5 := hca.c5;simp only [Nat.zero_mul, Nat.add_zero, Nat.reduceMul, Nat.add_assoc, Nat.reduceAdd] at d0 d1 d2 d3 d4 d5;clear hca;go_wp2_with fail;refine (IH _ rfl w2 MB G2 L2 none (stL (some lx) ls ex) (stB (some lx) bs) [] F (c.kid 0) Bk3 q3 (lx.marks) B (zh HS2.o.here) HE3).mono ?_;rintro e w3 ⟨rfl, G3, hs⟩;replace hs := HS2.o.trans hs;rw [HN2.o] at hs
 have hq3 := hlen3 (L.length + (m - lx.marks));clear hlen3 d0 d1 d2 d3 d4 d5;obtain ⟨r3, hr⟩ : ∃ z, z = cg (n + 1) (c.kid 0) (lx.marks) (none) (L.length + (m - lx.marks)) := ⟨_, rfl⟩;rw [← hr] at hs hq3;have HR3 := zh hr;have hxl3 : r3.2.length ≤ Z0 (c.kid 0) := by rw [hr]; exact Z1 _ _ _ _ _ HE3.o.ok
 clear hr;clear c0 c1 c2 c3 c4 c5 fc0;clear b0 fb0 hwn HSK HGK;obtain ⟨L3, hL⟩ : ∃ z, z = L2 ++ r3.1 := ⟨_, rfl⟩;rw [← hL] at hs;have HL3 := zh (show L3 = L ++ (unm (m - lx.marks) c.line ++ (r3.1)) by rw [hL, HL2.o]; try simp [Zg]);have HN3 := zh (show L3.length = L.length + (m - lx.marks) + r3.1.length by have := HN2.o; rw [hL]; simp; try omega);have HS3 := zh hs;clear hs hL;clear e0;have HBk := zh (HS3.o.tn.has HB.o hNP);obtain ⟨c0, c1, c2, c3, c4, c5⟩ := cz6 HBk.o;have fc0 := fz HBk.o;clear HBk;go_wp2_with fail;refine (Z8 MB G3 L3 _ _ _ 15 0 c.line w3 HS3.o.here (by unfold Zi; omega) (by unfold Zi; omega) hn3 (by have := HN3.o; omega)).mono ?_;rintro e w4 ⟨rfl, G4, hs⟩;replace hs := HS3.o.trans hs;clear c0 c1 c2 c3 c4 c5 fc0;obtain ⟨L4, hL⟩ : ∃ z, z = L3 ++ [Zg 15 0 c.line] := ⟨_, rfl⟩;rw [← hL] at hs;have HL4 := zh (show L4 = L ++ (unm (m - lx.marks) c.line ++ (r3.1 ++ ([Zg 15 0 c.line]))) by rw [hL, HL3.o]; try simp [Zg]);have HN4 := zh (show L4.length = L.length + (m - lx.marks) + r3.1.length + 1 by have := HN3.o; rw [hL]; simp; try omega);have HS4 := zh hs;clear hs hL;have hs : SS wb w4 MB G G4 L4 (ls ++ [⟨lx.every, lx.begin_, ex.map Int.ofNat⟩]) lx.marks (bs ++ [(lx.marks : Int)]) := HS4.o;obtain ⟨xs, hxs⟩ : ∃ z, z = ex.map Int.ofNat := ⟨_, rfl⟩;have HXL := zh (show xs.length = ex.length by rw [hxs]; simp);rw [← hxs] at hs;have HXS := zh hxs;clear hxs;have HSQ := zh hs;obtain ⟨Gd, Gm, Gn, dv, mv, nv, hs, hG⟩ := hs.st;have HSD := zh hs;have HGD := zh hG
 obtain ⟨lb4, lc4, F4, vo4, el, hlc4, hlm4, hlb4, -, -, k2, hlfr4, -, hro4, hF4, hlbM4, hput4⟩ := hs.broke;subst el;obtain ⟨Ao, co, rfl, hoc, hom, -⟩ := id hro4;have k2' : w4.cell? ⟨lb4, ls.length * 3 + 2, none⟩ = some (.slice Ao xs.length co) := k2;have hex4 : xs.length ≤ 300000 := by have := HP.o.exb; have := HXL.o; omega
 have hzl : L3.length ≤ 134217728 := by have := HN3.o; omega
 have hMF : ¬ F4 MB := fun h => hs.nM.2.1 (hF4 _ h).1;have hLF : ¬ F4 lb4 := fun h => (hF4 _ h).2 rfl;have HPUT := zh hput4;have HRO4 := zh hro4;have HFR4 := zh hlfr4;obtain ⟨iI, hiI, hz0, hz1, hz2⟩ := info_parts Zsv;clear hs hG k2 hput4 hro4 hF4 hlfr4;go_upto_region 14 with (fail);refine Zhe [18] [] (fun z => z.heap[MB]? = some (.cells #[dv, .slice (some ⟨lb4, 0, none⟩) (ls.length + 1) lc4, .int .i64 (lx.marks : Nat), nv] TSt (0, 0)) ∧ z.cell? ⟨lb4, ls.length * 3 + 2, none⟩ = some (.slice Ao xs.length co)) (by kernel_rfl) (fun W4 hW4 => ?_);have hlW : Za w4 W4 := by rw [hW4]; exact (Za.refl _).drew
 clear hW4;have HLW4 := zh hlW;have HSS := zh (show W4.heap[MB]? = some (.cells #[dv, .slice (some ⟨lb4, 0, none⟩) (ls.length + 1) lc4, .int .i64 (lx.marks : Nat), nv] TSt (0, 0)) ∧ W4.cell? ⟨lb4, ls.length * 3 + 2, none⟩ = some (.slice Ao xs.length co) from ⟨(hlW.block _ (Zc HSD.o.blk)).trans HSD.o.blk, (hlW.cell ⟨lb4, ls.length * 3 + 2, none⟩ hlb4).trans k2'⟩);have HROW4 := zh (HRO4.o.keep Zap.is (fun _ h => h) (Zb.later hlW));have hlb5 : lb4 < W4.heap.size := Nat.lt_of_lt_of_le hlb4 hlW.size;clear hlW k2';refine tV 0 99 (v := ?_) rfl rfl HSS.o (fun x hx => ?_) ?_;rotate_left
 ·go_simp;first|done|with_reducible rfl
 simp only [Act.put, nA, nB, nC];refine tV 1 100 (v := ?_) rfl rfl HSS.o (fun x hx => ?_) ?_;rotate_left
 ·go_simp;first|done|with_reducible rfl
 simp only [Act.put, nA, nB, nC];refine tV 2 101 (v := ?_) rfl rfl HSS.o (fun x hx => ?_) ?_;rotate_left
 ·go_simp;first|done|with_reducible rfl
 simp only [Act.put, nA, nB, nC];refine tV 3 102 (v := ?_) rfl rfl HSS.o (fun x hx => ?_) ?_;rotate_left
 ·obtain ⟨hx1, hx2⟩ := hx; have b0 := cz4 hx1; have fb0 := fz hx1; go_simp; first|done|with_reducible rfl
 simp only [Act.put, nA, nB, nC];refine tV 4 103 (v := ?_) rfl rfl HSS.o (fun x hx => ?_) ?_;rotate_left
 ·go_simp;first|done|with_reducible rfl
 simp only [Act.put, nA, nB, nC];refine tV 5 104 (v := ?_) rfl rfl HSS.o (fun x hx => ?_) ?_;rotate_left
 ·go_simp;first|done|with_reducible rfl
 simp only [Act.put, nA, nB, nC];refine tV 6 105 (v := ?_) rfl rfl HSS.o (fun x hx => ?_) ?_;rotate_left
 ·go_simp;first|done|with_reducible rfl
 simp only [Act.put, nA, nB, nC];refine tV 7 106 (v := ?_) rfl rfl HSS.o (fun x hx => ?_) ?_;rotate_left
 ·go_simp;first|done|with_reducible rfl
 simp only [Act.put, nA, nB, nC];refine tV 8 107 (v := ?_) rfl rfl HSS.o (fun x hx => ?_) ?_;rotate_left
 ·obtain ⟨hx1, hx2⟩ := hx; have b0 := cz4 hx1; have fb0 := fz hx1; go_simp; first|done|with_reducible rfl
 simp only [Act.put, nA, nB, nC];refine tV 9 108 (v := ?_) rfl rfl HSS.o (fun x hx => ?_) ?_;rotate_left
 ·go_simp;first|done|with_reducible rfl
 simp only [Act.put, nA, nB, nC];refine tV 10 109 (v := ?_) rfl rfl HSS.o (fun x hx => ?_) ?_;rotate_left
 ·go_simp;first|done|with_reducible rfl|rw[if_neg (by omega)]|rw[if_pos (by omega)]
 simp only [Act.put, nA, nB, nC];refine tV 11 110 (v := ?_) rfl rfl HSS.o (fun x hx => ?_) ?_;rotate_left
 ·go_simp;first|done|with_reducible rfl
 simp only [Act.put, nA, nB, nC];refine tV 12 111 (v := ?_) rfl rfl HSS.o (fun x hx => ?_) ?_;rotate_left
 ·obtain ⟨hx1, hx2⟩ := hx; have b0 := cz4 hx1; have fb0 := fz hx1; go_simp; first|done|with_reducible rfl
 simp only [Act.put, nA, nB, nC];refine tV 13 112 (v := ?_) rfl rfl HSS.o (fun x hx => ?_) ?_;rotate_left
 ·go_simp;first|done|with_reducible rfl
 simp only [Act.put, nA, nB, nC];refine Zf7 14 (by kernel_rfl) rfl rfl ?_;have hX : Za W4 (W4.alloc (.cells #[.int .i64 ((L3.length : Nat) : Int)] Zco)) := (Za.refl _).alloc _;have HX := zh hX;have HROW := zh (HROW4.o.keep Zap.is (fun _ h => h) (Zb.later hX));have HEL := zh (show Zc1 (fun _ => False) (W4.alloc (.cells #[.int .i64 ((L3.length : Nat) : Int)] Zco)) ((L3.length : Nat) : Int) [.int .i64 ((L3.length : Nat) : Int)] from ⟨rfl, by unfold Zi; omega⟩);have HNO : Hd (∀ y, (fun _ : Nat => False) y → ¬ F4 y) := zh (fun _ h => h.elim);have HSS := zh (show (W4.alloc (.cells #[.int .i64 ((L3.length : Nat) : Int)] Zco)).heap[MB]? = some (.cells #[dv, .slice (some ⟨lb4, 0, none⟩) (ls.length + 1) lc4, .int .i64 (lx.marks : Nat), nv] TSt (0, 0)) ∧ (W4.alloc (.cells #[.int .i64 ((L3.length : Nat) : Int)] Zco)).cell? ⟨lb4, ls.length * 3 + 2, none⟩ = some (.slice Ao xs.length co) from ⟨(hX.block _ (Zc HSS.o.1)).trans HSS.o.1, (hX.cell ⟨lb4, ls.length * 3 + 2, none⟩ hlb5).trans HSS.o.2⟩);clear hX;go_wp2_with fail;refine ⟨HSS.o, ?_⟩;refine Zf7 15 (by kernel_rfl) rfl rfl ?_
 try simp only [List.getElem_toArray, List.getElem_cons_succ, List.getElem_cons_zero]
 go_wp2_with (at_builtin; refine Zbd Zap rfl _ _ 63 rfl Zco iI (.int .i64 0) 8 Tryz.underlying63 hiI hz0 hz1 hz2 rfl rfl HROW.o ⟨W4.heap.size, 0, none⟩ 1 rfl ((L3.length : Nat) : Int) [.int .i64 ((L3.length : Nat) : Int)] (Zgi W4 [.int .i64 ((L3.length : Nat) : Int)] Zco) (by intro u hu; simp at hu; rcases hu with rfl; rfl) HEL.o HNO.o (by omega) (by decide) ?_; intro v2 Y hrow hkp hb0; obtain ⟨A2, c2, hv2, -⟩ := id hrow; rw [show (xs ++ [((L3.length : Nat) : Int)]).length = xs.length + 1 by simp] at hv2; subst hv2; have hYl := hkp.same lb4 hLF (Nat.lt_of_lt_of_le hlb5 HX.o.size); have hYc : Y.cell? ⟨lb4, ls.length * 3 + 2, none⟩ = some (.slice Ao xs.length co) := (by have := HSS.o.2; unfold World.cell? at this ⊢; rw [hYl]; exact this); have hYf : Y.frozen? ⟨lb4, ls.length * 3 + 2, none⟩ = false := (by have := HFR4.o (ls.length * 3 + 2); unfold World.frozen? at this ⊢; rw [hYl, HX.o.block lb4 hlb5, HLW4.o.block lb4 hlb4]; exact this); have HSS := zh (show Y.heap[MB]? = some (.cells #[dv, .slice (some ⟨lb4, 0, none⟩) (ls.length + 1) lc4, .int .i64 (lx.marks : Nat), nv] TSt (0, 0)) ∧ Y.cell? ⟨lb4, ls.length * 3 + 2, none⟩ = some (.slice Ao xs.length co) from ⟨(hkp.same MB hMF (Zc HSS.o.1)).trans HSS.o.1, hYc⟩); have HFY := zh hYf; have HPT := zh (HPUT.o _ Y _ _ (HLW4.o.trans HX.o) hrow hkp hb0); clear hrow hkp hb0 hYl hYc hYf)
 refine ⟨HSS.o, ?_⟩;refine tV 16 115 (v := ?_) rfl rfl HSS.o (fun x hx => ?_) ?_;rotate_left
 ·go_simp;first|done|with_reducible rfl|rw[if_neg (by omega)]|rw[if_pos (by omega)]
 simp only [Act.put, nA, nB, nC];refine tV 17 116 (v := ?_) rfl rfl HSS.o (fun x hx => ?_) ?_;rotate_left
 ·go_simp;first|done|with_reducible rfl
 simp only [Act.put, nA, nB, nC];refine Zij [_] (by kernel_rfl) rfl rfl ?_;simp only [List.getElem_toArray, List.getElem_cons_succ, List.getElem_cons_zero];have hYc := HSS.o.2;have hYf := HFY.o;obtain ⟨hp1, hp2⟩ := HPT.o;obtain ⟨w5, hw5⟩ : ∃ z, Y.setCell ⟨lb4, ls.length * 3 + 2, none⟩ (.slice A2 (xs.length + 1) c2) = z := ⟨_, rfl⟩;rw [hw5] at hp1 hp2;have HP5 := zh hp1;have HT5 := zh hp2;have b0 := cz4 hp1.blk;have fb0 := fz hp1.blk;have hYs : w4.heap.size ≤ (W4.alloc (.cells #[.int .i64 ((L3.length : Nat) : Int)] Zco)).heap.size := Nat.le_trans HLW4.o.size HX.o.size;obtain ⟨G6, hs6⟩ := SS.of (x := w5.setCell ⟨MB, 2, none⟩ (.int .i64 (m : Int))) HGD.o (hp1.setM m) (Tn.set hp2 (.inl rfl) _ _) (fun b hb => by
  rcases hb with hb | (hb | ⟨hb, -⟩) | hb
  ·exact .inl (.inl hb)
  ·exact .inl (.inr (.inl hb))
  ·exact .inr (by omega)
  ·exact .inl (.inr (.inr hb)))
 have HS6 := zh (HSQ.o.trans hs6);clear hp1 hp2 hs6;go_wp2_with fail
 go_end0
 refine ⟨rfl, G6, ?_⟩;show SS w _ MB G G6 (L ++ (Zk (cg (n + 1)) c m (some lx) L.length).1) (ls ++ [⟨lx.every, lx.begin_, (ex ++ (Zk (cg (n + 1)) c m (some lx) L.length).2).map Int.ofNat⟩]) m (bs ++ [(lx.marks : Int)]);rw [Zen HO.o];simp only [← HR3.o];refine ((HS.o.here.later HLb.o).trans HS6.o).cast (by rw [HL4.o]; try simp) ?_;rw [HXS.o, HN3.o];simp
theorem Zsw (n : Nat) (IH : ∀ n', n = n' + 1 → Zci n') (w : World) (MB : Nat) (G : Nat → Prop) (L : List Ze) (lp : Option Zr) (ls : List Zak) (bs : List Int) (ex : List Nat) (F : Nat → Prop) (c : Zd) (A : Option Addr) (k m B : Nat) (HS : Hd (SS w w MB G G L (stL lp ls ex) m (stB lp bs))) (HP : Hd (CxP n w MB G L.length lp (ex.length + ls.length + bs.length) F c A k m B)) (ho : c.kind = 20) :
  Calls Tryz.prog 71 #[.pointer (some ⟨MB, 0, none⟩), c.val A k] w (Zb5 n w MB G L lp ls bs ex c m) := by
 have HO := zh ho;unfold Zd.val;have hlwb : Za w (w.alloc (.cells #[.int .i64 c.kind, .int .i64 c.op, .int .i64 c.aB, .int .i64 c.line, .string c.text, .slice A c.kids.length k] 68)) := (Za.refl _).alloc _;obtain ⟨wb, hwb⟩ : ∃ z, w.alloc (.cells #[.int .i64 c.kind, .int .i64 c.op, .int .i64 c.aB, .int .i64 c.line, .string c.text, .slice A c.kids.length k] 68) = z := ⟨_, rfl⟩;rw [hwb] at hlwb;have HB := zh (show wb.heap[w.heap.size]? = some (.cells #[.int .i64 c.kind, .int .i64 c.op, .int .i64 c.aB, .int .i64 c.line, .string c.text, .slice A c.kids.length k] 68 (0, 0)) by rw [← hwb]; exact heap_alloc_new _ _);have hNP : ¬ (w.heap.size = MB ∨ G w.heap.size) := by
  obtain ⟨_, _, _, _, _, _, hs, -⟩ := HS.o.st;rintro (h | h)
  ·have := HS.o.below; omega
  ·have := HS.o.lt _ h; omega
 have HSb := zh ((HS.o.later hlwb).here);have HLb := zh hlwb;have hn3 := HP.o.cv.n3;have hmb := HP.o.mb;have hlb := HP.o.lb;have hbB := HP.o.bB;have hmul : Z0 c * B = Zx c.kids * B + B := by rw [Zq c, Nat.add_mul, Nat.one_mul]
 have tm1 : IntKind.i64.wrap ((m : Int) + 1) = ((m + 1 : Nat) : Int) := by rw [IntWalk.i64_in _ (by omega)]; rfl
 have tm0 : IntKind.i64.wrap (m : Int) = (m : Int) := IntWalk.i64_in _ (by omega);obtain ⟨c0, c1, c2, c3, c4, c5⟩ := cz6 HB.o;have fc0 := fz HB.o;rw [ho] at c0;clear ho;have HVV := zh (show (Value.agg #[.int .i64 20, .int .i64 c.op, .int .i64 c.aB, .int .i64 c.line, .string c.text, .slice A c.kids.length k]) = c.val A k by unfold Zd.val; rw [HO.o]);go_enter Tryz.func71, Tryz.ntmps71;go_wp2_with fail;rw [HVV.o];refine (Zqo n IH wb MB G L lp ls bs ex F c A k m B (zh HSb.o) (zh (CxP.move HP.o (Zb.later HLb.o) HLb.o.size (HSb.o.off HLb.o HP.o.fr HP.o.flt))) HO.o).mono ?_;rintro e w1 ⟨rfl, G1, hs⟩;have HS1 := zh ((HS.o.here.later HLb.o).trans hs);clear hs;go_wp2_with fail
 go_end0
 exact ⟨rfl, G1, HS1.o⟩
theorem Zqp (n : Nat) (IH : ∀ n', n = n' + 1 → Zci n') (w : World) (MB : Nat) (G : Nat → Prop) (L : List Ze) (lp : Option Zr) (ls : List Zak) (bs : List Int) (ex : List Nat) (F : Nat → Prop) (c : Zd) (A : Option Addr) (k m B : Nat) (HS : Hd (SS w w MB G G L (stL lp ls ex) m (stB lp bs))) (HP : Hd (CxP n w MB G L.length lp (ex.length + ls.length + bs.length) F c A k m B)) (ho : c.kind = 21) :
  Calls Tryz.prog 129 #[.pointer (some ⟨MB, 0, none⟩), c.val A k] w (Zb5 n w MB G L lp ls bs ex c m) := by
 have HO := zh ho;unfold Zd.val;have hlwb : Za w (w.alloc (.cells #[.int .i64 c.kind, .int .i64 c.op, .int .i64 c.aB, .int .i64 c.line, .string c.text, .slice A c.kids.length k] 68)) := (Za.refl _).alloc _;obtain ⟨wb, hwb⟩ : ∃ z, w.alloc (.cells #[.int .i64 c.kind, .int .i64 c.op, .int .i64 c.aB, .int .i64 c.line, .string c.text, .slice A c.kids.length k] 68) = z := ⟨_, rfl⟩;rw [hwb] at hlwb;have HB := zh (show wb.heap[w.heap.size]? = some (.cells #[.int .i64 c.kind, .int .i64 c.op, .int .i64 c.aB, .int .i64 c.line, .string c.text, .slice A c.kids.length k] 68 (0, 0)) by rw [← hwb]; exact heap_alloc_new _ _);have hNP : ¬ (w.heap.size = MB ∨ G w.heap.size) := by
  obtain ⟨_, _, _, _, _, _, hs, -⟩ := HS.o.st;rintro (h | h)
  ·have := HS.o.below; omega
  ·have := HS.o.lt _ h; omega
 have HSb := zh ((HS.o.later hlwb).here);have HLb := zh hlwb;have hn3 := HP.o.cv.n3;have hmb := HP.o.mb;have hlb := HP.o.lb;have hbB := HP.o.bB;have hmul : Z0 c * B = Zx c.kids * B + B := by rw [Zq c, Nat.add_mul, Nat.one_mul]
 have tm1 : IntKind.i64.wrap ((m : Int) + 1) = ((m + 1 : Nat) : Int) := by rw [IntWalk.i64_in _ (by omega)]; rfl
 have tm0 : IntKind.i64.wrap (m : Int) = (m : Int) := IntWalk.i64_in _ (by omega);obtain ⟨c0, c1, c2, c3, c4, c5⟩ := cz6 HB.o;have fc0 := fz HB.o;rw [ho] at c0;clear ho;obtain ⟨lx, rfl⟩ := Option.isSome_iff_exists.1 (HP.o.ok.2.2.1 (.inr HO.o));have hxm := HP.o.lm lx rfl;obtain ⟨Gc, Gl, Gb, cv, lv, bv, hs, hG⟩ := HSb.o.st;have HSK := zh hs;have HGK := zh hG;have b0 := cz4 hs.blk;have fb0 := fz hs.blk;clear hs hG;obtain ⟨Ac, cc, rfl, -⟩ := id HSK.o.code;have hs := HSK.o;obtain ⟨lb, lc, Fi, vo, el, hlc, hlm, hlbw, l0, l1, l2, hlfr, h64s, hro, hFi, hlbM, -⟩ := SpK.broke (ls := ls) (a := ⟨lx.every, lx.begin_, ex.map Int.ofNat⟩) hs;obtain ⟨Ab, cb, eb, hbc, hbm, hbel⟩ := (show Zah Zc1 1 Zco Gb wb (bs ++ [(lx.marks : Int)]) bv from hs.base).el Zap;simp only [List.length_append, List.length_singleton] at eb hbc;subst el eb;obtain ⟨bb, bo, cs, rfl, -, hbb, ⟨rfl, -⟩, hbcell⟩ := hbel bs.length (by simp);have e0 := hbcell 0 _ rfl;simp only [Nat.mul_one, Nat.add_zero] at e0;rw [show (bs ++ [(lx.marks : Int)])[bs.length]'(by simp) = (lx.marks : Int) by simp] at e0;have hlsl : ls.length + bs.length ≤ 300000 := by have := HP.o.exb; omega
 have tln : IntKind.i64.wrap (((ls.length + 1 : Nat) : Int) - 1) = (ls.length : Int) := by rw [IntWalk.i64_in _ (by omega)]; omega
 have tln0 : IntKind.i64.wrap (ls.length : Int) = (ls.length : Int) := IntWalk.i64_in _ (by omega);have tbn0 : IntKind.i64.wrap (bs.length : Int) = (bs.length : Int) := IntWalk.i64_in _ (by omega);have tbn : IntKind.i64.wrap (((bs.length + 1 : Nat) : Int) - 1) = (bs.length : Int) := by rw [IntWalk.i64_in _ (by omega)]; omega
 have hnl : (ls.length : Int) < ((ls.length + 1 : Nat) : Int) := by omega
 have hnb : (bs.length : Int) < ((bs.length + 1 : Nat) : Int) := by omega
 have tmx : IntKind.i64.wrap ((lx.marks : Int) + 1) = ((lx.marks + 1 : Nat) : Int) := by rw [IntWalk.i64_in _ (by omega)]; rfl
 have HRO := zh hro;have HFI := zh hFi;clear hs hro hFi hbel hbcell hlfr;obtain ⟨en, hen⟩ : ∃ e, lx.every = e := ⟨_, rfl⟩;rw [hen] at l0;have HEN := zh hen;clear hen
 cases en with
 | true =>
  go_enter Tryz.func129, Tryz.ntmps129;have HCB := zh HB.o;have HEB := zh (And.intro hbb e0);go_upto_region 6 with (fail);refine Z3 [10] [] (by kernel_rfl) (fun W1 hW1 => ?_);have hlW : Za wb W1 := by rw [hW1]; exact (Za.refl _).drew
  clear hW1 c0 c1 c2 c3 c4 c5 fc0 e0;have HCW := zC hlW HCB;have HEW := zh (And.intro (Nat.lt_of_lt_of_le HEB.o.1 hlW.size) ((hlW.cell ⟨bb, bo + bs.length, none⟩ HEB.o.1).trans HEB.o.2));have HLW := zh hlW;have HKW := zh (HSK.o.later hlW);clear hlW;refine tU 0 33 (v := ?_) rfl rfl (fun x hx => ?_) ?_;rotate_left
  ·go_simp;first|done|with_reducible rfl
  simp only [Act.put, nA, nB, nC];refine tU 1 34 (v := ?_) rfl rfl (fun x hx => ?_) ?_;rotate_left
  ·go_simp;first|done|with_reducible rfl
  simp only [Act.put, nA, nB, nC];refine tU 2 35 (v := ?_) rfl rfl (fun x hx => ?_) ?_;rotate_left
  ·go_simp;first|done|with_reducible rfl
  simp only [Act.put, nA, nB, nC];refine tU 3 36 (v := ?_) rfl rfl (fun x hx => ?_) ?_;rotate_left
  ·go_simp;first|done|with_reducible rfl
  simp only [Act.put, nA, nB, nC];refine tU 4 37 (v := ?_) rfl rfl (fun x hx => ?_) ?_;rotate_left
  ·go_simp;first|done|with_reducible rfl
  simp only [Act.put, nA, nB, nC];refine tU 5 38 (v := ?_) rfl rfl (fun x hx => ?_) ?_;rotate_left
  ·go_simp;first|done|with_reducible rfl|rw[if_neg (by omega)]|rw[if_pos (by omega)]
  simp only [Act.put, nA, nB, nC];refine tU 6 39 (v := ?_) rfl rfl (fun x hx => ?_) ?_;rotate_left
  ·have hxc := (hx.block _ (Zc HCW.o)).trans HCW.o; obtain ⟨c0, c1, c2, c3, c4, c5⟩ := cz6 hxc; have fc0 := fz hxc; have e0 := (hx.cell ⟨bb, bo + bs.length, none⟩ HEW.o.1).trans HEW.o.2; go_simp; first|done|with_reducible rfl
  simp only [Act.put, nA, nB, nC];refine tU 7 40 (v := ?_) rfl rfl (fun x hx => ?_) ?_;rotate_left
  ·go_simp;first|done|with_reducible rfl
  simp only [Act.put, nA, nB, nC];refine tU 8 41 (v := ?_) rfl rfl (fun x hx => ?_) ?_;rotate_left
  ·go_simp;first|done|with_reducible rfl
  simp only [Act.put, nA, nB, nC];refine tU 9 42 (v := ?_) rfl rfl (fun x hx => ?_) ?_;rotate_left
  ·have hxc := (hx.block _ (Zc HCW.o)).trans HCW.o; obtain ⟨c0, c1, c2, c3, c4, c5⟩ := cz6 hxc; have fc0 := fz hxc; have e0 := (hx.cell ⟨bb, bo + bs.length, none⟩ HEW.o.1).trans HEW.o.2; go_simp; first|done|with_reducible rfl
  simp only [Act.put, nA, nB, nC];refine Zag [_] (by kernel_rfl) rfl rfl ?_;simp only [List.getElem_toArray, List.getElem_cons_succ, List.getElem_cons_zero];go_wp2_with fail;refine (Zg4 MB Gc Gl Gb L _ m _ _ _ _ (lx.marks + 1) c.line W1 HKW.o (by omega) (by omega) hn3 (by omega)).mono ?_;rintro e w1 ⟨rfl, Gc1, cv1, hs1, hg1, ht1⟩;obtain ⟨Ac1, cc1, rfl, -⟩ := id hs1.code;have HK1 := zh hs1;have HG1 := zh hg1;have HT1 := zh ht1;have hW1 := HT1.o.size;obtain ⟨G1, hss⟩ := hs1.ss HGK.o hg1 ht1;have HS1 := zh ((HSb.o.later HLW.o).trans hss);clear hs1 hg1 ht1 hss b0 fb0;have HBk := zh (HS1.o.tn.has HB.o hNP);obtain ⟨c0, c1, c2, c3, c4, c5⟩ := cz6 HBk.o;have fc0 := fz HBk.o;clear HBk l0 l1 l2;go_wp2_with fail;refine (Z8 MB G1 _ _ _ _ 16 0 c.line w1 HS1.o.here (by unfold Zi; omega) (by unfold Zi; omega) hn3 (by simp [unm]; omega)).mono ?_;rintro e w2 ⟨rfl, G2, hs⟩;have HS2 := zh ((HS.o.here.later HLb.o).trans (HS1.o.trans hs));clear hs;go_wp2_with fail
  first | go_end0 | (refine bodyPost_ret (results_none rfl _ _ _) rfl ?_)
  refine ⟨rfl, G2, ?_⟩;show SS w w2 MB G G2 (L ++ (Zk (cg n) c m (some lx) L.length).1) (stL (some lx) ls (ex ++ (Zk (cg n) c m (some lx) L.length).2)) m (stB (some lx) bs);rw [Zdv HO.o];simp only;rw [if_pos HEN.o];exact HS2.o.cast (by rw [show m - lx.marks - 1 = m - (lx.marks + 1) by omega]; simp) (by simp)
 | false =>
  go_enter Tryz.func129, Tryz.ntmps129;have HCB := zh HB.o;have HEB := zh (And.intro hbb e0);go_upto_region 8 with (fail);refine Z3 [9] [] (by kernel_rfl) (fun W1 hW1 => ?_);have hlW : Za wb W1 := by rw [hW1]; exact (Za.refl _).drew
  clear hW1 c0 c1 c2 c3 c4 c5 fc0 e0;have HCW := zC hlW HCB;have HEW := zh (And.intro (Nat.lt_of_lt_of_le HEB.o.1 hlW.size) ((hlW.cell ⟨bb, bo + bs.length, none⟩ HEB.o.1).trans HEB.o.2));have HLW := zh hlW;have HKW := zh (HSK.o.later hlW);clear hlW;refine tU 0 48 (v := ?_) rfl rfl (fun x hx => ?_) ?_;rotate_left
  ·go_simp;first|done|with_reducible rfl
  simp only [Act.put, nA, nB, nC];refine tU 1 49 (v := ?_) rfl rfl (fun x hx => ?_) ?_;rotate_left
  ·go_simp;first|done|with_reducible rfl
  simp only [Act.put, nA, nB, nC];refine tU 2 50 (v := ?_) rfl rfl (fun x hx => ?_) ?_;rotate_left
  ·go_simp;first|done|with_reducible rfl
  simp only [Act.put, nA, nB, nC];refine tU 3 51 (v := ?_) rfl rfl (fun x hx => ?_) ?_;rotate_left
  ·go_simp;first|done|with_reducible rfl
  simp only [Act.put, nA, nB, nC];refine tU 4 52 (v := ?_) rfl rfl (fun x hx => ?_) ?_;rotate_left
  ·go_simp;first|done|with_reducible rfl
  simp only [Act.put, nA, nB, nC];refine tU 5 53 (v := ?_) rfl rfl (fun x hx => ?_) ?_;rotate_left
  ·go_simp;first|done|with_reducible rfl|rw[if_neg (by omega)]|rw[if_pos (by omega)]
  simp only [Act.put, nA, nB, nC];refine tU 6 54 (v := ?_) rfl rfl (fun x hx => ?_) ?_;rotate_left
  ·have hxc := (hx.block _ (Zc HCW.o)).trans HCW.o; obtain ⟨c0, c1, c2, c3, c4, c5⟩ := cz6 hxc; have fc0 := fz hxc; have e0 := (hx.cell ⟨bb, bo + bs.length, none⟩ HEW.o.1).trans HEW.o.2; go_simp; first|done|with_reducible rfl
  simp only [Act.put, nA, nB, nC];refine tU 7 55 (v := ?_) rfl rfl (fun x hx => ?_) ?_;rotate_left
  ·go_simp;first|done|with_reducible rfl
  simp only [Act.put, nA, nB, nC];refine tU 8 56 (v := ?_) rfl rfl (fun x hx => ?_) ?_;rotate_left
  ·have hxc := (hx.block _ (Zc HCW.o)).trans HCW.o; obtain ⟨c0, c1, c2, c3, c4, c5⟩ := cz6 hxc; have fc0 := fz hxc; have e0 := (hx.cell ⟨bb, bo + bs.length, none⟩ HEW.o.1).trans HEW.o.2; go_simp; first|done|with_reducible rfl
  simp only [Act.put, nA, nB, nC];refine Zag [_] (by kernel_rfl) rfl rfl ?_;simp only [List.getElem_toArray, List.getElem_cons_succ, List.getElem_cons_zero];go_wp2_with fail;refine (Zg4 MB Gc Gl Gb L _ m _ _ _ _ lx.marks c.line W1 HKW.o (by omega) (by omega) hn3 (by omega)).mono ?_;rintro e w1 ⟨rfl, Gc1, cv1, hs1, hg1, ht1⟩;obtain ⟨Ac1, cc1, rfl, -⟩ := id hs1.code;have HK1 := zh hs1;have HG1 := zh hg1;have HT1 := zh ht1;have hW1 := HT1.o.size;obtain ⟨G1, hss⟩ := hs1.ss HGK.o hg1 ht1;have HS1 := zh ((HSb.o.later HLW.o).trans hss);clear hs1 hg1 ht1 hss b0 fb0;obtain ⟨lb2, lc2, Fi2, vo2, el, -, -, hlb2, -, k1, -, -, -, -, -, -, -⟩ := SpK.broke (ls := ls) (a := ⟨lx.every, lx.begin_, ex.map Int.ofNat⟩) HK1.o;cases el;have HCB1 := zh (HS1.o.tn.has HB.o hNP);have HLB1 := zh (And.intro hlb2 k1);clear l0 l1 l2 k1;go_upto_region 9 with (fail);refine Z3 [11] [] (by kernel_rfl) (fun W2 hW2 => ?_);have hlW : Za w1 W2 := by rw [hW2]; exact (Za.refl _).drew
  clear hW2;have HKV := zh (HK1.o.later hlW);have HCV := zC hlW HCB1;have HLV := zh (And.intro (Nat.lt_of_lt_of_le HLB1.o.1 hlW.size) ((hlW.cell ⟨lb, ls.length * 3 + 1, none⟩ HLB1.o.1).trans HLB1.o.2));have HSV := zh (HS1.o.later hlW);clear hlW;refine tU 0 58 (v := ?_) rfl rfl (fun x hx => ?_) ?_;rotate_left
  ·go_simp;first|done|with_reducible rfl
  simp only [Act.put, nA, nB, nC];refine tU 1 59 (v := ?_) rfl rfl (fun x hx => ?_) ?_;rotate_left
  ·go_simp;first|done|with_reducible rfl
  simp only [Act.put, nA, nB, nC];refine tU 2 60 (v := ?_) rfl rfl (fun x hx => ?_) ?_;rotate_left
  ·go_simp;first|done|with_reducible rfl
  simp only [Act.put, nA, nB, nC];refine tU 3 61 (v := ?_) rfl rfl (fun x hx => ?_) ?_;rotate_left
  ·go_simp;first|done|with_reducible rfl
  simp only [Act.put, nA, nB, nC];refine tU 4 62 (v := ?_) rfl rfl (fun x hx => ?_) ?_;rotate_left
  ·have hxb := (hx.block _ (Zc HKV.o.blk)).trans HKV.o.blk; have hxc := (hx.block _ (Zc HCV.o)).trans HCV.o; have l1 := (hx.cell ⟨lb, ls.length * 3 + 1, none⟩ HLV.o.1).trans HLV.o.2; have b0 := cz4 hxb; have fb0 := fz hxb; obtain ⟨c0, c1, c2, c3, c4, c5⟩ := cz6 hxc; have fc0 := fz hxc; go_simp; first|done|with_reducible rfl
  simp only [Act.put, nA, nB, nC];refine tU 5 63 (v := ?_) rfl rfl (fun x hx => ?_) ?_;rotate_left
  ·go_simp;first|done|with_reducible rfl
  simp only [Act.put, nA, nB, nC];refine tU 6 64 (v := ?_) rfl rfl (fun x hx => ?_) ?_;rotate_left
  ·go_simp;first|done|with_reducible rfl|rw[if_neg (by omega)]|rw[if_pos (by omega)]
  simp only [Act.put, nA, nB, nC];refine tU 7 65 (v := ?_) rfl rfl (fun x hx => ?_) ?_;rotate_left
  ·go_simp;first|done|with_reducible rfl
  simp only [Act.put, nA, nB, nC];refine tU 8 66 (v := ?_) rfl rfl (fun x hx => ?_) ?_;rotate_left
  ·have hxb := (hx.block _ (Zc HKV.o.blk)).trans HKV.o.blk; have hxc := (hx.block _ (Zc HCV.o)).trans HCV.o; have l1 := (hx.cell ⟨lb, ls.length * 3 + 1, none⟩ HLV.o.1).trans HLV.o.2; have b0 := cz4 hxb; have fb0 := fz hxb; obtain ⟨c0, c1, c2, c3, c4, c5⟩ := cz6 hxc; have fc0 := fz hxc; go_simp; first|done|with_reducible rfl
  simp only [Act.put, nA, nB, nC];refine tU 9 67 (v := ?_) rfl rfl (fun x hx => ?_) ?_;rotate_left
  ·go_simp;first|done|with_reducible rfl
  simp only [Act.put, nA, nB, nC];refine tU 10 68 (v := ?_) rfl rfl (fun x hx => ?_) ?_;rotate_left
  ·have hxb := (hx.block _ (Zc HKV.o.blk)).trans HKV.o.blk; have hxc := (hx.block _ (Zc HCV.o)).trans HCV.o; have l1 := (hx.cell ⟨lb, ls.length * 3 + 1, none⟩ HLV.o.1).trans HLV.o.2; have b0 := cz4 hxb; have fb0 := fz hxb; obtain ⟨c0, c1, c2, c3, c4, c5⟩ := cz6 hxc; have fc0 := fz hxc; go_simp; first|done|with_reducible rfl
  simp only [Act.put, nA, nB, nC];refine Zag [_] (by kernel_rfl) rfl rfl ?_;simp only [List.getElem_toArray, List.getElem_cons_succ, List.getElem_cons_zero];go_wp2_with fail;refine (Z8 MB G1 _ _ _ _ 15 (lx.begin_ : Int) c.line W2 HSV.o.here (by unfold Zi; omega) h64s hn3 (by simp [unm]; omega)).mono ?_;rintro e w2 ⟨rfl, G2, hs⟩;have HS2 := zh ((HS.o.here.later HLb.o).trans (HSV.o.trans hs));clear hs;go_wp2_with fail
  first | go_end0 | (refine bodyPost_ret (results_none rfl _ _ _) rfl ?_)
  refine ⟨rfl, G2, ?_⟩;show SS w w2 MB G G2 (L ++ (Zk (cg n) c m (some lx) L.length).1) (stL (some lx) ls (ex ++ (Zk (cg n) c m (some lx) L.length).2)) m (stB (some lx) bs);rw [Zdv HO.o];simp only;rw [if_neg (by rw [HEN.o]; decide)];exact HS2.o.cast (by simp) (by simp)
theorem Zsx (n : Nat) (IH : ∀ n', n = n' + 1 → Zci n') (w : World) (MB : Nat) (G : Nat → Prop) (L : List Ze) (lp : Option Zr) (ls : List Zak) (bs : List Int) (ex : List Nat) (F : Nat → Prop) (c : Zd) (A : Option Addr) (k m B : Nat) (HS : Hd (SS w w MB G G L (stL lp ls ex) m (stB lp bs))) (HP : Hd (CxP n w MB G L.length lp (ex.length + ls.length + bs.length) F c A k m B)) (ho : c.kind = 21) :
  Calls Tryz.prog 71 #[.pointer (some ⟨MB, 0, none⟩), c.val A k] w (Zb5 n w MB G L lp ls bs ex c m) := by
 have HO := zh ho;unfold Zd.val;have hlwb : Za w (w.alloc (.cells #[.int .i64 c.kind, .int .i64 c.op, .int .i64 c.aB, .int .i64 c.line, .string c.text, .slice A c.kids.length k] 68)) := (Za.refl _).alloc _;obtain ⟨wb, hwb⟩ : ∃ z, w.alloc (.cells #[.int .i64 c.kind, .int .i64 c.op, .int .i64 c.aB, .int .i64 c.line, .string c.text, .slice A c.kids.length k] 68) = z := ⟨_, rfl⟩;rw [hwb] at hlwb;have HB := zh (show wb.heap[w.heap.size]? = some (.cells #[.int .i64 c.kind, .int .i64 c.op, .int .i64 c.aB, .int .i64 c.line, .string c.text, .slice A c.kids.length k] 68 (0, 0)) by rw [← hwb]; exact heap_alloc_new _ _);have hNP : ¬ (w.heap.size = MB ∨ G w.heap.size) := by
  obtain ⟨_, _, _, _, _, _, hs, -⟩ := HS.o.st;rintro (h | h)
  ·have := HS.o.below; omega
  ·have := HS.o.lt _ h; omega
 have HSb := zh ((HS.o.later hlwb).here);have HLb := zh hlwb;have hn3 := HP.o.cv.n3;have hmb := HP.o.mb;have hlb := HP.o.lb;have hbB := HP.o.bB;have hmul : Z0 c * B = Zx c.kids * B + B := by rw [Zq c, Nat.add_mul, Nat.one_mul]
 have tm1 : IntKind.i64.wrap ((m : Int) + 1) = ((m + 1 : Nat) : Int) := by rw [IntWalk.i64_in _ (by omega)]; rfl
 have tm0 : IntKind.i64.wrap (m : Int) = (m : Int) := IntWalk.i64_in _ (by omega);obtain ⟨c0, c1, c2, c3, c4, c5⟩ := cz6 HB.o;have fc0 := fz HB.o;rw [ho] at c0;clear ho;have HVV := zh (show (Value.agg #[.int .i64 21, .int .i64 c.op, .int .i64 c.aB, .int .i64 c.line, .string c.text, .slice A c.kids.length k]) = c.val A k by unfold Zd.val; rw [HO.o]);go_enter Tryz.func71, Tryz.ntmps71;go_wp2_with fail;rw [HVV.o];refine (Zqp n IH wb MB G L lp ls bs ex F c A k m B (zh HSb.o) (zh (CxP.move HP.o (Zb.later HLb.o) HLb.o.size (HSb.o.off HLb.o HP.o.fr HP.o.flt))) HO.o).mono ?_;rintro e w1 ⟨rfl, G1, hs⟩;have HS1 := zh ((HS.o.here.later HLb.o).trans hs);clear hs;go_wp2_with fail
 go_end0
 exact ⟨rfl, G1, HS1.o⟩
theorem Zsy (n : Nat) (IH : ∀ n', n = n' + 1 → Zci n') (w : World) (MB : Nat) (G : Nat → Prop) (L : List Ze) (lp : Option Zr) (ls : List Zak) (bs : List Int) (ex : List Nat) (F : Nat → Prop) (c : Zd) (A : Option Addr) (k m B : Nat) (HS : Hd (SS w w MB G G L (stL lp ls ex) m (stB lp bs))) (HP : Hd (CxP n w MB G L.length lp (ex.length + ls.length + bs.length) F c A k m B)) (ho : c.kind = 22) :
  Calls Tryz.prog 71 #[.pointer (some ⟨MB, 0, none⟩), c.val A k] w (Zb5 n w MB G L lp ls bs ex c m) := by
 have HO := zh ho;unfold Zd.val;have hlwb : Za w (w.alloc (.cells #[.int .i64 c.kind, .int .i64 c.op, .int .i64 c.aB, .int .i64 c.line, .string c.text, .slice A c.kids.length k] 68)) := (Za.refl _).alloc _;obtain ⟨wb, hwb⟩ : ∃ z, w.alloc (.cells #[.int .i64 c.kind, .int .i64 c.op, .int .i64 c.aB, .int .i64 c.line, .string c.text, .slice A c.kids.length k] 68) = z := ⟨_, rfl⟩;rw [hwb] at hlwb;have HB := zh (show wb.heap[w.heap.size]? = some (.cells #[.int .i64 c.kind, .int .i64 c.op, .int .i64 c.aB, .int .i64 c.line, .string c.text, .slice A c.kids.length k] 68 (0, 0)) by rw [← hwb]; exact heap_alloc_new _ _);have hNP : ¬ (w.heap.size = MB ∨ G w.heap.size) := by
  obtain ⟨_, _, _, _, _, _, hs, -⟩ := HS.o.st;rintro (h | h)
  ·have := HS.o.below; omega
  ·have := HS.o.lt _ h; omega
 have HSb := zh ((HS.o.later hlwb).here);have HLb := zh hlwb;have hn3 := HP.o.cv.n3;have hmb := HP.o.mb;have hlb := HP.o.lb;have hbB := HP.o.bB;have hmul : Z0 c * B = Zx c.kids * B + B := by rw [Zq c, Nat.add_mul, Nat.one_mul]
 have tm1 : IntKind.i64.wrap ((m : Int) + 1) = ((m + 1 : Nat) : Int) := by rw [IntWalk.i64_in _ (by omega)]; rfl
 have tm0 : IntKind.i64.wrap (m : Int) = (m : Int) := IntWalk.i64_in _ (by omega);have hkn : 2 ≤ c.kids.length := by have := HP.o.ok.2.1; rw [ho] at this; exact this
 obtain ⟨n', rfl⟩ := HP.o.cv.lev (i := 0) (by omega);obtain ⟨n, rfl⟩ : ∃ z, z = n' := ⟨_, rfl⟩;obtain ⟨kb, ko, B0, q0, rfl, -⟩ := CAt.kid HP.o.cv.kids (i := 0) (by omega);have hkn2 : (2 : Int) ≤ (c.kids.length : Int) := by omega
 have hcnt := Ze3 (c := c) hkn;have hmu := Zh2 (M := B) hcnt;obtain ⟨c0, c1, c2, c3, c4, c5⟩ := cz6 HB.o;have fc0 := fz HB.o;rw [ho] at c0;clear ho;go_enter Tryz.func71, Tryz.ntmps71;obtain ⟨kb1, ko1, Bk1, q1, eA, hca, HE1, hlen1⟩ := HP.o.sub (i := 0) (m1 := m) (lp1 := lp) (w1 := wb) (MB1 := MB) (G1 := G) (e1 := ex.length + (ls).length + (bs).length) (l1 := L.length) (by omega) (Nat.le_trans HLb.o.size HSb.o.tn.size) (HSb.o.keeps' HLb.o HP.o.fr) (HSb.o.off HLb.o HP.o.fr HP.o.flt) (by rw [HO.o]; simp [Zm]) (by omega) (fun x hx => Nat.le_trans (HP.o.lm x hx) (by omega)) (by have := HP.o.exb; have := Zq c; simp; omega) (by omega);cases eA;have d0 := hca.c0;have d1 := hca.c1;have d2 := hca.c2;have d3 := hca.c3;have d4 := hca.c4;have d5 := hca.c5;simp only [Nat.zero_mul, Nat.add_zero, Nat.reduceMul, Nat.add_assoc, Nat.reduceAdd] at d0 d1 d2 d3 d4 d5;clear hca;go_wp2_with fail;refine (IH _ rfl wb MB G L lp ls bs ex F (c.kid 0) Bk1 q1 (m) B (zh HSb.o.here) HE1).mono ?_;rintro e w1 ⟨rfl, G1, hs⟩;replace hs := HSb.o.trans hs;have hq1 := hlen1 (L.length);clear hlen1 d0 d1 d2 d3 d4 d5;obtain ⟨r1, hr⟩ : ∃ z, z = cg (n + 1) (c.kid 0) (m) (lp) (L.length) := ⟨_, rfl⟩;rw [← hr] at hs hq1;have HR1 := zh hr;have hxl1 : r1.2.length ≤ Z0 (c.kid 0) := by rw [hr]; exact Z1 _ _ _ _ _ HE1.o.ok
 clear hr;clear c0 c1 c2 c3 c4 c5 fc0;obtain ⟨x1, hx⟩ : ∃ z, z = ex ++ r1.2 := ⟨_, rfl⟩;rw [← hx] at hs;have HX1 := zh (show x1 = ex ++ (r1.2) by rw [hx]; try simp);have hxx1 : x1.length = ex.length + r1.2.length := by rw [hx]; simp
 clear hx;obtain ⟨L1, hL⟩ : ∃ z, z = L ++ r1.1 := ⟨_, rfl⟩;rw [← hL] at hs;have HL1 := zh (show L1 = L ++ (r1.1) by rw [hL]; try simp [Zg]);have HN1 := zh (show L1.length = L.length + r1.1.length by rw [hL]; simp; try omega);have HS1 := zh hs;clear hs hL;have HBk := zh (HS1.o.tn.has HB.o hNP);obtain ⟨c0, c1, c2, c3, c4, c5⟩ := cz6 HBk.o;have fc0 := fz HBk.o;clear HBk;go_wp2_with fail;refine (Z8 MB G1 L1 _ _ _ 22 0 c.line w1 HS1.o.here (by unfold Zi; omega) (by unfold Zi; omega) hn3 (by have := HN1.o; omega)).mono ?_;rintro e w2 ⟨rfl, G2, hs⟩;replace hs := HS1.o.trans hs;clear c0 c1 c2 c3 c4 c5 fc0;obtain ⟨L2, hL⟩ : ∃ z, z = L1 ++ [Zg 22 0 c.line] := ⟨_, rfl⟩;rw [← hL] at hs;have HL2 := zh (show L2 = L ++ (r1.1 ++ ([Zg 22 0 c.line])) by rw [hL, HL1.o]; try simp [Zg]);have HN2 := zh (show L2.length = L.length + r1.1.length + 1 by have := HN1.o; rw [hL]; simp; try omega);have HS2 := zh hs;clear hs hL;have HBk := zh (HS2.o.tn.has HB.o hNP);obtain ⟨c0, c1, c2, c3, c4, c5⟩ := cz6 HBk.o;have fc0 := fz HBk.o;clear HBk;obtain ⟨kb3, ko3, Bk3, q3, eA, hca, HE3, hlen3⟩ := HP.o.sub (i := 1) (m1 := m) (lp1 := lp) (w1 := w2) (MB1 := MB) (G1 := G2) (e1 := x1.length + (ls).length + (bs).length) (l1 := L2.length) (by omega) (Nat.le_trans HLb.o.size HS2.o.tn.size) (HS2.o.keeps' HLb.o HP.o.fr) (HS2.o.off HLb.o HP.o.fr HP.o.flt) (by rw [HO.o]; simp [Zm]) (by omega) (fun x hx => Nat.le_trans (HP.o.lm x hx) (by omega)) (by have := HP.o.exb; have := Zq c; have := hxx1; have := hxl1; simp; omega) (by have := HN2.o; omega)
 cases eA;have d0 := hca.c0;have d1 := hca.c1;have d2 := hca.c2;have d3 := hca.c3;have d4 := hca.c4;have d5 := hca.c5;simp only [Nat.zero_mul, Nat.add_zero, Nat.reduceMul, Nat.add_assoc, Nat.reduceAdd] at d0 d1 d2 d3 d4 d5;clear hca;go_wp2_with fail;refine (IH _ rfl w2 MB G2 L2 lp ls bs x1 F (c.kid 1) Bk3 q3 (m) B (zh HS2.o.here) HE3).mono ?_;rintro e w3 ⟨rfl, G3, hs⟩;replace hs := HS2.o.trans hs;rw [HN2.o] at hs;have hq3 := hlen3 (L.length + r1.1.length + 1);clear hlen3 d0 d1 d2 d3 d4 d5;obtain ⟨r3, hr⟩ : ∃ z, z = cg (n + 1) (c.kid 1) (m) (lp) (L.length + r1.1.length + 1) := ⟨_, rfl⟩;rw [← hr] at hs hq3;have HR3 := zh hr;have hxl3 : r3.2.length ≤ Z0 (c.kid 1) := by rw [hr]; exact Z1 _ _ _ _ _ HE3.o.ok
 clear hr;clear c0 c1 c2 c3 c4 c5 fc0;obtain ⟨x3, hx⟩ : ∃ z, z = x1 ++ r3.2 := ⟨_, rfl⟩;rw [← hx] at hs;have HX3 := zh (show x3 = ex ++ (r1.2 ++ (r3.2)) by rw [hx, HX1.o]; try simp);have hxx3 : x3.length = x1.length + r3.2.length := by rw [hx]; simp
 clear hx;obtain ⟨L3, hL⟩ : ∃ z, z = L2 ++ r3.1 := ⟨_, rfl⟩;rw [← hL] at hs;have HL3 := zh (show L3 = L ++ (r1.1 ++ ([Zg 22 0 c.line] ++ (r3.1))) by rw [hL, HL2.o]; try simp [Zg]);have HN3 := zh (show L3.length = L.length + r1.1.length + 1 + r3.1.length by have := HN2.o; rw [hL]; simp; try omega);have HS3 := zh hs;clear hs hL;have HBk := zh (HS3.o.tn.has HB.o hNP);obtain ⟨c0, c1, c2, c3, c4, c5⟩ := cz6 HBk.o;have fc0 := fz HBk.o;clear HBk;go_wp2_with fail;refine (Z8 MB G3 L3 _ _ _ 23 0 c.line w3 HS3.o.here (by unfold Zi; omega) (by unfold Zi; omega) hn3 (by have := HN3.o; omega)).mono ?_;rintro e w4 ⟨rfl, G4, hs⟩;replace hs := HS3.o.trans hs;clear c0 c1 c2 c3 c4 c5 fc0;obtain ⟨L4, hL⟩ : ∃ z, z = L3 ++ [Zg 23 0 c.line] := ⟨_, rfl⟩;rw [← hL] at hs;have HL4 := zh (show L4 = L ++ (r1.1 ++ ([Zg 22 0 c.line] ++ (r3.1 ++ ([Zg 23 0 c.line])))) by rw [hL, HL3.o]; try simp [Zg]);have HN4 := zh (show L4.length = L.length + r1.1.length + 1 + r3.1.length + 1 by have := HN3.o; rw [hL]; simp; try omega);have HS4 := zh hs;clear hs hL;have HBk := zh (HS4.o.tn.has HB.o hNP);obtain ⟨c0, c1, c2, c3, c4, c5⟩ := cz6 HBk.o;have fc0 := fz HBk.o;clear HBk;go_wp2_with fail
 go_end0
 refine ⟨rfl, G4, ?_⟩;show SS w w4 MB G G4 (L ++ (Zk (cg (n + 1)) c m lp L.length).1) (stL lp ls (ex ++ (Zk (cg (n + 1)) c m lp L.length).2)) m (stB lp bs);rw [Zfq HO.o];simp only [← HR1.o, ← HR3.o];refine ((HS.o.here.later HLb.o).trans HS4.o).cast ?_ ?_
 ·rw [HL4.o]; try simp
 ·rw [HX3.o]; try simp
theorem Zsz (n : Nat) (IH : ∀ n', n = n' + 1 → Zci n') (w : World) (MB : Nat) (G : Nat → Prop) (L : List Ze) (lp : Option Zr) (ls : List Zak) (bs : List Int) (ex : List Nat) (F : Nat → Prop) (c : Zd) (A : Option Addr) (k m B : Nat) (HS : Hd (SS w w MB G G L (stL lp ls ex) m (stB lp bs))) (HP : Hd (CxP n w MB G L.length lp (ex.length + ls.length + bs.length) F c A k m B)) (ho : c.kind = 27) :
  Calls Tryz.prog 71 #[.pointer (some ⟨MB, 0, none⟩), c.val A k] w (Zb5 n w MB G L lp ls bs ex c m) := by
 have HO := zh ho;unfold Zd.val;have hlwb : Za w (w.alloc (.cells #[.int .i64 c.kind, .int .i64 c.op, .int .i64 c.aB, .int .i64 c.line, .string c.text, .slice A c.kids.length k] 68)) := (Za.refl _).alloc _;obtain ⟨wb, hwb⟩ : ∃ z, w.alloc (.cells #[.int .i64 c.kind, .int .i64 c.op, .int .i64 c.aB, .int .i64 c.line, .string c.text, .slice A c.kids.length k] 68) = z := ⟨_, rfl⟩;rw [hwb] at hlwb;have HB := zh (show wb.heap[w.heap.size]? = some (.cells #[.int .i64 c.kind, .int .i64 c.op, .int .i64 c.aB, .int .i64 c.line, .string c.text, .slice A c.kids.length k] 68 (0, 0)) by rw [← hwb]; exact heap_alloc_new _ _);have hNP : ¬ (w.heap.size = MB ∨ G w.heap.size) := by
  obtain ⟨_, _, _, _, _, _, hs, -⟩ := HS.o.st;rintro (h | h)
  ·have := HS.o.below; omega
  ·have := HS.o.lt _ h; omega
 have HSb := zh ((HS.o.later hlwb).here);have HLb := zh hlwb;have hn3 := HP.o.cv.n3;have hmb := HP.o.mb;have hlb := HP.o.lb;have hbB := HP.o.bB;have hmul : Z0 c * B = Zx c.kids * B + B := by rw [Zq c, Nat.add_mul, Nat.one_mul]
 have tm1 : IntKind.i64.wrap ((m : Int) + 1) = ((m + 1 : Nat) : Int) := by rw [IntWalk.i64_in _ (by omega)]; rfl
 have tm0 : IntKind.i64.wrap (m : Int) = (m : Int) := IntWalk.i64_in _ (by omega);have hkn : 1 ≤ c.kids.length := by have := HP.o.ok.2.1; rw [ho] at this; exact this
 obtain ⟨n', rfl⟩ := HP.o.cv.lev (i := 0) (by omega);obtain ⟨n, rfl⟩ : ∃ z, z = n' := ⟨_, rfl⟩;obtain ⟨kb, ko, B0, q0, rfl, -⟩ := CAt.kid HP.o.cv.kids (i := 0) (by omega);have hkn2 : (1 : Int) ≤ (c.kids.length : Int) := by omega
 have hcnt := Zfw (c := c) hkn;have hmu := Zj8 (M := B) hcnt;obtain ⟨c0, c1, c2, c3, c4, c5⟩ := cz6 HB.o;have fc0 := fz HB.o;rw [ho] at c0;clear ho;go_enter Tryz.func71, Tryz.ntmps71;obtain ⟨kb1, ko1, Bk1, q1, eA, hca, HE1, hlen1⟩ := HP.o.sub (i := 0) (m1 := m) (lp1 := lp) (w1 := wb) (MB1 := MB) (G1 := G) (e1 := ex.length + (ls).length + (bs).length) (l1 := L.length) (by omega) (Nat.le_trans HLb.o.size HSb.o.tn.size) (HSb.o.keeps' HLb.o HP.o.fr) (HSb.o.off HLb.o HP.o.fr HP.o.flt) (by rw [HO.o]; simp [Zm]) (by omega) (fun x hx => Nat.le_trans (HP.o.lm x hx) (by omega)) (by have := HP.o.exb; have := Zq c; simp; omega) (by omega);cases eA;have d0 := hca.c0;have d1 := hca.c1;have d2 := hca.c2;have d3 := hca.c3;have d4 := hca.c4;have d5 := hca.c5;simp only [Nat.zero_mul, Nat.add_zero, Nat.reduceMul, Nat.add_assoc, Nat.reduceAdd] at d0 d1 d2 d3 d4 d5;clear hca;go_wp2_with fail;refine (IH _ rfl wb MB G L lp ls bs ex F (c.kid 0) Bk1 q1 (m) B (zh HSb.o.here) HE1).mono ?_;rintro e w1 ⟨rfl, G1, hs⟩;replace hs := HSb.o.trans hs;have hq1 := hlen1 (L.length);clear hlen1 d0 d1 d2 d3 d4 d5;obtain ⟨r1, hr⟩ : ∃ z, z = cg (n + 1) (c.kid 0) (m) (lp) (L.length) := ⟨_, rfl⟩;rw [← hr] at hs hq1;have HR1 := zh hr;have hxl1 : r1.2.length ≤ Z0 (c.kid 0) := by rw [hr]; exact Z1 _ _ _ _ _ HE1.o.ok
 clear hr;clear c0 c1 c2 c3 c4 c5 fc0;obtain ⟨x1, hx⟩ : ∃ z, z = ex ++ r1.2 := ⟨_, rfl⟩;rw [← hx] at hs;have HX1 := zh (show x1 = ex ++ (r1.2) by rw [hx]; try simp);have hxx1 : x1.length = ex.length + r1.2.length := by rw [hx]; simp
 clear hx;obtain ⟨L1, hL⟩ : ∃ z, z = L ++ r1.1 := ⟨_, rfl⟩;rw [← hL] at hs;have HL1 := zh (show L1 = L ++ (r1.1) by rw [hL]; try simp [Zg]);have HN1 := zh (show L1.length = L.length + r1.1.length by rw [hL]; simp; try omega);have HS1 := zh hs;clear hs hL;have HBk := zh (HS1.o.tn.has HB.o hNP);obtain ⟨c0, c1, c2, c3, c4, c5⟩ := cz6 HBk.o;have fc0 := fz HBk.o;clear HBk;go_wp2_with fail;refine (Z8 MB G1 L1 _ _ _ 29 0 c.line w1 HS1.o.here (by unfold Zi; omega) (by unfold Zi; omega) hn3 (by have := HN1.o; omega)).mono ?_;rintro e w2 ⟨rfl, G2, hs⟩;replace hs := HS1.o.trans hs;clear c0 c1 c2 c3 c4 c5 fc0;obtain ⟨L2, hL⟩ : ∃ z, z = L1 ++ [Zg 29 0 c.line] := ⟨_, rfl⟩;rw [← hL] at hs;have HL2 := zh (show L2 = L ++ (r1.1 ++ ([Zg 29 0 c.line])) by rw [hL, HL1.o]; try simp [Zg]);have HN2 := zh (show L2.length = L.length + r1.1.length + 1 by have := HN1.o; rw [hL]; simp; try omega);have HS2 := zh hs;clear hs hL;have HBk := zh (HS2.o.tn.has HB.o hNP);obtain ⟨c0, c1, c2, c3, c4, c5⟩ := cz6 HBk.o;have fc0 := fz HBk.o;clear HBk;go_wp2_with fail
 go_end0
 refine ⟨rfl, G2, ?_⟩;show SS w w2 MB G G2 (L ++ (Zk (cg (n + 1)) c m lp L.length).1) (stL lp ls (ex ++ (Zk (cg (n + 1)) c m lp L.length).2)) m (stB lp bs);rw [Zfv HO.o];simp only [← HR1.o];refine ((HS.o.here.later HLb.o).trans HS2.o).cast ?_ ?_
 ·rw [HL2.o]; try simp
 ·rw [HX1.o]; try simp
theorem Zs0 (n : Nat) (IH : ∀ n', n = n' + 1 → Zci n') (w : World) (MB : Nat) (G : Nat → Prop) (L : List Ze) (lp : Option Zr) (ls : List Zak) (bs : List Int) (ex : List Nat) (F : Nat → Prop) (c : Zd) (A : Option Addr) (k m B : Nat) (HS : Hd (SS w w MB G G L (stL lp ls ex) m (stB lp bs))) (HP : Hd (CxP n w MB G L.length lp (ex.length + ls.length + bs.length) F c A k m B)) (ho : c.kind = 23) :
  Calls Tryz.prog 71 #[.pointer (some ⟨MB, 0, none⟩), c.val A k] w (Zb5 n w MB G L lp ls bs ex c m) := by
 have HO := zh ho;unfold Zd.val;have hlwb : Za w (w.alloc (.cells #[.int .i64 c.kind, .int .i64 c.op, .int .i64 c.aB, .int .i64 c.line, .string c.text, .slice A c.kids.length k] 68)) := (Za.refl _).alloc _;obtain ⟨wb, hwb⟩ : ∃ z, w.alloc (.cells #[.int .i64 c.kind, .int .i64 c.op, .int .i64 c.aB, .int .i64 c.line, .string c.text, .slice A c.kids.length k] 68) = z := ⟨_, rfl⟩;rw [hwb] at hlwb;have HB := zh (show wb.heap[w.heap.size]? = some (.cells #[.int .i64 c.kind, .int .i64 c.op, .int .i64 c.aB, .int .i64 c.line, .string c.text, .slice A c.kids.length k] 68 (0, 0)) by rw [← hwb]; exact heap_alloc_new _ _);have hNP : ¬ (w.heap.size = MB ∨ G w.heap.size) := by
  obtain ⟨_, _, _, _, _, _, hs, -⟩ := HS.o.st;rintro (h | h)
  ·have := HS.o.below; omega
  ·have := HS.o.lt _ h; omega
 have HSb := zh ((HS.o.later hlwb).here);have HLb := zh hlwb;have hn3 := HP.o.cv.n3;have hmb := HP.o.mb;have hlb := HP.o.lb;have hbB := HP.o.bB;have hmul : Z0 c * B = Zx c.kids * B + B := by rw [Zq c, Nat.add_mul, Nat.one_mul]
 have tm1 : IntKind.i64.wrap ((m : Int) + 1) = ((m + 1 : Nat) : Int) := by rw [IntWalk.i64_in _ (by omega)]; rfl
 have tm0 : IntKind.i64.wrap (m : Int) = (m : Int) := IntWalk.i64_in _ (by omega);have hkn : 1 ≤ c.kids.length := by have := HP.o.ok.2.1; rw [ho] at this; exact this
 obtain ⟨n', rfl⟩ := HP.o.cv.lev (i := 0) (by omega);obtain ⟨n, rfl⟩ : ∃ z, z = n' := ⟨_, rfl⟩;obtain ⟨kb, ko, B0, q0, rfl, -⟩ := CAt.kid HP.o.cv.kids (i := 0) (by omega);have hkn2 : (1 : Int) ≤ (c.kids.length : Int) := by omega
 have hcnt := Zfw (c := c) hkn;have hmu := Zj8 (M := B) hcnt;obtain ⟨c0, c1, c2, c3, c4, c5⟩ := cz6 HB.o;have fc0 := fz HB.o;rw [ho] at c0;clear ho;go_enter Tryz.func71, Tryz.ntmps71;go_wp2_with fail;refine (Z8 MB G L _ _ _ 13 0 c.line wb HSb.o.here (by unfold Zi; omega) (by unfold Zi; omega) hn3 (by omega)).mono ?_;rintro e w1 ⟨rfl, G1, hs⟩;replace hs := HSb.o.trans hs;clear c0 c1 c2 c3 c4 c5 fc0;obtain ⟨L1, hL⟩ : ∃ z, z = L ++ [Zg 13 0 c.line] := ⟨_, rfl⟩;rw [← hL] at hs;have HL1 := zh (show L1 = L ++ ([Zg 13 0 c.line]) by rw [hL]; try simp [Zg]);have HN1 := zh (show L1.length = L.length + 1 by rw [hL]; simp; try omega);have HS1 := zh hs;clear hs hL;obtain ⟨Gc, Gl, Gb, cv, lv, bv, hs, hG⟩ := HS1.o.st;have HSK := zh hs;have HGK := zh hG;have b0 := cz4 hs.blk;have fb0 := fz hs.blk;clear hs hG;obtain ⟨w2, hwn⟩ : ∃ z, w1.setCell ⟨MB, 2, none⟩ (.int .i64 ((m : Int) + 1)) = z := ⟨_, rfl⟩;have hsn := SS.of0 (x := w2) HS1.o.lt HGK.o (by rw [← hwn]; exact HSK.o.setM (m + 1)) (by rw [← hwn]; exact Tn.set (Tn.refl _ _) (.inl rfl) _ _);have HS2 := zh (HS1.o.trans hsn);clear hsn
 have HBk := zh (HS2.o.tn.has HB.o hNP);obtain ⟨c0, c1, c2, c3, c4, c5⟩ := cz6 HBk.o;have fc0 := fz HBk.o;clear HBk;obtain ⟨kb3, ko3, Bk3, q3, eA, hca, HE3, hlen3⟩ := HP.o.sub (i := 0) (m1 := m + 1) (lp1 := lp) (w1 := w2) (MB1 := MB) (G1 := G1) (e1 := ex.length + (ls).length + (bs).length) (l1 := L1.length) (by omega) (Nat.le_trans HLb.o.size HS2.o.tn.size) (HS2.o.keeps' HLb.o HP.o.fr) (HS2.o.off HLb.o HP.o.fr HP.o.flt) (by rw [HO.o]; simp [Zm]) (by omega) (fun x hx => Nat.le_trans (HP.o.lm x hx) (by omega)) (by have := HP.o.exb; have := Zq c; simp; omega) (by have := HN1.o; omega);cases eA;have d0 := hca.c0;have d1 := hca.c1;have d2 := hca.c2;have d3 := hca.c3;have d4 := hca.c4;have d5 := hca.c5;simp only [Nat.zero_mul, Nat.add_zero, Nat.reduceMul, Nat.add_assoc, Nat.reduceAdd] at d0 d1 d2 d3 d4 d5;clear hca;go_wp2_with fail;refine (IH _ rfl w2 MB G1 L1 lp ls bs ex F (c.kid 0) Bk3 q3 (m + 1) B (zh HS2.o.here) HE3).mono ?_;rintro e w3 ⟨rfl, G3, hs⟩;replace hs := HS2.o.trans hs;rw [HN1.o] at hs;have hq3 := hlen3 (L.length + 1);clear hlen3 d0 d1 d2 d3 d4 d5;obtain ⟨r3, hr⟩ : ∃ z, z = cg (n + 1) (c.kid 0) (m + 1) (lp) (L.length + 1) := ⟨_, rfl⟩;rw [← hr] at hs hq3;have HR3 := zh hr;have hxl3 : r3.2.length ≤ Z0 (c.kid 0) := by rw [hr]; exact Z1 _ _ _ _ _ HE3.o.ok
 clear hr;clear c0 c1 c2 c3 c4 c5 fc0;clear b0 fb0 hwn HSK HGK;obtain ⟨x3, hx⟩ : ∃ z, z = ex ++ r3.2 := ⟨_, rfl⟩;rw [← hx] at hs;have HX3 := zh (show x3 = ex ++ (r3.2) by rw [hx]; try simp);have hxx3 : x3.length = ex.length + r3.2.length := by rw [hx]; simp
 clear hx;obtain ⟨L3, hL⟩ : ∃ z, z = L1 ++ r3.1 := ⟨_, rfl⟩;rw [← hL] at hs;have HL3 := zh (show L3 = L ++ ([Zg 13 0 c.line] ++ (r3.1)) by rw [hL, HL1.o]; try simp [Zg]);have HN3 := zh (show L3.length = L.length + 1 + r3.1.length by have := HN1.o; rw [hL]; simp; try omega);have HS3 := zh hs;clear hs hL;obtain ⟨Gc, Gl, Gb, cv, lv, bv, hs, hG⟩ := HS3.o.st;have HSK := zh hs;have HGK := zh hG;have b0 := cz4 hs.blk;have fb0 := fz hs.blk;clear hs hG;obtain ⟨w4, hwn⟩ : ∃ z, w3.setCell ⟨MB, 2, none⟩ (.int .i64 ((m : Int))) = z := ⟨_, rfl⟩;have hsn := SS.of0 (x := w4) HS3.o.lt HGK.o (by rw [← hwn]; exact HSK.o.setM (m)) (by rw [← hwn]; exact Tn.set (Tn.refl _ _) (.inl rfl) _ _);have HS4 := zh (HS3.o.trans hsn);clear hsn
 have HBk := zh (HS4.o.tn.has HB.o hNP);obtain ⟨c0, c1, c2, c3, c4, c5⟩ := cz6 HBk.o;have fc0 := fz HBk.o;clear HBk;go_wp2_with fail;refine (Z8 MB G3 L3 _ _ _ 24 0 c.line w4 HS4.o.here (by unfold Zi; omega) (by unfold Zi; omega) hn3 (by have := HN3.o; omega)).mono ?_;rintro e w5 ⟨rfl, G5, hs⟩;replace hs := HS4.o.trans hs;clear c0 c1 c2 c3 c4 c5 fc0;obtain ⟨L5, hL⟩ : ∃ z, z = L3 ++ [Zg 24 0 c.line] := ⟨_, rfl⟩;rw [← hL] at hs;have HL5 := zh (show L5 = L ++ ([Zg 13 0 c.line] ++ (r3.1 ++ ([Zg 24 0 c.line]))) by rw [hL, HL3.o]; try simp [Zg]);have HN5 := zh (show L5.length = L.length + 1 + r3.1.length + 1 by have := HN3.o; rw [hL]; simp; try omega);have HS5 := zh hs;clear hs hL;clear b0 fb0 hwn HSK HGK;have HBk := zh (HS5.o.tn.has HB.o hNP);obtain ⟨c0, c1, c2, c3, c4, c5⟩ := cz6 HBk.o;have fc0 := fz HBk.o;clear HBk;go_wp2_with fail;refine (Zb9 MB G5 L5 _ _ _ L.length w5 HS5.o.here (by have := HN1.o; have := HN3.o; have := HN5.o; omega) (by have := HN5.o; omega)).mono ?_;rintro e w6 ⟨rfl, hs⟩;replace hs := HS5.o.trans hs;clear c0 c1 c2 c3 c4 c5 fc0;have hpt := Zav (LL := L5) (A := L) (B := r3.1 ++ ([Zg 24 0 c.line])) (op := 13) (a0 := 0) (l := c.line) (i := L.length) (k := L.length + 1 + r3.1.length + 1) (by rw [HL5.o]; simp) (by have := HN1.o; have := HN3.o; have := HN5.o; simp; try omega) HN5.o;rw [hpt] at hs;obtain ⟨L6, hL⟩ : ∃ z, z = L ++ Zg 13 ((L.length + 1 + r3.1.length + 1 : Nat) : Int) c.line :: (r3.1 ++ ([Zg 24 0 c.line])) := ⟨_, rfl⟩
 rw [← hL] at hs;have HL6 := zh (show L6 = L ++ ([Zg 13 ((L.length + 1 + r3.1.length + 1 : Nat) : Int) c.line] ++ (r3.1 ++ ([Zg 24 0 c.line]))) by rw [hL]; simp);have HN6 := zh (show L6.length = L.length + 1 + r3.1.length + 1 by rw [hL, ← hpt, Zp, HN5.o]);have HS6 := zh hs;clear hs hL hpt;have HBk := zh (HS6.o.tn.has HB.o hNP);obtain ⟨c0, c1, c2, c3, c4, c5⟩ := cz6 HBk.o;have fc0 := fz HBk.o;clear HBk;go_wp2_with fail;refine (Z8 MB G5 L6 _ _ _ 25 0 c.line w6 HS6.o.here (by unfold Zi; omega) (by unfold Zi; omega) hn3 (by have := HN6.o; omega)).mono ?_;rintro e w7 ⟨rfl, G7, hs⟩;replace hs := HS6.o.trans hs;clear c0 c1 c2 c3 c4 c5 fc0;obtain ⟨L7, hL⟩ : ∃ z, z = L6 ++ [Zg 25 0 c.line] := ⟨_, rfl⟩;rw [← hL] at hs;have HL7 := zh (show L7 = L ++ ([Zg 13 ((L.length + 1 + r3.1.length + 1 : Nat) : Int) c.line] ++ (r3.1 ++ ([Zg 24 0 c.line] ++ ([Zg 25 0 c.line])))) by rw [hL, HL6.o]; try simp [Zg]);have HN7 := zh (show L7.length = L.length + 1 + r3.1.length + 1 + 1 by have := HN6.o; rw [hL]; simp; try omega);have HS7 := zh hs;clear hs hL;have HBk := zh (HS7.o.tn.has HB.o hNP);obtain ⟨c0, c1, c2, c3, c4, c5⟩ := cz6 HBk.o;have fc0 := fz HBk.o;clear HBk;go_wp2_with fail
 go_end0
 refine ⟨rfl, G7, ?_⟩;show SS w w7 MB G G7 (L ++ (Zk (cg (n + 1)) c m lp L.length).1) (stL lp ls (ex ++ (Zk (cg (n + 1)) c m lp L.length).2)) m (stB lp bs);rw [Zfr HO.o];simp only [← HR3.o];refine ((HS.o.here.later HLb.o).trans HS7.o).cast ?_ ?_
 ·rw [HL7.o]; try simp
 ·rw [HX3.o]; try simp
theorem Zs1 (n : Nat) (IH : ∀ n', n = n' + 1 → Zci n') (w : World) (MB : Nat) (G : Nat → Prop) (L : List Ze) (lp : Option Zr) (ls : List Zak) (bs : List Int) (ex : List Nat) (F : Nat → Prop) (c : Zd) (A : Option Addr) (k m B : Nat) (HS : Hd (SS w w MB G G L (stL lp ls ex) m (stB lp bs))) (HP : Hd (CxP n w MB G L.length lp (ex.length + ls.length + bs.length) F c A k m B)) (ho : c.kind = 25) :
  Calls Tryz.prog 71 #[.pointer (some ⟨MB, 0, none⟩), c.val A k] w (Zb5 n w MB G L lp ls bs ex c m) := by
 have HO := zh ho;unfold Zd.val;have hlwb : Za w (w.alloc (.cells #[.int .i64 c.kind, .int .i64 c.op, .int .i64 c.aB, .int .i64 c.line, .string c.text, .slice A c.kids.length k] 68)) := (Za.refl _).alloc _;obtain ⟨wb, hwb⟩ : ∃ z, w.alloc (.cells #[.int .i64 c.kind, .int .i64 c.op, .int .i64 c.aB, .int .i64 c.line, .string c.text, .slice A c.kids.length k] 68) = z := ⟨_, rfl⟩;rw [hwb] at hlwb;have HB := zh (show wb.heap[w.heap.size]? = some (.cells #[.int .i64 c.kind, .int .i64 c.op, .int .i64 c.aB, .int .i64 c.line, .string c.text, .slice A c.kids.length k] 68 (0, 0)) by rw [← hwb]; exact heap_alloc_new _ _);have hNP : ¬ (w.heap.size = MB ∨ G w.heap.size) := by
  obtain ⟨_, _, _, _, _, _, hs, -⟩ := HS.o.st;rintro (h | h)
  ·have := HS.o.below; omega
  ·have := HS.o.lt _ h; omega
 have HSb := zh ((HS.o.later hlwb).here);have HLb := zh hlwb;have hn3 := HP.o.cv.n3;have hmb := HP.o.mb;have hlb := HP.o.lb;have hbB := HP.o.bB;have hmul : Z0 c * B = Zx c.kids * B + B := by rw [Zq c, Nat.add_mul, Nat.one_mul]
 have tm1 : IntKind.i64.wrap ((m : Int) + 1) = ((m + 1 : Nat) : Int) := by rw [IntWalk.i64_in _ (by omega)]; rfl
 have tm0 : IntKind.i64.wrap (m : Int) = (m : Int) := IntWalk.i64_in _ (by omega);have hkn : 2 ≤ c.kids.length := by have := HP.o.ok.2.1; rw [ho] at this; exact this
 obtain ⟨n', rfl⟩ := HP.o.cv.lev (i := 0) (by omega);obtain ⟨n, rfl⟩ : ∃ z, z = n' := ⟨_, rfl⟩;obtain ⟨kb, ko, B0, q0, rfl, -⟩ := CAt.kid HP.o.cv.kids (i := 0) (by omega);have hkn2 : (2 : Int) ≤ (c.kids.length : Int) := by omega
 have hcnt := Ze3 (c := c) hkn;have hmu := Zh2 (M := B) hcnt;obtain ⟨c0, c1, c2, c3, c4, c5⟩ := cz6 HB.o;have fc0 := fz HB.o;rw [ho] at c0;clear ho;go_enter Tryz.func71, Tryz.ntmps71;obtain ⟨kb1, ko1, Bk1, q1, eA, hca, HE1, hlen1⟩ := HP.o.sub (i := 0) (m1 := m) (lp1 := lp) (w1 := wb) (MB1 := MB) (G1 := G) (e1 := ex.length + (ls).length + (bs).length) (l1 := L.length) (by omega) (Nat.le_trans HLb.o.size HSb.o.tn.size) (HSb.o.keeps' HLb.o HP.o.fr) (HSb.o.off HLb.o HP.o.fr HP.o.flt) (by rw [HO.o]; simp [Zm]) (by omega) (fun x hx => Nat.le_trans (HP.o.lm x hx) (by omega)) (by have := HP.o.exb; have := Zq c; simp; omega) (by omega);cases eA;have d0 := hca.c0;have d1 := hca.c1;have d2 := hca.c2;have d3 := hca.c3;have d4 := hca.c4;have d5 := hca.c5;simp only [Nat.zero_mul, Nat.add_zero, Nat.reduceMul, Nat.add_assoc, Nat.reduceAdd] at d0 d1 d2 d3 d4 d5;clear hca;go_wp2_with fail;refine (IH _ rfl wb MB G L lp ls bs ex F (c.kid 0) Bk1 q1 (m) B (zh HSb.o.here) HE1).mono ?_;rintro e w1 ⟨rfl, G1, hs⟩;replace hs := HSb.o.trans hs;have hq1 := hlen1 (L.length);clear hlen1 d0 d1 d2 d3 d4 d5;obtain ⟨r1, hr⟩ : ∃ z, z = cg (n + 1) (c.kid 0) (m) (lp) (L.length) := ⟨_, rfl⟩;rw [← hr] at hs hq1;have HR1 := zh hr;have hxl1 : r1.2.length ≤ Z0 (c.kid 0) := by rw [hr]; exact Z1 _ _ _ _ _ HE1.o.ok
 clear hr;clear c0 c1 c2 c3 c4 c5 fc0;obtain ⟨x1, hx⟩ : ∃ z, z = ex ++ r1.2 := ⟨_, rfl⟩;rw [← hx] at hs;have HX1 := zh (show x1 = ex ++ (r1.2) by rw [hx]; try simp);have hxx1 : x1.length = ex.length + r1.2.length := by rw [hx]; simp
 clear hx;obtain ⟨L1, hL⟩ : ∃ z, z = L ++ r1.1 := ⟨_, rfl⟩;rw [← hL] at hs;have HL1 := zh (show L1 = L ++ (r1.1) by rw [hL]; try simp [Zg]);have HN1 := zh (show L1.length = L.length + r1.1.length by rw [hL]; simp; try omega);have HS1 := zh hs;clear hs hL;have HBk := zh (HS1.o.tn.has HB.o hNP);obtain ⟨c0, c1, c2, c3, c4, c5⟩ := cz6 HBk.o;have fc0 := fz HBk.o;clear HBk;go_wp2_with fail;refine (Z8 MB G1 L1 _ _ _ 26 0 c.line w1 HS1.o.here (by unfold Zi; omega) (by unfold Zi; omega) hn3 (by have := HN1.o; omega)).mono ?_;rintro e w2 ⟨rfl, G2, hs⟩;replace hs := HS1.o.trans hs;clear c0 c1 c2 c3 c4 c5 fc0;obtain ⟨L2, hL⟩ : ∃ z, z = L1 ++ [Zg 26 0 c.line] := ⟨_, rfl⟩;rw [← hL] at hs;have HL2 := zh (show L2 = L ++ (r1.1 ++ ([Zg 26 0 c.line])) by rw [hL, HL1.o]; try simp [Zg]);have HN2 := zh (show L2.length = L.length + r1.1.length + 1 by have := HN1.o; rw [hL]; simp; try omega);have HS2 := zh hs;clear hs hL;have HBk := zh (HS2.o.tn.has HB.o hNP);obtain ⟨c0, c1, c2, c3, c4, c5⟩ := cz6 HBk.o;have fc0 := fz HBk.o;clear HBk;obtain ⟨kb3, ko3, Bk3, q3, eA, hca, HE3, hlen3⟩ := HP.o.sub (i := 1) (m1 := m + 1) (lp1 := lp) (w1 := w2) (MB1 := MB) (G1 := G2) (e1 := x1.length + (ls).length + (bs).length) (l1 := L2.length + 1) (by omega) (Nat.le_trans HLb.o.size HS2.o.tn.size) (HS2.o.keeps' HLb.o HP.o.fr) (HS2.o.off HLb.o HP.o.fr HP.o.flt) (by rw [HO.o]; simp [Zm]) (by omega) (fun x hx => Nat.le_trans (HP.o.lm x hx) (by omega)) (by have := HP.o.exb; have := Zq c; have := hxx1; have := hxl1; simp; omega) (by have := HN2.o; omega)
 cases eA;have d0 := hca.c0;have d1 := hca.c1;have d2 := hca.c2;have d3 := hca.c3;have d4 := hca.c4;have d5 := hca.c5;simp only [Nat.zero_mul, Nat.add_zero, Nat.reduceMul, Nat.add_assoc, Nat.reduceAdd] at d0 d1 d2 d3 d4 d5;clear hca;go_wp2_with fail;refine (Zc8 _ (IH _ rfl) w2 MB G2 L2 lp ls bs x1 F (c.kid 1) Bk3 q3 (m) B 0 (zh HS2.o.here) HE3 (by unfold Zi; omega)).mono ?_;rintro e w3 ⟨rfl, G3, hs⟩;replace hs := HS2.o.trans hs;rw [HN2.o] at hs;have hq3 := hlen3 (L.length + r1.1.length + 1 + 1);clear hlen3 d0 d1 d2 d3 d4 d5;obtain ⟨r3, hr⟩ : ∃ z, z = cg (n + 1) (c.kid 1) (m + 1) (lp) (L.length + r1.1.length + 1 + 1) := ⟨_, rfl⟩;rw [← hr] at hs hq3;have HR3 := zh hr;have hxl3 : r3.2.length ≤ Z0 (c.kid 1) := by rw [hr]; exact Z1 _ _ _ _ _ HE3.o.ok
 clear hr;clear c0 c1 c2 c3 c4 c5 fc0;obtain ⟨x3, hx⟩ : ∃ z, z = x1 ++ r3.2 := ⟨_, rfl⟩;rw [← hx] at hs;have HX3 := zh (show x3 = ex ++ (r1.2 ++ (r3.2)) by rw [hx, HX1.o]; try simp);have hxx3 : x3.length = x1.length + r3.2.length := by rw [hx]; simp
 clear hx;obtain ⟨L3, hL⟩ : ∃ z, z = L2 ++ (Zg 13 0 (c.kid 1).line :: (r3.1 ++ [Zg 14 0 (c.kid 1).line])) := ⟨_, rfl⟩;rw [← hL] at hs;have HL3 := zh (show L3 = L ++ (r1.1 ++ ([Zg 26 0 c.line] ++ ([Zg 13 0 (c.kid 1).line] ++ (r3.1 ++ ([Zg 14 0 (c.kid 1).line]))))) by rw [hL, HL2.o]; try simp [Zg]);have HN3 := zh (show L3.length = L.length + r1.1.length + 1 + r3.1.length + 2 by have := HN2.o; rw [hL]; simp; try omega);have HS3 := zh hs;clear hs hL;have HBk := zh (HS3.o.tn.has HB.o hNP);obtain ⟨c0, c1, c2, c3, c4, c5⟩ := cz6 HBk.o;have fc0 := fz HBk.o;clear HBk;go_wp2_with fail;refine (Zb9 MB G3 L3 _ _ _ L2.length w3 HS3.o.here (by have := HN1.o; have := HN2.o; have := HN3.o; omega) (by have := HN3.o; omega)).mono ?_;rintro e w4 ⟨rfl, hs⟩;replace hs := HS3.o.trans hs;clear c0 c1 c2 c3 c4 c5 fc0;have hpt := Zav (LL := L3) (A := L ++ (r1.1 ++ ([Zg 26 0 c.line]))) (B := r3.1 ++ ([Zg 14 0 (c.kid 1).line])) (op := 13) (a0 := 0) (l := (c.kid 1).line) (i := L2.length) (k := L.length + r1.1.length + 1 + r3.1.length + 2) (by rw [HL3.o]; simp) (by have := HN1.o; have := HN2.o; have := HN3.o; simp; try omega) HN3.o;rw [hpt] at hs;obtain ⟨L4, hL⟩ : ∃ z, z = L ++ (r1.1 ++ ([Zg 26 0 c.line])) ++ Zg 13 ((L.length + r1.1.length + 1 + r3.1.length + 2 : Nat) : Int) (c.kid 1).line :: (r3.1 ++ ([Zg 14 0 (c.kid 1).line])) := ⟨_, rfl⟩;rw [← hL] at hs;have HL4 := zh (show L4 = L ++ (r1.1 ++ ([Zg 26 0 c.line] ++ ([Zg 13 ((L.length + r1.1.length + 1 + r3.1.length + 2 : Nat) : Int) (c.kid 1).line] ++ (r3.1 ++ ([Zg 14 0 (c.kid 1).line]))))) by rw [hL]; simp)
 have HN4 := zh (show L4.length = L.length + r1.1.length + 1 + r3.1.length + 2 by rw [hL, ← hpt, Zp, HN3.o]);have HS4 := zh hs;clear hs hL hpt;have HBk := zh (HS4.o.tn.has HB.o hNP);obtain ⟨c0, c1, c2, c3, c4, c5⟩ := cz6 HBk.o;have fc0 := fz HBk.o;clear HBk;go_wp2_with fail;refine (Z8 MB G3 L4 _ _ _ 16 0 c.line w4 HS4.o.here (by unfold Zi; omega) (by unfold Zi; omega) hn3 (by have := HN4.o; omega)).mono ?_;rintro e w5 ⟨rfl, G5, hs⟩;replace hs := HS4.o.trans hs;clear c0 c1 c2 c3 c4 c5 fc0;obtain ⟨L5, hL⟩ : ∃ z, z = L4 ++ [Zg 16 0 c.line] := ⟨_, rfl⟩;rw [← hL] at hs;have HL5 := zh (show L5 = L ++ (r1.1 ++ ([Zg 26 0 c.line] ++ ([Zg 13 ((L.length + r1.1.length + 1 + r3.1.length + 2 : Nat) : Int) (c.kid 1).line] ++ (r3.1 ++ ([Zg 14 0 (c.kid 1).line] ++ ([Zg 16 0 c.line])))))) by rw [hL, HL4.o]; try simp [Zg]);have HN5 := zh (show L5.length = L.length + r1.1.length + 1 + r3.1.length + 2 + 1 by have := HN4.o; rw [hL]; simp; try omega);have HS5 := zh hs;clear hs hL;have HBk := zh (HS5.o.tn.has HB.o hNP);obtain ⟨c0, c1, c2, c3, c4, c5⟩ := cz6 HBk.o;have fc0 := fz HBk.o;clear HBk;go_wp2_with fail
 go_end0
 refine ⟨rfl, G5, ?_⟩;show SS w w5 MB G G5 (L ++ (Zk (cg (n + 1)) c m lp L.length).1) (stL lp ls (ex ++ (Zk (cg (n + 1)) c m lp L.length).2)) m (stB lp bs);rw [Zft HO.o];simp only [bnd, Zaq];simp only [← HR1.o, ← HR3.o];refine ((HS.o.here.later HLb.o).trans HS5.o).cast ?_ ?_
 ·rw [HL5.o]; try simp [Nat.add_assoc]
 ·rw [HX3.o]; try simp
theorem Zs2 (n : Nat) (IH : ∀ n', n = n' + 1 → Zci n') (w : World) (MB : Nat) (G : Nat → Prop) (L : List Ze) (lp : Option Zr) (ls : List Zak) (bs : List Int) (ex : List Nat) (F : Nat → Prop) (c : Zd) (A : Option Addr) (k m B : Nat) (HS : Hd (SS w w MB G G L (stL lp ls ex) m (stB lp bs))) (HP : Hd (CxP n w MB G L.length lp (ex.length + ls.length + bs.length) F c A k m B)) (ho : c.kind = 26) :
  Calls Tryz.prog 71 #[.pointer (some ⟨MB, 0, none⟩), c.val A k] w (Zb5 n w MB G L lp ls bs ex c m) := by
 have HO := zh ho;unfold Zd.val;have hlwb : Za w (w.alloc (.cells #[.int .i64 c.kind, .int .i64 c.op, .int .i64 c.aB, .int .i64 c.line, .string c.text, .slice A c.kids.length k] 68)) := (Za.refl _).alloc _;obtain ⟨wb, hwb⟩ : ∃ z, w.alloc (.cells #[.int .i64 c.kind, .int .i64 c.op, .int .i64 c.aB, .int .i64 c.line, .string c.text, .slice A c.kids.length k] 68) = z := ⟨_, rfl⟩;rw [hwb] at hlwb;have HB := zh (show wb.heap[w.heap.size]? = some (.cells #[.int .i64 c.kind, .int .i64 c.op, .int .i64 c.aB, .int .i64 c.line, .string c.text, .slice A c.kids.length k] 68 (0, 0)) by rw [← hwb]; exact heap_alloc_new _ _);have hNP : ¬ (w.heap.size = MB ∨ G w.heap.size) := by
  obtain ⟨_, _, _, _, _, _, hs, -⟩ := HS.o.st;rintro (h | h)
  ·have := HS.o.below; omega
  ·have := HS.o.lt _ h; omega
 have HSb := zh ((HS.o.later hlwb).here);have HLb := zh hlwb;have hn3 := HP.o.cv.n3;have hmb := HP.o.mb;have hlb := HP.o.lb;have hbB := HP.o.bB;have hmul : Z0 c * B = Zx c.kids * B + B := by rw [Zq c, Nat.add_mul, Nat.one_mul]
 have tm1 : IntKind.i64.wrap ((m : Int) + 1) = ((m + 1 : Nat) : Int) := by rw [IntWalk.i64_in _ (by omega)]; rfl
 have tm0 : IntKind.i64.wrap (m : Int) = (m : Int) := IntWalk.i64_in _ (by omega);have hkn : 1 ≤ c.kids.length := by have := HP.o.ok.2.1; rw [ho] at this; exact this
 obtain ⟨n', rfl⟩ := HP.o.cv.lev (i := 0) (by omega);obtain ⟨n, rfl⟩ : ∃ z, z = n' := ⟨_, rfl⟩;obtain ⟨kb, ko, B0, q0, rfl, -⟩ := CAt.kid HP.o.cv.kids (i := 0) (by omega);have hkn2 : (1 : Int) ≤ (c.kids.length : Int) := by omega
 have hcnt := Zfw (c := c) hkn;have hmu := Zj8 (M := B) hcnt;obtain ⟨c0, c1, c2, c3, c4, c5⟩ := cz6 HB.o;have fc0 := fz HB.o;rw [ho] at c0;clear ho;go_enter Tryz.func71, Tryz.ntmps71;go_wp2_with fail;refine (Z8 MB G L _ _ _ 27 0 c.line wb HSb.o.here (by unfold Zi; omega) (by unfold Zi; omega) hn3 (by omega)).mono ?_;rintro e w1 ⟨rfl, G1, hs⟩;replace hs := HSb.o.trans hs;clear c0 c1 c2 c3 c4 c5 fc0;obtain ⟨L1, hL⟩ : ∃ z, z = L ++ [Zg 27 0 c.line] := ⟨_, rfl⟩;rw [← hL] at hs;have HL1 := zh (show L1 = L ++ ([Zg 27 0 c.line]) by rw [hL]; try simp [Zg]);have HN1 := zh (show L1.length = L.length + 1 by rw [hL]; simp; try omega);have HS1 := zh hs;clear hs hL;have HBk := zh (HS1.o.tn.has HB.o hNP);obtain ⟨c0, c1, c2, c3, c4, c5⟩ := cz6 HBk.o;have fc0 := fz HBk.o;clear HBk;go_wp2_with fail;refine (Z8 MB G1 L1 _ _ _ 15 0 c.line w1 HS1.o.here (by unfold Zi; omega) (by unfold Zi; omega) hn3 (by have := HN1.o; omega)).mono ?_;rintro e w2 ⟨rfl, G2, hs⟩;replace hs := HS1.o.trans hs;clear c0 c1 c2 c3 c4 c5 fc0;obtain ⟨L2, hL⟩ : ∃ z, z = L1 ++ [Zg 15 0 c.line] := ⟨_, rfl⟩;rw [← hL] at hs;have HL2 := zh (show L2 = L ++ ([Zg 27 0 c.line] ++ ([Zg 15 0 c.line])) by rw [hL, HL1.o]; try simp [Zg]);have HN2 := zh (show L2.length = L.length + 1 + 1 by have := HN1.o; rw [hL]; simp; try omega);have HS2 := zh hs;clear hs hL;have HBk := zh (HS2.o.tn.has HB.o hNP);obtain ⟨c0, c1, c2, c3, c4, c5⟩ := cz6 HBk.o;have fc0 := fz HBk.o;clear HBk;go_wp2_with fail;refine (Zb9 MB G2 L2 _ _ _ L.length w2 HS2.o.here (by have := HN1.o; have := HN2.o; omega) (by have := HN2.o; omega)).mono ?_
 rintro e w3 ⟨rfl, hs⟩;replace hs := HS2.o.trans hs;clear c0 c1 c2 c3 c4 c5 fc0;have hpt := Zav (LL := L2) (A := L) (B := [Zg 15 0 c.line]) (op := 27) (a0 := 0) (l := c.line) (i := L.length) (k := L.length + 1 + 1) (by rw [HL2.o]; simp) (by have := HN1.o; have := HN2.o; simp; try omega) HN2.o;rw [hpt] at hs;obtain ⟨L3, hL⟩ : ∃ z, z = L ++ Zg 27 ((L.length + 1 + 1 : Nat) : Int) c.line :: ([Zg 15 0 c.line]) := ⟨_, rfl⟩;rw [← hL] at hs;have HL3 := zh (show L3 = L ++ ([Zg 27 ((L.length + 1 + 1 : Nat) : Int) c.line] ++ ([Zg 15 0 c.line])) by rw [hL]; simp);have HN3 := zh (show L3.length = L.length + 1 + 1 by rw [hL, ← hpt, Zp, HN2.o]);have HS3 := zh hs;clear hs hL hpt;have HBk := zh (HS3.o.tn.has HB.o hNP);obtain ⟨c0, c1, c2, c3, c4, c5⟩ := cz6 HBk.o;have fc0 := fz HBk.o;clear HBk;obtain ⟨Gc, Gl, Gb, cv, lv, bv, hs, hG⟩ := HS3.o.st;have HSK := zh hs;have HGK := zh hG;have b0 := cz4 hs.blk;have fb0 := fz hs.blk;clear hs hG;obtain ⟨Ac, cc, rfl, -⟩ := id HSK.o.code;obtain ⟨wi, hwi⟩ : ∃ z, w3.alloc (.cells #[.slice Ac L3.length cc, .slice none 0 0, .int .i64 0, .slice none 0 0] TSt) = z := ⟨_, rfl⟩;have hin := HSK.o.inner0;rw [hwi] at hin;have HIN := zh hin;have hlw : Za w3 wi := by rw [← hwi]; exact (Za.refl _).alloc _
 have HLI := zh hlw;have HS4 := zh (HS3.o.later hlw);have hws : wi.heap.size = w3.heap.size + 1 := by rw [← hwi]; simp
 have HWI := zh hwi;clear hin hlw hwi;have HBk := zh (HS4.o.tn.has HB.o hNP);clear c0 c1 c2 c3 c4 c5 fc0;obtain ⟨c0, c1, c2, c3, c4, c5⟩ := cz6 HBk.o;have fc0 := fz HBk.o;clear HBk;obtain ⟨kb4, ko4, Bk4, q4, eA, hca, HE4, hlen4⟩ := HP.o.sub (i := 0) (m1 := 0) (lp1 := none) (w1 := wi) (MB1 := w3.heap.size) (G1 := Gc) (e1 := 0) (l1 := L3.length) (by omega) (Nat.le_trans HLb.o.size HS4.o.tn.size) (HS4.o.keeps' HLb.o HP.o.fr) (fun b hb => ⟨by have := HP.o.flt b hb; have := HLb.o.size; have := HS3.o.tn.size; omega, fun hg => ((HS3.o.off HLb.o HP.o.fr HP.o.flt) b hb).2 (HGK.o b (.inl hg))⟩) (by rw [HO.o]; simp [Zm]) (by omega) (fun x hx => by simp at hx) (by have := HP.o.exb; have := Zq c; omega) (by have := HN3.o; omega);cases eA;have d0 := hca.c0;have d1 := hca.c1;have d2 := hca.c2;have d3 := hca.c3;have d4 := hca.c4;have d5 := hca.c5;simp only [Nat.zero_mul, Nat.add_zero, Nat.reduceMul, Nat.add_assoc, Nat.reduceAdd] at d0 d1 d2 d3 d4 d5;clear hca;go_upto_region 75 with (fail);rw [HWI.o];go_wp2_with fail;refine (IH _ rfl wi w3.heap.size Gc L3 none [] [] [] F (c.kid 0) Bk4 q4 0 B (zh HIN.o) HE4).mono ?_;rintro e w4 ⟨rfl, G4, hs⟩;rw [HN3.o] at hs;obtain ⟨r4, hr⟩ : ∃ z, z = cg (n + 1) (c.kid 0) 0 none (L.length + 1 + 1) := ⟨_, rfl⟩;rw [← hr] at hs;have hq4 := hlen4 (L.length + 1 + 1);rw [← hr] at hq4;have HR4 := zh hr;clear hr hlen4 d0 d1 d2 d3 d4 d5;clear c0 c1 c2 c3 c4 c5 fc0;clear b0 fb0;obtain ⟨Gc2, cv2, lv2, bv2, hb1, hbM, ⟨A2, k2, rfl⟩, hput⟩ := HSK.o.inner1 HLI.o (Nat.le_refl _) hs
 rw [List.length_append] at hb1;obtain ⟨hk1, hk2, hk3⟩ := hput w4 (Za.refl _);rw [List.length_append] at hk1 hk3;obtain ⟨w5, hw5⟩ : ∃ z, w4.setCell ⟨MB, 0, none⟩ (.slice A2 (L3.length + r4.1.length) k2) = z := ⟨_, rfl⟩;rw [hw5] at hk1 hk3;obtain ⟨G5, hs5⟩ := SS.of HGK.o hk1 hk3 hk2;have hs := HS3.o.trans hs5;clear hs5 hk1 hk2 hk3 hput;have b0 := cz4 hbM;have fb0 := fz hbM;have i0 := cq hb1 0;simp only [nD, nE, nF] at i0;clear hb1 hbM;obtain ⟨L5, hL⟩ : ∃ z, z = L3 ++ r4.1 := ⟨_, rfl⟩;rw [← hL] at hs;have HL5 := zh (show L5 = L ++ ([Zg 27 ((L.length + 1 + 1 : Nat) : Int) c.line] ++ ([Zg 15 0 c.line] ++ (r4.1))) by rw [hL, HL3.o]; try simp [Zg]);have HN5 := zh (show L5.length = L.length + 1 + 1 + r4.1.length by have := HN3.o; rw [hL]; simp; try omega);have HS5 := zh hs;clear hs hL;have HBk := zh (HS5.o.tn.has HB.o hNP);obtain ⟨c0, c1, c2, c3, c4, c5⟩ := cz6 HBk.o;have fc0 := fz HBk.o;clear HBk;go_wp2_with fail;refine (Z8 MB G5 L5 _ _ _ 28 0 c.line w5 HS5.o.here (by unfold Zi; omega) (by unfold Zi; omega) hn3 (by have := HN5.o; omega)).mono ?_;rintro e w6 ⟨rfl, G6, hs⟩;replace hs := HS5.o.trans hs;clear c0 c1 c2 c3 c4 c5 fc0;obtain ⟨L6, hL⟩ : ∃ z, z = L5 ++ [Zg 28 0 c.line] := ⟨_, rfl⟩;rw [← hL] at hs;have HL6 := zh (show L6 = L ++ ([Zg 27 ((L.length + 1 + 1 : Nat) : Int) c.line] ++ ([Zg 15 0 c.line] ++ (r4.1 ++ ([Zg 28 0 c.line])))) by rw [hL, HL5.o]; try simp [Zg]);have HN6 := zh (show L6.length = L.length + 1 + 1 + r4.1.length + 1 by have := HN5.o; rw [hL]; simp; try omega)
 have HS6 := zh hs;clear hs hL;clear b0 fb0 hw5 i0;have HBk := zh (HS6.o.tn.has HB.o hNP);obtain ⟨c0, c1, c2, c3, c4, c5⟩ := cz6 HBk.o;have fc0 := fz HBk.o;clear HBk;go_wp2_with fail;refine (Zb9 MB G6 L6 _ _ _ L1.length w6 HS6.o.here (by have := HN1.o; have := HN2.o; have := HN3.o; have := HN5.o; have := HN6.o; omega) (by have := HN6.o; omega)).mono ?_;rintro e w7 ⟨rfl, hs⟩;replace hs := HS6.o.trans hs;clear c0 c1 c2 c3 c4 c5 fc0;have hpt := Zav (LL := L6) (A := L ++ ([Zg 27 ((L.length + 1 + 1 : Nat) : Int) c.line])) (B := r4.1 ++ ([Zg 28 0 c.line])) (op := 15) (a0 := 0) (l := c.line) (i := L1.length) (k := L.length + 1 + 1 + r4.1.length + 1) (by rw [HL6.o]; simp) (by have := HN1.o; have := HN2.o; have := HN3.o; have := HN5.o; have := HN6.o; simp; try omega) HN6.o;rw [hpt] at hs;obtain ⟨L7, hL⟩ : ∃ z, z = L ++ ([Zg 27 ((L.length + 1 + 1 : Nat) : Int) c.line]) ++ Zg 15 ((L.length + 1 + 1 + r4.1.length + 1 : Nat) : Int) c.line :: (r4.1 ++ ([Zg 28 0 c.line])) := ⟨_, rfl⟩;rw [← hL] at hs;have HL7 := zh (show L7 = L ++ ([Zg 27 ((L.length + 1 + 1 : Nat) : Int) c.line] ++ ([Zg 15 ((L.length + 1 + 1 + r4.1.length + 1 : Nat) : Int) c.line] ++ (r4.1 ++ ([Zg 28 0 c.line])))) by rw [hL]; simp);have HN7 := zh (show L7.length = L.length + 1 + 1 + r4.1.length + 1 by rw [hL, ← hpt, Zp, HN6.o]);have HS7 := zh hs;clear hs hL hpt;have HBk := zh (HS7.o.tn.has HB.o hNP);obtain ⟨c0, c1, c2, c3, c4, c5⟩ := cz6 HBk.o;have fc0 := fz HBk.o;clear HBk;go_wp2_with fail
 go_end0
 refine ⟨rfl, G6, ?_⟩;show SS w w7 MB G G6 (L ++ (Zk (cg (n + 1)) c m lp L.length).1) (stL lp ls (ex ++ (Zk (cg (n + 1)) c m lp L.length).2)) m (stB lp bs);rw [Zfu HO.o];simp only [← HR4.o];refine ((HS.o.here.later HLb.o).trans HS7.o).cast ?_ ?_
 ·rw [HL7.o]; try simp [Int.add_assoc]
 ·simp
theorem Zs3 (n : Nat) (IH : ∀ n', n = n' + 1 → Zci n') (w : World) (MB : Nat) (G : Nat → Prop) (L : List Ze) (lp : Option Zr) (ls : List Zak) (bs : List Int) (ex : List Nat) (F : Nat → Prop) (c : Zd) (A : Option Addr) (k m B : Nat) (HS : Hd (SS w w MB G G L (stL lp ls ex) m (stB lp bs))) (HP : Hd (CxP n w MB G L.length lp (ex.length + ls.length + bs.length) F c A k m B)) (ho : c.kind = 28) :
  Calls Tryz.prog 71 #[.pointer (some ⟨MB, 0, none⟩), c.val A k] w (Zb5 n w MB G L lp ls bs ex c m) := by
 have HO := zh ho;unfold Zd.val;have hlwb : Za w (w.alloc (.cells #[.int .i64 c.kind, .int .i64 c.op, .int .i64 c.aB, .int .i64 c.line, .string c.text, .slice A c.kids.length k] 68)) := (Za.refl _).alloc _;obtain ⟨wb, hwb⟩ : ∃ z, w.alloc (.cells #[.int .i64 c.kind, .int .i64 c.op, .int .i64 c.aB, .int .i64 c.line, .string c.text, .slice A c.kids.length k] 68) = z := ⟨_, rfl⟩;rw [hwb] at hlwb;have HB := zh (show wb.heap[w.heap.size]? = some (.cells #[.int .i64 c.kind, .int .i64 c.op, .int .i64 c.aB, .int .i64 c.line, .string c.text, .slice A c.kids.length k] 68 (0, 0)) by rw [← hwb]; exact heap_alloc_new _ _);have hNP : ¬ (w.heap.size = MB ∨ G w.heap.size) := by
  obtain ⟨_, _, _, _, _, _, hs, -⟩ := HS.o.st;rintro (h | h)
  ·have := HS.o.below; omega
  ·have := HS.o.lt _ h; omega
 have HSb := zh ((HS.o.later hlwb).here);have HLb := zh hlwb;have hn3 := HP.o.cv.n3;have hmb := HP.o.mb;have hlb := HP.o.lb;have hbB := HP.o.bB;have hmul : Z0 c * B = Zx c.kids * B + B := by rw [Zq c, Nat.add_mul, Nat.one_mul]
 have tm1 : IntKind.i64.wrap ((m : Int) + 1) = ((m + 1 : Nat) : Int) := by rw [IntWalk.i64_in _ (by omega)]; rfl
 have tm0 : IntKind.i64.wrap (m : Int) = (m : Int) := IntWalk.i64_in _ (by omega);obtain ⟨c0, c1, c2, c3, c4, c5⟩ := cz6 HB.o;have fc0 := fz HB.o;rw [ho] at c0;clear ho;go_enter Tryz.func71, Tryz.ntmps71;go_wp2_with fail;refine (Z8 MB G L _ _ _ 16 0 c.line wb HSb.o.here (by unfold Zi; omega) (by unfold Zi; omega) hn3 (by omega)).mono ?_;rintro e w1 ⟨rfl, G1, hs⟩;replace hs := HSb.o.trans hs;clear c0 c1 c2 c3 c4 c5 fc0;obtain ⟨L1, hL⟩ : ∃ z, z = L ++ [Zg 16 0 c.line] := ⟨_, rfl⟩;rw [← hL] at hs;have HL1 := zh (show L1 = L ++ ([Zg 16 0 c.line]) by rw [hL]; try simp [Zg]);have HN1 := zh (show L1.length = L.length + 1 by rw [hL]; simp; try omega);have HS1 := zh hs;clear hs hL;have HBk := zh (HS1.o.tn.has HB.o hNP);obtain ⟨c0, c1, c2, c3, c4, c5⟩ := cz6 HBk.o;have fc0 := fz HBk.o;clear HBk;go_wp2_with fail
 go_end0
 refine ⟨rfl, G1, ?_⟩;show SS w w1 MB G G1 (L ++ (Zk (cg n) c m lp L.length).1) (stL lp ls (ex ++ (Zk (cg n) c m lp L.length).2)) m (stB lp bs);rw [Zfj HO.o];refine ((HS.o.here.later HLb.o).trans HS1.o).cast ?_ ?_
 ·rw [HL1.o]; try simp
 ·simp
theorem Zs4 (n : Nat) (IH : ∀ n', n = n' + 1 → Zci n') (w : World) (MB : Nat) (G : Nat → Prop) (L : List Ze) (lp : Option Zr) (ls : List Zak) (bs : List Int) (ex : List Nat) (F : Nat → Prop) (c : Zd) (A : Option Addr) (k m B : Nat) (HS : Hd (SS w w MB G G L (stL lp ls ex) m (stB lp bs))) (HP : Hd (CxP n w MB G L.length lp (ex.length + ls.length + bs.length) F c A k m B)) (ho : c.kind = 24) :
  Calls Tryz.prog 71 #[.pointer (some ⟨MB, 0, none⟩), c.val A k] w (Zb5 n w MB G L lp ls bs ex c m) := by
 have HO := zh ho;unfold Zd.val;have hlwb : Za w (w.alloc (.cells #[.int .i64 c.kind, .int .i64 c.op, .int .i64 c.aB, .int .i64 c.line, .string c.text, .slice A c.kids.length k] 68)) := (Za.refl _).alloc _;obtain ⟨wb, hwb⟩ : ∃ z, w.alloc (.cells #[.int .i64 c.kind, .int .i64 c.op, .int .i64 c.aB, .int .i64 c.line, .string c.text, .slice A c.kids.length k] 68) = z := ⟨_, rfl⟩;rw [hwb] at hlwb;have HB := zh (show wb.heap[w.heap.size]? = some (.cells #[.int .i64 c.kind, .int .i64 c.op, .int .i64 c.aB, .int .i64 c.line, .string c.text, .slice A c.kids.length k] 68 (0, 0)) by rw [← hwb]; exact heap_alloc_new _ _);have hNP : ¬ (w.heap.size = MB ∨ G w.heap.size) := by
  obtain ⟨_, _, _, _, _, _, hs, -⟩ := HS.o.st;rintro (h | h)
  ·have := HS.o.below; omega
  ·have := HS.o.lt _ h; omega
 have HSb := zh ((HS.o.later hlwb).here);have HLb := zh hlwb;have hn3 := HP.o.cv.n3;have hmb := HP.o.mb;have hlb := HP.o.lb;have hbB := HP.o.bB;have hmul : Z0 c * B = Zx c.kids * B + B := by rw [Zq c, Nat.add_mul, Nat.one_mul]
 have tm1 : IntKind.i64.wrap ((m : Int) + 1) = ((m + 1 : Nat) : Int) := by rw [IntWalk.i64_in _ (by omega)]; rfl
 have tm0 : IntKind.i64.wrap (m : Int) = (m : Int) := IntWalk.i64_in _ (by omega);obtain ⟨c0, c1, c2, c3, c4, c5⟩ := cz6 HB.o;have fc0 := fz HB.o;rw [ho] at c0;clear ho;go_enter Tryz.func71, Tryz.ntmps71;go_wp2_with fail;refine (Z8 MB G L _ _ _ 25 0 c.line wb HSb.o.here (by unfold Zi; omega) (by unfold Zi; omega) hn3 (by omega)).mono ?_;rintro e w1 ⟨rfl, G1, hs⟩;replace hs := HSb.o.trans hs;clear c0 c1 c2 c3 c4 c5 fc0;obtain ⟨L1, hL⟩ : ∃ z, z = L ++ [Zg 25 0 c.line] := ⟨_, rfl⟩;rw [← hL] at hs;have HL1 := zh (show L1 = L ++ ([Zg 25 0 c.line]) by rw [hL]; try simp [Zg]);have HN1 := zh (show L1.length = L.length + 1 by rw [hL]; simp; try omega);have HS1 := zh hs;clear hs hL;have HBk := zh (HS1.o.tn.has HB.o hNP);obtain ⟨c0, c1, c2, c3, c4, c5⟩ := cz6 HBk.o;have fc0 := fz HBk.o;clear HBk;go_wp2_with fail
 go_end0
 refine ⟨rfl, G1, ?_⟩;show SS w w1 MB G G1 (L ++ (Zk (cg n) c m lp L.length).1) (stL lp ls (ex ++ (Zk (cg n) c m lp L.length).2)) m (stB lp bs);rw [Zfs HO.o];refine ((HS.o.here.later HLb.o).trans HS1.o).cast ?_ ?_
 ·rw [HL1.o]; try simp
 ·simp
theorem Zme : ∀ n, Zci n
 | n => fun w MB G L lp ls bs ex F c A k m B HS HP => by
  have IH : ∀ n', n = n' + 1 → Zci n' := fun n' h => by subst h; exact Zme n'
  obtain ⟨hk1, hk2, hk3⟩ := HP.o.ok.1
  by_cases h0 : c.kind < 11
  ·exact Zql n IH w MB G L lp ls bs ex F c A k m B HS HP ⟨hk1, h0⟩
  by_cases h11 : c.kind = 11
  ·exact Zsk n IH w MB G L lp ls bs ex F c A k m B HS HP h11
  by_cases h12 : c.kind = 12
  ·exact Zsl n IH w MB G L lp ls bs ex F c A k m B HS HP h12
  by_cases h13 : c.kind = 13
  ·exact Zsm n IH w MB G L lp ls bs ex F c A k m B HS HP h13
  by_cases h14 : c.kind = 14
  ·exact Zsn n IH w MB G L lp ls bs ex F c A k m B HS HP h14
  by_cases h15 : c.kind = 15
  ·exact Zso n IH w MB G L lp ls bs ex F c A k m B HS HP h15
  by_cases h16 : c.kind = 16
  ·exact Zsp n IH w MB G L lp ls bs ex F c A k m B HS HP h16
  by_cases h17 : c.kind = 17
  ·exact Zsq n IH w MB G L lp ls bs ex F c A k m B HS HP h17
  by_cases h18 : c.kind = 18
  ·exact Zss n IH w MB G L lp ls bs ex F c A k m B HS HP h18
  by_cases h19 : c.kind = 19
  ·exact Zsu n IH w MB G L lp ls bs ex F c A k m B HS HP h19
  by_cases h20 : c.kind = 20
  ·exact Zsw n IH w MB G L lp ls bs ex F c A k m B HS HP h20
  by_cases h21 : c.kind = 21
  ·exact Zsx n IH w MB G L lp ls bs ex F c A k m B HS HP h21
  by_cases h22 : c.kind = 22
  ·exact Zsy n IH w MB G L lp ls bs ex F c A k m B HS HP h22
  by_cases h23 : c.kind = 23
  ·exact Zs0 n IH w MB G L lp ls bs ex F c A k m B HS HP h23
  by_cases h24 : c.kind = 24
  ·exact Zs4 n IH w MB G L lp ls bs ex F c A k m B HS HP h24
  by_cases h25 : c.kind = 25
  ·exact Zs1 n IH w MB G L lp ls bs ex F c A k m B HS HP h25
  by_cases h26 : c.kind = 26
  ·exact Zs2 n IH w MB G L lp ls bs ex F c A k m B HS HP h26
  by_cases h27 : c.kind = 27
  ·exact Zsz n IH w MB G L lp ls bs ex F c A k m B HS HP h27
  exact Zs3 n IH w MB G L lp ls bs ex F c A k m B HS HP (by omega)
theorem Zs5 {a : Act} (N : Nat) (F : Nat → Prop) (w : World) (p : Zu) (A1 A2 A3 : Option Addr) (k1 k2 k3 : Nat) (PB ZB MB OB : Nat) (w0 : World) (HE : Hd (PgB N F w0 p A1 A2 A3 k1 k2 k3 PB)) (hflt : Hd (∀ b, F b → b < w0.heap.size)) (HRT : Hd (Zox N p)) (R U : Nat → Prop) (ev gv : Value) (HI : Hd (CmJ N w0 w p MB OB R U ev gv 0)) (HF : Hd (FnL PB ZB MB OB 0 a)) :
  cnLp.wp Tryz.prog (Zhx fun a' x => FnX PB ZB MB OB a' ∧ CmJ N w0 x p MB OB R U ev gv p.routines.length) a w := by
 obtain ⟨iC, hiC, hz0, hz1, hz2⟩ := info_parts Zrk;obtain ⟨_, _, e1, hkc1, hkm1, _⟩ := HE.o.pg.ro;have hr1 : (p.routines.length : Int) ≤ 9223372036854775807 := by unfold maxLen at hkm1; cases e1; omega
 have hr12 := HRT.o.n;clear e1 hkc1 hkm1;have HF0 := HF;obtain ⟨fr, rfl⟩ := HF.o.opn;clear HF
 conv => arg 2; whnf
 go_wp2_with fail;refine wp_loop_ghost_k (fun g a u => ∃ j : Nat, g + j = p.routines.length ∧ FnL PB ZB MB OB j a ∧ CmJ N w0 u p MB OB R U ev gv j) p.routines.length ⟨0, by omega, HF0.o, HI.o⟩ ?_;clear HF0 fr;rintro gk a u ⟨j, hg, hf, hI⟩ J K hJ hK;obtain ⟨fr, rfl⟩ := hf.opn;obtain ⟨G, H, rv, hcm, hss⟩ := hI;clear hf;have HCM := zh hcm;have HSS := zh hss;have HL0 := zh (show Za w0 u from hcm.bel);have HE2 := zh (HE.o.later HL0.o);clear hcm hss;have g0 := cz4 HE2.o.pb;have fg0 := fz HE2.o.pb
 by_cases hlt : j < p.routines.length
 ·have hlt' : (j : Int) < (p.routines.length : Int) := by omega
  obtain ⟨_, _, eA, _, _, hel⟩ := HE2.o.pg.ro;cases eA;obtain ⟨rb, ro, cs, rfl, hF, hb, hE, hc⟩ := hel j hlt;obtain ⟨vs, vk, rfl, hn1, hn2, hn3, hn4, hn5, hn6, hn7, hn8, hn9⟩ := hE;obtain ⟨As, ks, rfl, hsc, hsm, -⟩ := id hn3;obtain ⟨Ab, kb, rfl, hbc, hbm, -⟩ := id hn9;have e0 := hc 0 _ rfl;have e1 := hc 1 _ rfl;have e2 := hc 2 _ rfl;have e3 := hc 3 _ rfl;have e4 := hc 4 _ rfl;have e5 := hc 5 _ rfl;have e6 := hc 6 _ rfl;have e7 := hc 7 _ rfl;have e8 := hc 8 _ rfl;simp only [Nat.add_zero] at e0;have HOK := zh (HRT.o.at_ hlt);have HSU := zh (Znp (N + 1) p hlt);obtain ⟨r, hr⟩ : ∃ z, z = p.routines[j] := ⟨_, rfl⟩;rw [← hr] at e0 e1 e2 e3 e4 e5 e6 e7 e8 hn1 hn2 hn3 hn4 hn5 hn6 hn7 hn8 hn9 hsc hbc HOK HSU;have HCV := zh (show CV N F u r.body Ab kb from ⟨hn4, hn5, hn6, hn7, hn8, hn9⟩);have HNM := zh hn1;have HPM := zh hn2;have HLN := zh hn7;have hs1 : (r.slots.length : Int) ≤ 9223372036854775807 := by unfold maxLen at hsm; omega
  clear hr hn1 hn2 hn3 hn4 hn5 hn6 hn7 hn8 hn9 hsc hsm hbc hbm hc hel;have hla : Za u (u.alloc (.cells #[.string r.name, .int .i64 r.params, .slice As r.slots.length ks, .int .i64 r.body.kind, .int .i64 r.body.op, .int .i64 r.body.aB, .int .i64 r.body.line, .string r.body.text, .slice Ab r.body.kids.length kb] 70)) := (Za.refl _).alloc _;have hrb := heap_alloc_new u (.cells #[.string r.name, .int .i64 r.params, .slice As r.slots.length ks, .int .i64 r.body.kind, .int .i64 r.body.op, .int .i64 r.body.aB, .int .i64 r.body.line, .string r.body.text, .slice Ab r.body.kids.length kb] 70);obtain ⟨w3, hw3⟩ : ∃ z, u.alloc (.cells #[.string r.name, .int .i64 r.params, .slice As r.slots.length ks, .int .i64 r.body.kind, .int .i64 r.body.op, .int .i64 r.body.aB, .int .i64 r.body.line, .string r.body.text, .slice Ab r.body.kids.length kb] 70) = z := ⟨_, rfl⟩;rw [hw3] at hla hrb;have HLA := zh hla;have HRB := zh hrb;have HW3 := zh hw3;obtain ⟨RB, hRB⟩ : ∃ z, z = u.heap.size := ⟨_, rfl⟩;clear hla hrb hw3;have HCL := zh (Zts (N + 1) p (Nat.le_of_lt hlt));have HE3 := zh (HE2.o.later HLA.o);go_upto_region 9 with (fail);rw [HW3.o];rw [← hRB] at HRB ⊢;have HRS := zh hRB;clear hRB e0 e1 e2 e3 e4 e5 e6 e7 e8 g0 fg0;have HS3 := zh (SS.here (HSS.o.later HLA.o));have HC3 := zh (HCM.o.later HLA.o);obtain ⟨crs, hcrs⟩ : ∃ z, z = (cgA (N + 1) p j).1 := ⟨_, rfl⟩;rw [← hcrs] at HC3 HCM HSU HCL;have HCRS := zh hcrs;obtain ⟨Lj, hLj⟩ : ∃ z, z = (cgA (N + 1) p j).2 := ⟨_, rfl⟩
  rw [← hLj] at HS3 HSS HSU HOK;have HLJ := zh hLj;clear hcrs hLj;obtain ⟨Ar, cr, rfl, hrc, hrm, -⟩ := id HC3.o.rr;obtain ⟨Gc, Gl, Gb, cv, lv, bv, hs, hG⟩ := HS3.o.st;obtain ⟨Ac, cc, rfl, hcc, hcm, -⟩ := id hs.code;have hol : Lj.length ≤ 134000000 := by have := HOK.o.2.2.2; omega
  have b0 := cz4 hs.blk;have fb0 := fz hs.blk;have o0 := cz5 HC3.o.ob;have fo0 := fz HC3.o.ob;have r0 := cz9 HRB.o;have fr0 := fz HRB.o;clear hs hG;have hX : Za w3 (w3.alloc (.cells #[.string r.name, .int .i64 r.params, .int .i64 (r.slots.length : Nat), .int .i64 (Lj.length : Nat)] TCr)) := (Za.refl _).alloc _;have HX := zh hX;have HROW := zh (HC3.o.rr.keep Zac.is (fun _ h => h) (Zb.later hX));have HEL := zh (show Zaj (fun _ => False) (w3.alloc (.cells #[.string r.name, .int .i64 r.params, .int .i64 (r.slots.length : Nat), .int .i64 (Lj.length : Nat)] TCr)) ⟨r.name, r.params, r.slots.length, (Lj.length : Nat)⟩ [.string r.name, .int .i64 r.params, .int .i64 (r.slots.length : Nat), .int .i64 (Lj.length : Nat)] from ⟨rfl, HNM.o, HPM.o, by show Zi (r.slots.length : Int); unfold Zi; omega, by show Zi (Lj.length : Int); unfold Zi; omega⟩);have HNO : Hd (∀ y, (fun _ : Nat => False) y → ¬ H y) := zh (fun _ h => h.elim);have hj12 : crs.length ≤ 12 := by have := HCL.o; omega
  clear hX
  go_upto_region 10 with (at_builtin; refine Zbd Zac rfl _ _ 28 rfl TCr iC (.agg #[.string ⟨#[]⟩, .int .i64 0, .int .i64 0, .int .i64 0]) 40 Tryz.underlying28 hiC hz0 hz1 hz2 rfl rfl HROW.o ⟨w3.heap.size, 0, none⟩ 1 rfl ⟨r.name, r.params, r.slots.length, (Lj.length : Nat)⟩ [.string r.name, .int .i64 r.params, .int .i64 (r.slots.length : Nat), .int .i64 (Lj.length : Nat)] (Zgi w3 [.string r.name, .int .i64 r.params, .int .i64 (r.slots.length : Nat), .int .i64 (Lj.length : Nat)] TCr) (by intro u hu; simp at hu; rcases hu with rfl | rfl | rfl | rfl <;> rfl) HEL.o HNO.o (by omega) (by decide) ?_; intro v2 Y hrow hkp hb0; have HC5 := zh (HC3.o.push HX.o hrow hkp hb0); have HKP := zh (show ∀ K : Nat → Prop, (∀ b, K b → ¬ H b ∧ b ≠ OB) → Zb K _ _ from fun K hK => CmS.push_keep (OB := OB) hkp hK v2); have hYB : Y.heap[OB]? = some (.cells #[.slice Ar crs.length cr, ev, gv, .int .i64 p.main, .slice none 0 0] Zdc (0, 0)) := (hkp.same OB (fun hh => (HC3.o.d OB (.inl hh)).2.2.1 rfl) (Nat.lt_of_lt_of_le (Zc HC3.o.ob) HX.o.size)).trans ((HX.o.block OB (Zc HC3.o.ob)).trans HC3.o.ob); have y0 := cz5 hYB; have fy0 := fz hYB; obtain ⟨A2v, c2v, hv2, -⟩ := id hrow; rw [show (crs ++ [(⟨r.name, r.params, r.slots.length, (Lj.length : Nat)⟩ : Zar)]).length = crs.length + 1 by simp] at hv2; subst hv2; clear hrow hkp hb0 hYB)
  obtain ⟨w5, hw5⟩ : ∃ z, Y.setCell ⟨OB, 0, none⟩ (.slice A2v (crs.length + 1) c2v) = z := ⟨_, rfl⟩;rw [hw5] at HC5 HKP ⊢;clear hw5 y0 fy0 r0 fr0 b0 fb0 o0 fo0;have HK5 := zh (show ∀ K : Nat → Prop, (∀ b, K b → ¬ H b ∧ b ≠ OB) → Zb K w3 w5 from fun K hK => (Zb.later (F := K) HX.o).trans (HKP.o K hK));have HNR : Hd (¬ H RB ∧ RB ≠ OB) := zh ⟨fun hh => by have := (HCM.o.d RB (.inl hh)).2.1; have := HRS.o; omega, fun e => by have := Zc HCM.o.ob; have := HRS.o; omega⟩;have HRB5 := zh (((HK5.o (fun b => b = RB) (fun b hb => hb ▸ HNR.o)).same RB rfl (Zc HRB.o)).trans HRB.o);have HS5 := zh (HS3.o.carry (HK5.o (fun b => b = MB ∨ G b) (fun b hb => ⟨fun hh => (HC3.o.d b (.inl hh)).2.2.2 hb, (HC3.o.dC b hb).2.2⟩)));have HKF := zh (Zri HL0.o (show Za w0 w5 from HC5.o.bel) (by have h1 := HLA.o.size; have h4 := (HK5.o (fun _ => False) (fun _ h => h.elim)).size; omega) hflt.o);have HNRC : Hd (¬ (RB = MB ∨ G RB)) := zh (fun hb => by have := (HCM.o.dC RB hb).2.1; have := HRS.o; omega);have HP : Hd (CxP N w5 MB G (Lj.length + 1) none (([] : List Nat).length + ([] : List Zak).length + ([] : List Int).length) F r.body Ab kb (0 + 1) 1611) := zh (by
   have h0 := HC5.o.bel.size;refine ⟨HCV.o.keep (fun _ h => h) HKF.o, HOK.o.1, fun b hb => ?_, fun b hb => by have := hflt.o b hb; omega, (by have := HOK.o.2.1; omega), (fun x hx => by cases hx), (by have := HOK.o.2.2.1; simp; omega), (by have := HOK.o.2.1; omega), Nat.le_trans HOK.o.2.2.2 (by decide)⟩;have key : ¬ (b = MB ∨ G b) := fun hc => by
    have h1 := (HC5.o.dC b hc).1;have h2 := hflt.o b hb
    omega
   exact ⟨fun e => key (.inl e), fun e => key (.inr e)⟩)
  have r0 := cz9 HRB5.o;have fr0 := fz HRB5.o;go_wp2_with fail;refine (Zc8 N (Zme N) w5 MB G Lj none [] [] [] F r.body Ab kb 0 1611 0 HS5 HP (by unfold Zi; omega)).mono ?_;rintro e w7 ⟨rfl, G7, hs7⟩;have hlb7 := Zre (N := N) HOK.o.1 HOK.o.2.1 Lj.length;obtain ⟨L7, hL7⟩ : ∃ z, z = Lj ++ (Zg 13 0 r.body.line :: ((cg (N + 1) r.body (0 + 1) none (Lj.length + 1)).1 ++ [Zg 14 0 r.body.line])) := ⟨_, rfl⟩;rw [← hL7] at hs7;have HS7 := zh (show SS w5 w7 MB G G7 L7 [] 0 [] from hs7);have HL7 := zh hL7;have hl7 : L7.length = Lj.length + Zaq (cg (N + 1)) r.body 0 none Lj.length := by rw [hL7]; simp [Zaq]
  have HL7L := zh hl7;have ho7 : L7.length ≤ 134100000 := by have := HOK.o.2.2.2; omega
  have hp7 : Lj.length < L7.length := by rw [hl7]; unfold Zaq; omega
  clear hL7 hl7 hs7 hlb7 r0 fr0;have HC7 := zh (HC5.o.ss HS7.o);have HRB7 := zh (HS7.o.tn.has HRB5.o HNRC.o);have HNR7 : Hd (¬ (RB = MB ∨ G7 RB)) := zh (fun hb => by
   rcases hb with hb | hb
   ·exact HNRC.o (.inl hb)
   ·rcases HS7.o.gG RB hb with h | h
    ·exact HNRC.o (.inr h)
    ·have := Zc HRB5.o; omega)
  go_wp2_with fail;refine (Zb9 MB G7 L7 [] 0 [] Lj.length w7 HS7.o.here hp7 (by omega)).mono ?_;rintro e w8 ⟨rfl, hs8⟩;have HS8 := zh hs8;have HC8 := zh (HC7.o.ss hs8);have HRB8 := zh (hs8.tn.has HRB7.o HNR7.o);have HPT := zh (Zav (LL := L7) (A := Lj) (B := (cg (N + 1) r.body (0 + 1) none (Lj.length + 1)).1 ++ [Zg 14 0 r.body.line]) (op := 13) (a0 := 0) (l := r.body.line) (i := Lj.length) (k := Lj.length + Zaq (cg (N + 1)) r.body 0 none Lj.length) HL7.o rfl HL7L.o);clear hs8;have r0 := cz9 HRB8.o;have fr0 := fz HRB8.o;go_wp2_with fail;refine (Z8 MB G7 _ [] 0 [] 25 0 r.body.line w8 HS8.o.here (by unfold Zi; omega) (by unfold Zi; omega) HLN.o (by rw [Zp]; omega)).mono ?_;rintro e w9 ⟨rfl, G9, hs9⟩;have HS9 := zh hs9.here;have HC9 := zh (HC8.o.ss hs9);clear hs9;have tj1 : IntKind.i64.wrap ((j : Int) + 1) = ((j + 1 : Nat) : Int) := by rw [IntWalk.i64_in _ (by omega)]; rfl
  clear r0 fr0;go_wp2_with fail;refine Handed.intro (gk - 1) (by omega) (hJ _ _ _ ⟨j + 1, by omega, FnL.mk' rfl rfl rfl rfl rfl rfl (by show some _ = some _; exact congrArg some (by go_num)), ?_⟩);have hLL : Zei Lj.length (L7.length : Int) L7 ++ [Zg 25 0 r.body.line] = (cgA (N + 1) p (j + 1)).2 := by
   rw [HPT.o, HSU.o];simp [bnd]
  have hcc : (cgA (N + 1) p (j + 1)).1 = crs ++ [⟨r.name, r.params, r.slots.length, (Lj.length : Nat)⟩] := by rw [HSU.o]
  refine ⟨G9, _, _, hcc ▸ HC9.o, hLL ▸ HS9.o⟩
 ·obtain rfl : j = p.routines.length := by omega
  go_wp2_with fail;exact ⟨FnX.mk' rfl rfl rfl rfl rfl rfl, G, H, rv, HCM.o, HSS.o⟩
section
def phS (p : Zu) : Bool := decide (1 ≤ p.routines.length) && (decide (p.routines.length ≤ 12) && (decide (p.aA.length ≤ 8) && ((p.globals.all Zba && decide ((p.globals.length : Int) ≤ 12)) && ((decide (0 ≤ p.main) && decide (p.main ≤ (p.routines.length : Int) - 1)) && ((p.routines.map (·.params)).getD p.main.toNat 1 == 0)))))
def FqX (PB : Nat) (a : Act) : Prop := Fr 151 [(1, .pointer (some ⟨PB, 0, none⟩)), (2, .bool false)] a
section
variable {PB : Nat} {a : Act}
theorem FqX.opn (h : FqX PB a) : ∃ f : Nat → Value, a = ⟨#[f 0, .pointer (some ⟨PB, 0, none⟩), .bool false, f 3, f 4, f 5, f 6, f 7, f 8, f 9, f 10, f 11, f 12, f 13, f 14, f 15, f 16, f 17, f 18, f 19, f 20, f 21, f 22, f 23, f 24, f 25, f 26, f 27, f 28, f 29, f 30, f 31, f 32, f 33, f 34, f 35, f 36, f 37, f 38, f 39, f 40, f 41, f 42, f 43, f 44, f 45, f 46, f 47, f 48, f 49, f 50, f 51, f 52, f 53, f 54, f 55, f 56, f 57, f 58, f 59, f 60, f 61, f 62, f 63, f 64, f 65, f 66, f 67, f 68, f 69, f 70, f 71, f 72, f 73, f 74, f 75, f 76, f 77, f 78, f 79, f 80, f 81, f 82, f 83, f 84, f 85, f 86, f 87, f 88, f 89, f 90, f 91, f 92, f 93, f 94, f 95, f 96, f 97, f 98, f 99, f 100, f 101, f 102, f 103, f 104, f 105, f 106, f 107, f 108, f 109, f 110, f 111, f 112, f 113, f 114, f 115, f 116, f 117, f 118, f 119, f 120, f 121, f 122, f 123, f 124, f 125, f 126, f 127, f 128, f 129, f 130, f 131, f 132, f 133, f 134, f 135, f 136, f 137, f 138, f 139, f 140, f 141, f 142, f 143, f 144, f 145, f 146, f 147, f 148, f 149, f 150], []⟩ := by
 obtain ⟨f, e, hf⟩ := Fr.lit h;obtain ⟨h1, h2, -⟩ := h.has;refine ⟨f, e.trans ?_⟩;have k1 := Zf h1 (hf 1 (by omega));have k2 := Zf h2 (hf 2 (by omega));rw [← k1];rw [← k2]
 rfl
theorem FqX.mk' {A : Array Value} (hs : A.size = 151) (h1 : A[1]? = some (.pointer (some ⟨PB, 0, none⟩))) (h2 : A[2]? = some (.bool false)) : FqX PB ⟨A, []⟩ := ⟨hs, rfl, h1, h2, trivial⟩
end
def FqA (PB : Nat) (tt : Bool) (a : Act) : Prop := Fr 151 [(1, .pointer (some ⟨PB, 0, none⟩)), (2, .bool false), (50, .bool tt)] a
section
variable {PB : Nat} {tt : Bool} {a : Act}
theorem FqA.opn (h : FqA PB tt a) : ∃ f : Nat → Value, a = ⟨#[f 0, .pointer (some ⟨PB, 0, none⟩), .bool false, f 3, f 4, f 5, f 6, f 7, f 8, f 9, f 10, f 11, f 12, f 13, f 14, f 15, f 16, f 17, f 18, f 19, f 20, f 21, f 22, f 23, f 24, f 25, f 26, f 27, f 28, f 29, f 30, f 31, f 32, f 33, f 34, f 35, f 36, f 37, f 38, f 39, f 40, f 41, f 42, f 43, f 44, f 45, f 46, f 47, f 48, f 49, .bool tt, f 51, f 52, f 53, f 54, f 55, f 56, f 57, f 58, f 59, f 60, f 61, f 62, f 63, f 64, f 65, f 66, f 67, f 68, f 69, f 70, f 71, f 72, f 73, f 74, f 75, f 76, f 77, f 78, f 79, f 80, f 81, f 82, f 83, f 84, f 85, f 86, f 87, f 88, f 89, f 90, f 91, f 92, f 93, f 94, f 95, f 96, f 97, f 98, f 99, f 100, f 101, f 102, f 103, f 104, f 105, f 106, f 107, f 108, f 109, f 110, f 111, f 112, f 113, f 114, f 115, f 116, f 117, f 118, f 119, f 120, f 121, f 122, f 123, f 124, f 125, f 126, f 127, f 128, f 129, f 130, f 131, f 132, f 133, f 134, f 135, f 136, f 137, f 138, f 139, f 140, f 141, f 142, f 143, f 144, f 145, f 146, f 147, f 148, f 149, f 150], []⟩ := by
 obtain ⟨f, e, hf⟩ := Fr.lit h;obtain ⟨h1, h2, h50, -⟩ := h.has;refine ⟨f, e.trans ?_⟩;have k1 := Zf h1 (hf 1 (by omega));have k2 := Zf h2 (hf 2 (by omega));have k50 := Zf h50 (hf 50 (by omega));rw [← k1];rw [← k2];rw [← k50]
 rfl
theorem FqA.mk' {A : Array Value} (hs : A.size = 151) (h1 : A[1]? = some (.pointer (some ⟨PB, 0, none⟩))) (h2 : A[2]? = some (.bool false)) (h50 : A[50]? = some (.bool tt)) : FqA PB tt ⟨A, []⟩ := ⟨hs, rfl, h1, h2, h50, trivial⟩
end
noncomputable def iqHd : Code := cL (cL (cR (Zch Tryz.f24)))
end
theorem Zs7 {a : Act} (N : Nat) (F : Nat → Prop) (w : World) (p : Zu) (A1 A2 A3 : Option Addr) (k1 k2 k3 : Nat) (PB : Nat) (HE : Hd (PgB N F w p A1 A2 A3 k1 k2 k3 PB)) (HF : Hd (FqX PB a)) :
  iqHd.wp Tryz.prog (Zhx fun a' x => FqA PB (!(phS p)) a' ∧ Za w x) a w := by
 obtain ⟨_, _, e1, hkc1, hkm1, _⟩ := HE.o.pg.ro;obtain ⟨_, _, e2, hkc2, hkm2, _⟩ := HE.o.pg.re;obtain ⟨_, _, e3, hkc3, hkm3, _⟩ := HE.o.pg.gl;have h64 := HE.o.pg.m;have hr1 : (p.routines.length : Int) ≤ 9223372036854775807 := by unfold maxLen at hkm1; cases e1; omega
 have hr2 : (p.aA.length : Int) ≤ 9223372036854775807 := by unfold maxLen at hkm2; cases e2; omega
 have hr3 : (p.globals.length : Int) ≤ 9223372036854775807 := by unfold maxLen at hkm3; cases e3; omega
 clear e1 e2 e3 hkc1 hkc2 hkc3 hkm1 hkm2 hkm3;have tnr : IntKind.i64.wrap ((p.routines.length : Int) - 1) = (p.routines.length : Int) - 1 := IntWalk.i64_in _ (by omega);obtain ⟨b1, hb1⟩ : ∃ q : Bool, decide ((p.routines.length : Int) < 1) = q := ⟨_, rfl⟩;obtain ⟨b2, hb2⟩ : ∃ q : Bool, decide ((12 : Int) < (p.routines.length : Int)) = q := ⟨_, rfl⟩;obtain ⟨b3, hb3⟩ : ∃ q : Bool, decide ((8 : Int) < (p.aA.length : Int)) = q := ⟨_, rfl⟩;obtain ⟨q1, hq1⟩ : ∃ q : Bool, (p.globals.all Zba && decide ((p.globals.length : Int) ≤ 12)) = q := ⟨_, rfl⟩;obtain ⟨q2, hq2⟩ : ∃ q : Bool, (decide (0 ≤ p.main) && decide (p.main ≤ (p.routines.length : Int) - 1)) = q := ⟨_, rfl⟩;obtain ⟨q3, hq3⟩ : ∃ q : Bool, ((p.routines.map (·.params)).getD p.main.toNat 1 == 0) = q := ⟨_, rfl⟩;have HD := zh (show phS p = (!b1 && (!b2 && (!b3 && (q1 && (q2 && q3))))) by
  unfold phS;rw [hq1, hq2, hq3, ← hb1, ← hb2, ← hb3];rw [Bool.eq_iff_iff];simp only [Bool.and_eq_true, nJ, Bool.not_eq_true', nI, Int.not_lt, Int.not_le]
  constructor <;> (rintro ⟨a1, a2, a3, a4⟩; exact ⟨by omega, by omega, by omega, a4⟩))
 have HQ1 := zh hq1;have HQ2 := zh hq2;have HQ3 := zh hq3;clear hq1 hq2 hq3;obtain ⟨g0, g1, g2, g3⟩ := cz4 HE.o.pb;have fg0 := fz HE.o.pb;obtain ⟨fr, rfl⟩ := HF.o.opn;clear HF
 conv => arg 2; whnf
 cases b1 with
 | true => (go_wp2_with fail; rw [HD.o]; exact ⟨FqA.mk' rfl rfl rfl rfl, Za.refl _⟩)
 | false =>
 cases b2 with
 | true => (go_wp2_with fail; rw [HD.o]; exact ⟨FqA.mk' rfl rfl rfl rfl, Za.refl _⟩)
 | false =>
 cases b3 with
 | true => (go_wp2_with fail; rw [HD.o]; exact ⟨FqA.mk' rfl rfl rfl rfl, Za.refl _⟩)
 | false =>
 go_wp2_with fail;refine (Zhm p.globals _ 12 F _ HE.o.pg.gl).mono ?_;rintro e w2 ⟨rfl, hl2⟩;rw [HQ1.o];have HL2 := zh (show Za w w2 from hl2);have HE2 := zh (HE.o.later hl2);clear hl2;clear g0 g1 g2 g3 fg0;obtain ⟨g0, g1, g2, g3⟩ := cz4 HE2.o.pb;have fg0 := fz HE2.o.pb
 cases q1 with
 | false => (go_wp2_with fail; rw [HD.o]; exact ⟨FqA.mk' rfl rfl rfl rfl, HL2.o⟩)
 | true =>
 go_wp2_with fail;refine (Zd9 p.main 0 ((p.routines.length : Int) - 1) _).mono ?_;rintro e w3 ⟨rfl, rfl⟩;rw [HQ2.o]
 cases q2 with
 | false => (go_wp2_with fail; rw [HD.o]; exact ⟨FqA.mk' rfl rfl rfl rfl, HL2.o⟩)
 | true =>
 have hm := HQ2.o;simp only [Bool.and_eq_true, nJ] at hm;obtain ⟨hm0, hm1⟩ := hm;obtain ⟨mi, hmi⟩ : ∃ z : Nat, p.main = (z : Int) := ⟨p.main.toNat, by omega⟩;have hml : mi < p.routines.length := by omega
 have hmlt : (mi : Int) < (p.routines.length : Int) := by omega
 have hm0' : (0 : Int) ≤ (mi : Int) := by omega
 obtain ⟨_, _, eA, _, _, hel⟩ := HE2.o.pg.ro;cases eA;obtain ⟨rb, ro, cs, rfl, hF, hb, hE, hc⟩ := hel mi hml;obtain ⟨vs, vk, rfl, -⟩ := hE;have e1 := hc 1 _ rfl;have hq3 := HQ3.o;rw [hmi, Int.toNat_natCast, List.getD_eq_getElem?_getD, List.getElem?_map, List.getElem?_eq_getElem hml] at hq3;simp only [Option.map_some, Option.getD_some] at hq3;have hbn : (p.routines[mi].params != 0) = !q3 := by rw [← hq3]; rfl
 obtain ⟨pm, hpm⟩ : ∃ z, z = p.routines[mi].params := ⟨_, rfl⟩;rw [← hpm] at e1 hbn;clear hq3 hpm hel hc hm0 hm1;rw [hmi] at g3;have HMI := zh hmi;clear hmi
 cases q3 <;> (go_wp2_with fail; rw [HD.o]; exact ⟨FqA.mk' rfl rfl rfl rfl, HL2.o⟩)
section
def FqR (PB : Nat) (j : Nat) (a : Act) : Prop := Fr 151 [(1, .pointer (some ⟨PB, 0, none⟩)), (2, .bool false), (3, .int .i64 (j : Nat))] a
section
variable {PB : Nat} {j : Nat} {a : Act}
theorem FqR.opn (h : FqR PB j a) : ∃ f : Nat → Value, a = ⟨#[f 0, .pointer (some ⟨PB, 0, none⟩), .bool false, .int .i64 (j : Nat), f 4, f 5, f 6, f 7, f 8, f 9, f 10, f 11, f 12, f 13, f 14, f 15, f 16, f 17, f 18, f 19, f 20, f 21, f 22, f 23, f 24, f 25, f 26, f 27, f 28, f 29, f 30, f 31, f 32, f 33, f 34, f 35, f 36, f 37, f 38, f 39, f 40, f 41, f 42, f 43, f 44, f 45, f 46, f 47, f 48, f 49, f 50, f 51, f 52, f 53, f 54, f 55, f 56, f 57, f 58, f 59, f 60, f 61, f 62, f 63, f 64, f 65, f 66, f 67, f 68, f 69, f 70, f 71, f 72, f 73, f 74, f 75, f 76, f 77, f 78, f 79, f 80, f 81, f 82, f 83, f 84, f 85, f 86, f 87, f 88, f 89, f 90, f 91, f 92, f 93, f 94, f 95, f 96, f 97, f 98, f 99, f 100, f 101, f 102, f 103, f 104, f 105, f 106, f 107, f 108, f 109, f 110, f 111, f 112, f 113, f 114, f 115, f 116, f 117, f 118, f 119, f 120, f 121, f 122, f 123, f 124, f 125, f 126, f 127, f 128, f 129, f 130, f 131, f 132, f 133, f 134, f 135, f 136, f 137, f 138, f 139, f 140, f 141, f 142, f 143, f 144, f 145, f 146, f 147, f 148, f 149, f 150], []⟩ := by
 obtain ⟨f, e, hf⟩ := Fr.lit h;obtain ⟨h1, h2, h3, -⟩ := h.has;refine ⟨f, e.trans ?_⟩;have k1 := Zf h1 (hf 1 (by omega));have k2 := Zf h2 (hf 2 (by omega));have k3 := Zf h3 (hf 3 (by omega));rw [← k1];rw [← k2];rw [← k3]
 rfl
theorem FqR.mk' {A : Array Value} (hs : A.size = 151) (h1 : A[1]? = some (.pointer (some ⟨PB, 0, none⟩))) (h2 : A[2]? = some (.bool false)) (h3 : A[3]? = some (.int .i64 (j : Nat))) : FqR PB j ⟨A, []⟩ := ⟨hs, rfl, h1, h2, h3, trivial⟩
end
noncomputable def iqRc : Code := cR (cL (cR (cR (Zch Tryz.f24))))
end
theorem Zs8 {a : Act} (N : Nat) (F : Nat → Prop) (w : World) (p : Zu) (A1 A2 A3 : Option Addr) (k1 k2 k3 : Nat) (PB : Nat) (HE : Hd (PgB N F w p A1 A2 A3 k1 k2 k3 PB)) (HF : Hd (FqR PB 0 a)) :
  iqRc.wp Tryz.prog (Zjk (fun a' x => p.aA.all Zeu = true ∧ FqX PB a' ∧ Za w x) (fun a' x => p.aA.all Zeu = false ∧ FqX PB a' ∧ Za w x)) a w := by
 have HF0 := HF;obtain ⟨_, _, e1, hkc1, hkm1, _⟩ := HE.o.pg.re;have hr1 : (p.aA.length : Int) ≤ 9223372036854775807 := by unfold maxLen at hkm1; cases e1; omega
 clear e1 hkc1 hkm1;have g0 := cz4 HE.o.pb;have fg0 := fz HE.o.pb;obtain ⟨fr, rfl⟩ := HF.o.opn;clear HF
 conv => arg 2; whnf
 go_wp2_with fail;refine wp_loop_ghost_k (fun g a u => ∃ j : Nat, g + j = p.aA.length ∧ FqR PB j a ∧ Hd (∀ i (h : i < p.aA.length), i < j → Zeu p.aA[i] = true) ∧ Za w u) p.aA.length ⟨0, by omega, HF0.o, zh (fun i _ h => by omega), Za.refl _⟩ ?_;clear g0 fg0 HF0 fr;rintro gk a u ⟨j, hg, hf, HJ, hl⟩ J K hJ hK;obtain ⟨fr, rfl⟩ := hf.opn;have HLL := zh hl;have HE2 := zh (HE.o.later hl);clear hl hf;have g0 := cz4 HE2.o.pb;have fg0 := fz HE2.o.pb
 by_cases hlt : j < p.aA.length
 ·have hlt' : (j : Int) < (p.aA.length : Int) := by omega
  obtain ⟨_, _, eA, _, _, hel⟩ := HE2.o.pg.re;cases eA;obtain ⟨rb, ro, cs, rfl, hF, hb, hE, hc⟩ := hel j hlt;obtain ⟨vs, rfl, hn1, hn2, hn3⟩ := hE;obtain ⟨As, ks, rfl, hsc, hsm, -⟩ := id hn2;have e0 := hc 0 _ rfl;have e1 := hc 1 _ rfl;have e2 := hc 2 _ rfl;simp only [Nat.add_zero] at e0;obtain ⟨r, hr⟩ : ∃ z, z = p.aA[j] := ⟨_, rfl⟩;rw [← hr] at e0 e1 e2 hn1 hn2 hn3 hsc;have HR := zh hr;have HSL := zh hn2;have HNM := zh hn1;clear hr hn1 hn2 hsc hsm hc hel;have hla : Za u (u.alloc (.cells #[.string r.name, .slice As r.fields.length ks, .int .i64 r.line] 101)) := (Za.refl _).alloc _;have hrb := heap_alloc_new u (.cells #[.string r.name, .slice As r.fields.length ks, .int .i64 r.line] 101);obtain ⟨w3, hw3⟩ : ∃ z, u.alloc (.cells #[.string r.name, .slice As r.fields.length ks, .int .i64 r.line] 101) = z := ⟨_, rfl⟩;rw [hw3] at hla hrb;have HE3 := zh (HE2.o.later hla);have HL3 := zh (Za.trans HLL.o hla);have HRB := zh hrb;have HSL3 := zh (HSL.o.keep Zt (fun _ h => h) (Zb.later hla));have HW3 := zh hw3;obtain ⟨RB, hRB⟩ : ∃ z, z = u.heap.size := ⟨_, rfl⟩;clear hla hrb hw3;obtain ⟨n1, hn1⟩ : ∃ q : Bool, Zba r.name = q := ⟨_, rfl⟩;obtain ⟨n2, hn2⟩ : ∃ q : Bool, (r.fields.all Zba && decide ((r.fields.length : Int) ≤ 6)) = q := ⟨_, rfl⟩;obtain ⟨n3, hn3'⟩ : ∃ q : Bool, twB r.fields = q := ⟨_, rfl⟩;obtain ⟨b4, hb4⟩ : ∃ q : Bool, decide (r.line < 0) = q := ⟨_, rfl⟩;have HRO := zh (show Zeu r = (n1 && (n2 && (!n3 && !b4))) by
   unfold Zeu;rw [hn1, ← hn2, hn3', ← hb4, Bool.eq_iff_iff];simp only [Bool.and_eq_true, nJ, Bool.not_eq_true', nI, Int.not_lt]
   constructor
   ·rintro ⟨a1, a2, a3, a4, a5⟩; exact ⟨a1, ⟨a3, by omega⟩, a4, a5⟩
   ·rintro ⟨a1, ⟨a3, a2⟩, a4, a5⟩; exact ⟨a1, by omega, a3, a4, a5⟩)
  have HN1 := zh hn1;have HN2 := zh hn2;have HN3 := zh hn3';clear hn1 hn2 hn3';go_upto_region 7 with (fail);rw [HW3.o];rw [← hRB] at HRB ⊢;have HRS := zh hRB;clear hRB e0 e1 e2;have r0 := cz3 HRB.o;have fr0 := fz HRB.o;go_wp2_with fail;refine (Zc5 r.name _ HNM.o).mono ?_;rintro e w4 ⟨rfl, hl4⟩;rw [HN1.o];have HL4 := zh (Za.trans HL3.o hl4);have HRB4 := zC hl4 HRB;have HSL4 := zh (HSL3.o.keep Zt (fun _ h => h) (Zb.later hl4));clear hl4;clear r0 fr0;have r0 := cz3 HRB4.o;have fr0 := fz HRB4.o
  cases n1 with
  | false => (go_wp2_with fail; exact ⟨Zce hlt (by rw [← HR.o, HRO.o]; simp), FqX.mk' rfl rfl rfl, HL4.o⟩)
  | true =>
  go_wp2_with fail;refine (Zhm r.fields _ 6 F _ HSL4.o).mono ?_;rintro e w5 ⟨rfl, hl5⟩;rw [HN2.o];have HL5 := zh (Za.trans HL4.o hl5);have HRB5 := zC hl5 HRB4;have HSL5 := zh (HSL4.o.keep Zt (fun _ h => h) (Zb.later hl5));clear hl5;clear r0 fr0;have r0 := cz3 HRB5.o;have fr0 := fz HRB5.o
  cases n2 with
  | false => (go_wp2_with fail; exact ⟨Zce hlt (by rw [← HR.o, HRO.o]; simp), FqX.mk' rfl rfl rfl, HL5.o⟩)
  | true =>
  go_wp2_with fail;refine (Zno r.fields _ F _ HSL5.o).mono ?_;rintro e w6 ⟨rfl, rfl⟩;rw [HN3.o]
  cases n3 with
  | true => (go_wp2_with fail; exact ⟨Zce hlt (by rw [← HR.o, HRO.o]; simp), FqX.mk' rfl rfl rfl, HL5.o⟩)
  | false =>
  cases b4 with
  | true => (go_wp2_with fail; exact ⟨Zce hlt (by rw [← HR.o, HRO.o]; simp), FqX.mk' rfl rfl rfl, HL5.o⟩)
  | false =>
  go_wp2_with fail;refine Handed.intro (gk - 1) (by omega) (hJ _ _ _ ⟨j + 1, by omega, FqR.mk' rfl rfl rfl (by show some _ = some _; exact congrArg some (by go_num)), zh (Zik HJ.o (fun h => by rw [← HR.o, HRO.o]; rfl)), HL5.o⟩)
 ·obtain rfl : j = p.aA.length := by omega
  go_wp2_with fail;exact ⟨Zmv (fun i hi => HJ.o i hi hi), FqX.mk' rfl rfl rfl, HLL.o⟩
section
def FqT (PB : Nat) (cn j RB : Nat) (a : Act) : Prop := Fr 151 [(1, .pointer (some ⟨PB, 0, none⟩)), (2, .bool false), (5, .int .i64 (cn : Nat)), (6, .int .i64 (j : Nat)), (7, .pointer (some ⟨RB, 0, none⟩))] a
section
variable {PB : Nat} {cn j RB : Nat} {a : Act}
theorem FqT.opn (h : FqT PB cn j RB a) : ∃ f : Nat → Value, a = ⟨#[f 0, .pointer (some ⟨PB, 0, none⟩), .bool false, f 3, f 4, .int .i64 (cn : Nat), .int .i64 (j : Nat), .pointer (some ⟨RB, 0, none⟩), f 8, f 9, f 10, f 11, f 12, f 13, f 14, f 15, f 16, f 17, f 18, f 19, f 20, f 21, f 22, f 23, f 24, f 25, f 26, f 27, f 28, f 29, f 30, f 31, f 32, f 33, f 34, f 35, f 36, f 37, f 38, f 39, f 40, f 41, f 42, f 43, f 44, f 45, f 46, f 47, f 48, f 49, f 50, f 51, f 52, f 53, f 54, f 55, f 56, f 57, f 58, f 59, f 60, f 61, f 62, f 63, f 64, f 65, f 66, f 67, f 68, f 69, f 70, f 71, f 72, f 73, f 74, f 75, f 76, f 77, f 78, f 79, f 80, f 81, f 82, f 83, f 84, f 85, f 86, f 87, f 88, f 89, f 90, f 91, f 92, f 93, f 94, f 95, f 96, f 97, f 98, f 99, f 100, f 101, f 102, f 103, f 104, f 105, f 106, f 107, f 108, f 109, f 110, f 111, f 112, f 113, f 114, f 115, f 116, f 117, f 118, f 119, f 120, f 121, f 122, f 123, f 124, f 125, f 126, f 127, f 128, f 129, f 130, f 131, f 132, f 133, f 134, f 135, f 136, f 137, f 138, f 139, f 140, f 141, f 142, f 143, f 144, f 145, f 146, f 147, f 148, f 149, f 150], []⟩ := by
 obtain ⟨f, e, hf⟩ := Fr.lit h;obtain ⟨h1, h2, h5, h6, h7, -⟩ := h.has;refine ⟨f, e.trans ?_⟩;have k1 := Zf h1 (hf 1 (by omega));have k2 := Zf h2 (hf 2 (by omega));have k5 := Zf h5 (hf 5 (by omega));have k6 := Zf h6 (hf 6 (by omega));have k7 := Zf h7 (hf 7 (by omega));rw [← k1];rw [← k2];rw [← k5];rw [← k6];rw [← k7]
 rfl
theorem FqT.mk' {A : Array Value} (hs : A.size = 151) (h1 : A[1]? = some (.pointer (some ⟨PB, 0, none⟩))) (h2 : A[2]? = some (.bool false)) (h5 : A[5]? = some (.int .i64 (cn : Nat))) (h6 : A[6]? = some (.int .i64 (j : Nat))) (h7 : A[7]? = some (.pointer (some ⟨RB, 0, none⟩))) : FqT PB cn j RB ⟨A, []⟩ := ⟨hs, rfl, h1, h2, h5, h6, h7, trivial⟩
end
def FqS (PB : Nat) (cn j RB i : Nat) (a : Act) : Prop := Fr 151 [(1, .pointer (some ⟨PB, 0, none⟩)), (2, .bool false), (5, .int .i64 (cn : Nat)), (6, .int .i64 (j : Nat)), (7, .pointer (some ⟨RB, 0, none⟩)), (8, .int .i64 (i : Nat))] a
section
variable {PB : Nat} {cn j RB i : Nat} {a : Act}
theorem FqS.opn (h : FqS PB cn j RB i a) : ∃ f : Nat → Value, a = ⟨#[f 0, .pointer (some ⟨PB, 0, none⟩), .bool false, f 3, f 4, .int .i64 (cn : Nat), .int .i64 (j : Nat), .pointer (some ⟨RB, 0, none⟩), .int .i64 (i : Nat), f 9, f 10, f 11, f 12, f 13, f 14, f 15, f 16, f 17, f 18, f 19, f 20, f 21, f 22, f 23, f 24, f 25, f 26, f 27, f 28, f 29, f 30, f 31, f 32, f 33, f 34, f 35, f 36, f 37, f 38, f 39, f 40, f 41, f 42, f 43, f 44, f 45, f 46, f 47, f 48, f 49, f 50, f 51, f 52, f 53, f 54, f 55, f 56, f 57, f 58, f 59, f 60, f 61, f 62, f 63, f 64, f 65, f 66, f 67, f 68, f 69, f 70, f 71, f 72, f 73, f 74, f 75, f 76, f 77, f 78, f 79, f 80, f 81, f 82, f 83, f 84, f 85, f 86, f 87, f 88, f 89, f 90, f 91, f 92, f 93, f 94, f 95, f 96, f 97, f 98, f 99, f 100, f 101, f 102, f 103, f 104, f 105, f 106, f 107, f 108, f 109, f 110, f 111, f 112, f 113, f 114, f 115, f 116, f 117, f 118, f 119, f 120, f 121, f 122, f 123, f 124, f 125, f 126, f 127, f 128, f 129, f 130, f 131, f 132, f 133, f 134, f 135, f 136, f 137, f 138, f 139, f 140, f 141, f 142, f 143, f 144, f 145, f 146, f 147, f 148, f 149, f 150], []⟩ := by
 obtain ⟨f, e, hf⟩ := Fr.lit h;obtain ⟨h1, h2, h5, h6, h7, h8, -⟩ := h.has;refine ⟨f, e.trans ?_⟩;have k1 := Zf h1 (hf 1 (by omega));have k2 := Zf h2 (hf 2 (by omega));have k5 := Zf h5 (hf 5 (by omega));have k6 := Zf h6 (hf 6 (by omega));have k7 := Zf h7 (hf 7 (by omega));have k8 := Zf h8 (hf 8 (by omega));rw [← k1];rw [← k2];rw [← k5];rw [← k6];rw [← k7];rw [← k8]
 rfl
theorem FqS.mk' {A : Array Value} (hs : A.size = 151) (h1 : A[1]? = some (.pointer (some ⟨PB, 0, none⟩))) (h2 : A[2]? = some (.bool false)) (h5 : A[5]? = some (.int .i64 (cn : Nat))) (h6 : A[6]? = some (.int .i64 (j : Nat))) (h7 : A[7]? = some (.pointer (some ⟨RB, 0, none⟩))) (h8 : A[8]? = some (.int .i64 (i : Nat))) : FqS PB cn j RB i ⟨A, []⟩ := ⟨hs, rfl, h1, h2, h5, h6, h7, h8, trivial⟩
end
noncomputable def iqSl : Code := cR (cL (cR (cR (cB (cL (cR (cB (cB (cR (cL (cR (cR (cR (cR (Zch Tryz.f24)))))))))))))))
end
section
def FqU (PB : Nat) (cn j : Nat) (a : Act) : Prop := Fr 151 [(1, .pointer (some ⟨PB, 0, none⟩)), (2, .bool false), (5, .int .i64 (cn : Nat)), (6, .int .i64 (j : Nat))] a
section
variable {PB : Nat} {cn j : Nat} {a : Act}
theorem FqU.opn (h : FqU PB cn j a) : ∃ f : Nat → Value, a = ⟨#[f 0, .pointer (some ⟨PB, 0, none⟩), .bool false, f 3, f 4, .int .i64 (cn : Nat), .int .i64 (j : Nat), f 7, f 8, f 9, f 10, f 11, f 12, f 13, f 14, f 15, f 16, f 17, f 18, f 19, f 20, f 21, f 22, f 23, f 24, f 25, f 26, f 27, f 28, f 29, f 30, f 31, f 32, f 33, f 34, f 35, f 36, f 37, f 38, f 39, f 40, f 41, f 42, f 43, f 44, f 45, f 46, f 47, f 48, f 49, f 50, f 51, f 52, f 53, f 54, f 55, f 56, f 57, f 58, f 59, f 60, f 61, f 62, f 63, f 64, f 65, f 66, f 67, f 68, f 69, f 70, f 71, f 72, f 73, f 74, f 75, f 76, f 77, f 78, f 79, f 80, f 81, f 82, f 83, f 84, f 85, f 86, f 87, f 88, f 89, f 90, f 91, f 92, f 93, f 94, f 95, f 96, f 97, f 98, f 99, f 100, f 101, f 102, f 103, f 104, f 105, f 106, f 107, f 108, f 109, f 110, f 111, f 112, f 113, f 114, f 115, f 116, f 117, f 118, f 119, f 120, f 121, f 122, f 123, f 124, f 125, f 126, f 127, f 128, f 129, f 130, f 131, f 132, f 133, f 134, f 135, f 136, f 137, f 138, f 139, f 140, f 141, f 142, f 143, f 144, f 145, f 146, f 147, f 148, f 149, f 150], []⟩ := by
 obtain ⟨f, e, hf⟩ := Fr.lit h;obtain ⟨h1, h2, h5, h6, -⟩ := h.has;refine ⟨f, e.trans ?_⟩;have k1 := Zf h1 (hf 1 (by omega));have k2 := Zf h2 (hf 2 (by omega));have k5 := Zf h5 (hf 5 (by omega));have k6 := Zf h6 (hf 6 (by omega));rw [← k1];rw [← k2];rw [← k5];rw [← k6]
 rfl
theorem FqU.mk' {A : Array Value} (hs : A.size = 151) (h1 : A[1]? = some (.pointer (some ⟨PB, 0, none⟩))) (h2 : A[2]? = some (.bool false)) (h5 : A[5]? = some (.int .i64 (cn : Nat))) (h6 : A[6]? = some (.int .i64 (j : Nat))) : FqU PB cn j ⟨A, []⟩ := ⟨hs, rfl, h1, h2, h5, h6, trivial⟩
end
def FqN (PB : Nat) (cn : Nat) (a : Act) : Prop := Fr 151 [(1, .pointer (some ⟨PB, 0, none⟩)), (2, .bool false), (5, .int .i64 (cn : Nat))] a
section
variable {PB : Nat} {cn : Nat} {a : Act}
theorem FqN.opn (h : FqN PB cn a) : ∃ f : Nat → Value, a = ⟨#[f 0, .pointer (some ⟨PB, 0, none⟩), .bool false, f 3, f 4, .int .i64 (cn : Nat), f 6, f 7, f 8, f 9, f 10, f 11, f 12, f 13, f 14, f 15, f 16, f 17, f 18, f 19, f 20, f 21, f 22, f 23, f 24, f 25, f 26, f 27, f 28, f 29, f 30, f 31, f 32, f 33, f 34, f 35, f 36, f 37, f 38, f 39, f 40, f 41, f 42, f 43, f 44, f 45, f 46, f 47, f 48, f 49, f 50, f 51, f 52, f 53, f 54, f 55, f 56, f 57, f 58, f 59, f 60, f 61, f 62, f 63, f 64, f 65, f 66, f 67, f 68, f 69, f 70, f 71, f 72, f 73, f 74, f 75, f 76, f 77, f 78, f 79, f 80, f 81, f 82, f 83, f 84, f 85, f 86, f 87, f 88, f 89, f 90, f 91, f 92, f 93, f 94, f 95, f 96, f 97, f 98, f 99, f 100, f 101, f 102, f 103, f 104, f 105, f 106, f 107, f 108, f 109, f 110, f 111, f 112, f 113, f 114, f 115, f 116, f 117, f 118, f 119, f 120, f 121, f 122, f 123, f 124, f 125, f 126, f 127, f 128, f 129, f 130, f 131, f 132, f 133, f 134, f 135, f 136, f 137, f 138, f 139, f 140, f 141, f 142, f 143, f 144, f 145, f 146, f 147, f 148, f 149, f 150], []⟩ := by
 obtain ⟨f, e, hf⟩ := Fr.lit h;obtain ⟨h1, h2, h5, -⟩ := h.has;refine ⟨f, e.trans ?_⟩;have k1 := Zf h1 (hf 1 (by omega));have k2 := Zf h2 (hf 2 (by omega));have k5 := Zf h5 (hf 5 (by omega));rw [← k1];rw [← k2];rw [← k5]
 rfl
theorem FqN.mk' {A : Array Value} (hs : A.size = 151) (h1 : A[1]? = some (.pointer (some ⟨PB, 0, none⟩))) (h2 : A[2]? = some (.bool false)) (h5 : A[5]? = some (.int .i64 (cn : Nat))) : FqN PB cn ⟨A, []⟩ := ⟨hs, rfl, h1, h2, h5, trivial⟩
end
noncomputable def iqRt : Code := cR (cL (cR (cR (cR (cR (Zch Tryz.f24))))))
end
theorem Zs9 {a : Act} (F : Nat → Prop) (w : World) (r : Zaw) (As Ab : Option Addr) (ks kb : Nat) (PB RB cn j : Nat) (HRB : Hd (w.heap[RB]? = some (.cells #[.string r.name, .int .i64 r.params, .slice As r.slots.length ks, .int .i64 r.body.kind, .int .i64 r.body.op, .int .i64 r.body.aB, .int .i64 r.body.line, .string r.body.text, .slice Ab r.body.kids.length kb] 70 (0, 0)))) (HSL : Hd (Z5 Zbe 1 F w r.slots (.slice As r.slots.length ks))) (HF : Hd (FqS PB cn j RB 0 a)) :
  iqSl.wp Tryz.prog (Zjk (fun a' x => r.slots.any slB = false ∧ FqT PB cn j RB a' ∧ Za w x) (fun a' x => r.slots.any slB = true ∧ FqX PB a' ∧ Za w x)) a w := by
 have HF0 := HF;obtain ⟨_, _, e1, hkc1, hkm1, _⟩ := HSL.o;have hr1 : (r.slots.length : Int) ≤ 9223372036854775807 := by unfold maxLen at hkm1; cases e1; omega
 clear e1 hkc1 hkm1;obtain ⟨fr, rfl⟩ := HF.o.opn;clear HF
 conv => arg 2; whnf
 go_wp2_with fail;refine wp_loop_ghost_k (fun g a u => ∃ i : Nat, g + i = r.slots.length ∧ FqS PB cn j RB i a ∧ Hd (∀ k (h : k < r.slots.length), k < i → slB r.slots[k] = false) ∧ Za w u) r.slots.length ⟨0, by omega, HF0.o, zh (fun k _ h => by omega), Za.refl _⟩ ?_;clear HF0 fr;rintro gk a u ⟨i, hg, hf, HJ, hl⟩ J K hJ hK;obtain ⟨fr, rfl⟩ := hf.opn;have HLL := zh hl;have HRB2 := zC hl HRB;have HSL2 := zh (HSL.o.keep Zt (fun _ h => h) (Zb.later hl));clear hl hf;have r0 := cz9 HRB2.o;have fr0 := fz HRB2.o
 by_cases hlt : i < r.slots.length
 ·have hlt' : (i : Int) < (r.slots.length : Int) := by omega
  obtain ⟨_, _, eA, _, _, hel⟩ := HSL2.o;cases eA;obtain ⟨sb, so, cs, rfl, hF, hb, ⟨rfl, hsz⟩, hc⟩ := hel i hlt;have e0 := hc 0 _ rfl;simp only [Nat.mul_one, Nat.add_zero] at e0;obtain ⟨s, hs⟩ : ∃ z, z = r.slots[i] := ⟨_, rfl⟩;rw [← hs] at e0 hsz;have HSV := zh hs;obtain ⟨b, hb⟩ : ∃ q : Bool, s.toList.isEmpty = q := ⟨_, rfl⟩;have hbn : (s.toList != []) = !b := by rw [← hb]; cases s.toList <;> rfl
  have HS := zh (show slB s = (!b && !Zba s) by unfold slB; rw [hb]);have HSZ := zh hsz;clear hs hsz hc hel
  cases b with
  | true =>
   go_wp2_with fail;refine Handed.intro (gk - 1) (by omega) (hJ _ _ _ ⟨i + 1, by omega, FqS.mk' rfl rfl rfl rfl rfl rfl (by show some _ = some _; exact congrArg some (by go_num)), zh (fun k hk h => by
    by_cases h2 : k < i
    ·exact HJ.o k hk h2
    ·obtain rfl : k = i := by omega
     rw [← HSV.o, HS.o]; rfl), HLL.o⟩)
  | false =>
   go_wp2_with fail;refine (Zc5 s _ HSZ.o).mono ?_;rintro e w2 ⟨rfl, hl2⟩;have HL2 := zh (HLL.o.trans hl2);clear hl2 e0 r0 fr0;obtain ⟨q, hq⟩ : ∃ z, z = Zba s := ⟨_, rfl⟩;rw [← hq];rw [← hq] at HS;clear hq
   cases q with
   | false =>
    go_wp2_with fail;exact ⟨List.any_eq_true.2 ⟨r.slots[i], List.getElem_mem hlt, by rw [← HSV.o, HS.o]; rfl⟩, FqX.mk' rfl rfl rfl, HL2.o⟩
   | true =>
    go_wp2_with fail;refine Handed.intro (gk - 1) (by omega) (hJ _ _ _ ⟨i + 1, by omega, FqS.mk' rfl rfl rfl rfl rfl rfl (by show some _ = some _; exact congrArg some (by go_num)), zh (fun k hk h => by
     by_cases h2 : k < i
     ·exact HJ.o k hk h2
     ·obtain rfl : k = i := by omega
      rw [← HSV.o, HS.o]; rfl), HL2.o⟩)
 ·obtain rfl : i = r.slots.length := by omega
  go_wp2_with fail;refine ⟨?_, FqT.mk' rfl rfl rfl rfl rfl rfl, HLL.o⟩;rw [← Bool.not_eq_true, List.any_eq_true];rintro ⟨x, hx, hs⟩;obtain ⟨k, hk, rfl⟩ := List.getElem_of_mem hx;rw [HJ.o k hk hk] at hs
  cases hs
section
def FsX (nS : Nat) (lp cr : Bool) (d PB CB : Nat) (lo hi : Int) (a : Act) : Prop := Fr 242 [(1, .int .i64 (nS : Nat)), (3, .bool lp), (4, .bool cr), (5, .int .i64 (d : Nat)), (6, .pointer (some ⟨PB, 0, none⟩)), (8, .pointer (some ⟨CB, 0, none⟩)), (12, .bool false), (13, .int .i64 lo), (14, .int .i64 hi)] a
section
variable {nS : Nat} {lp cr : Bool} {d PB CB : Nat} {lo hi : Int} {a : Act}
theorem FsX.opn (h : FsX nS lp cr d PB CB lo hi a) : ∃ f : Nat → Value, a = ⟨#[f 0, .int .i64 (nS : Nat), f 2, .bool lp, .bool cr, .int .i64 (d : Nat), .pointer (some ⟨PB, 0, none⟩), f 7, .pointer (some ⟨CB, 0, none⟩), f 9, f 10, f 11, .bool false, .int .i64 lo, .int .i64 hi, f 15, f 16, f 17, f 18, f 19, f 20, f 21, f 22, f 23, f 24, f 25, f 26, f 27, f 28, f 29, f 30, f 31, f 32, f 33, f 34, f 35, f 36, f 37, f 38, f 39, f 40, f 41, f 42, f 43, f 44, f 45, f 46, f 47, f 48, f 49, f 50, f 51, f 52, f 53, f 54, f 55, f 56, f 57, f 58, f 59, f 60, f 61, f 62, f 63, f 64, f 65, f 66, f 67, f 68, f 69, f 70, f 71, f 72, f 73, f 74, f 75, f 76, f 77, f 78, f 79, f 80, f 81, f 82, f 83, f 84, f 85, f 86, f 87, f 88, f 89, f 90, f 91, f 92, f 93, f 94, f 95, f 96, f 97, f 98, f 99, f 100, f 101, f 102, f 103, f 104, f 105, f 106, f 107, f 108, f 109, f 110, f 111, f 112, f 113, f 114, f 115, f 116, f 117, f 118, f 119, f 120, f 121, f 122, f 123, f 124, f 125, f 126, f 127, f 128, f 129, f 130, f 131, f 132, f 133, f 134, f 135, f 136, f 137, f 138, f 139, f 140, f 141, f 142, f 143, f 144, f 145, f 146, f 147, f 148, f 149, f 150, f 151, f 152, f 153, f 154, f 155, f 156, f 157, f 158, f 159, f 160, f 161, f 162, f 163, f 164, f 165, f 166, f 167, f 168, f 169, f 170, f 171, f 172, f 173, f 174, f 175, f 176, f 177, f 178, f 179, f 180, f 181, f 182, f 183, f 184, f 185, f 186, f 187, f 188, f 189, f 190, f 191, f 192, f 193, f 194, f 195, f 196, f 197, f 198, f 199, f 200, f 201, f 202, f 203, f 204, f 205, f 206, f 207, f 208, f 209, f 210, f 211, f 212, f 213, f 214, f 215, f 216, f 217, f 218, f 219, f 220, f 221, f 222, f 223, f 224, f 225, f 226, f 227, f 228, f 229, f 230, f 231, f 232, f 233, f 234, f 235, f 236, f 237, f 238, f 239, f 240, f 241], []⟩ := by
 obtain ⟨f, e, hf⟩ := Fr.lit h;obtain ⟨h1, h3, h4, h5, h6, h8, h12, h13, h14, -⟩ := h.has;refine ⟨f, e.trans ?_⟩;have k1 := Zf h1 (hf 1 (by omega));have k3 := Zf h3 (hf 3 (by omega));have k4 := Zf h4 (hf 4 (by omega));have k5 := Zf h5 (hf 5 (by omega));have k6 := Zf h6 (hf 6 (by omega));have k8 := Zf h8 (hf 8 (by omega));have k12 := Zf h12 (hf 12 (by omega));have k13 := Zf h13 (hf 13 (by omega));have k14 := Zf h14 (hf 14 (by omega));rw [← k1];rw [← k3];rw [← k4];rw [← k5];rw [← k6];rw [← k8];rw [← k12];rw [← k13];rw [← k14]
 rfl
theorem FsX.mk' {A : Array Value} (hs : A.size = 242) (h1 : A[1]? = some (.int .i64 (nS : Nat))) (h3 : A[3]? = some (.bool lp)) (h4 : A[4]? = some (.bool cr)) (h5 : A[5]? = some (.int .i64 (d : Nat))) (h6 : A[6]? = some (.pointer (some ⟨PB, 0, none⟩))) (h8 : A[8]? = some (.pointer (some ⟨CB, 0, none⟩))) (h12 : A[12]? = some (.bool false)) (h13 : A[13]? = some (.int .i64 lo)) (h14 : A[14]? = some (.int .i64 hi)) : FsX nS lp cr d PB CB lo hi ⟨A, []⟩ := ⟨hs, rfl, h1, h3, h4, h5, h6, h8, h12, h13, h14, trivial⟩
end
def FsA (nS : Nat) (lp cr : Bool) (d PB CB : Nat) (lo hi : Int) (tt : Bool) (a : Act) : Prop := Fr 242 [(1, .int .i64 (nS : Nat)), (3, .bool lp), (4, .bool cr), (5, .int .i64 (d : Nat)), (6, .pointer (some ⟨PB, 0, none⟩)), (8, .pointer (some ⟨CB, 0, none⟩)), (12, .bool false), (13, .int .i64 lo), (14, .int .i64 hi), (61, .bool tt)] a
section
variable {nS : Nat} {lp cr : Bool} {d PB CB : Nat} {lo hi : Int} {tt : Bool} {a : Act}
theorem FsA.opn (h : FsA nS lp cr d PB CB lo hi tt a) : ∃ f : Nat → Value, a = ⟨#[f 0, .int .i64 (nS : Nat), f 2, .bool lp, .bool cr, .int .i64 (d : Nat), .pointer (some ⟨PB, 0, none⟩), f 7, .pointer (some ⟨CB, 0, none⟩), f 9, f 10, f 11, .bool false, .int .i64 lo, .int .i64 hi, f 15, f 16, f 17, f 18, f 19, f 20, f 21, f 22, f 23, f 24, f 25, f 26, f 27, f 28, f 29, f 30, f 31, f 32, f 33, f 34, f 35, f 36, f 37, f 38, f 39, f 40, f 41, f 42, f 43, f 44, f 45, f 46, f 47, f 48, f 49, f 50, f 51, f 52, f 53, f 54, f 55, f 56, f 57, f 58, f 59, f 60, .bool tt, f 62, f 63, f 64, f 65, f 66, f 67, f 68, f 69, f 70, f 71, f 72, f 73, f 74, f 75, f 76, f 77, f 78, f 79, f 80, f 81, f 82, f 83, f 84, f 85, f 86, f 87, f 88, f 89, f 90, f 91, f 92, f 93, f 94, f 95, f 96, f 97, f 98, f 99, f 100, f 101, f 102, f 103, f 104, f 105, f 106, f 107, f 108, f 109, f 110, f 111, f 112, f 113, f 114, f 115, f 116, f 117, f 118, f 119, f 120, f 121, f 122, f 123, f 124, f 125, f 126, f 127, f 128, f 129, f 130, f 131, f 132, f 133, f 134, f 135, f 136, f 137, f 138, f 139, f 140, f 141, f 142, f 143, f 144, f 145, f 146, f 147, f 148, f 149, f 150, f 151, f 152, f 153, f 154, f 155, f 156, f 157, f 158, f 159, f 160, f 161, f 162, f 163, f 164, f 165, f 166, f 167, f 168, f 169, f 170, f 171, f 172, f 173, f 174, f 175, f 176, f 177, f 178, f 179, f 180, f 181, f 182, f 183, f 184, f 185, f 186, f 187, f 188, f 189, f 190, f 191, f 192, f 193, f 194, f 195, f 196, f 197, f 198, f 199, f 200, f 201, f 202, f 203, f 204, f 205, f 206, f 207, f 208, f 209, f 210, f 211, f 212, f 213, f 214, f 215, f 216, f 217, f 218, f 219, f 220, f 221, f 222, f 223, f 224, f 225, f 226, f 227, f 228, f 229, f 230, f 231, f 232, f 233, f 234, f 235, f 236, f 237, f 238, f 239, f 240, f 241], []⟩ := by
 obtain ⟨f, e, hf⟩ := Fr.lit h;obtain ⟨h1, h3, h4, h5, h6, h8, h12, h13, h14, h61, -⟩ := h.has;refine ⟨f, e.trans ?_⟩;have k1 := Zf h1 (hf 1 (by omega));have k3 := Zf h3 (hf 3 (by omega));have k4 := Zf h4 (hf 4 (by omega));have k5 := Zf h5 (hf 5 (by omega));have k6 := Zf h6 (hf 6 (by omega));have k8 := Zf h8 (hf 8 (by omega));have k12 := Zf h12 (hf 12 (by omega));have k13 := Zf h13 (hf 13 (by omega));have k14 := Zf h14 (hf 14 (by omega));have k61 := Zf h61 (hf 61 (by omega));rw [← k1];rw [← k3];rw [← k4];rw [← k5];rw [← k6];rw [← k8];rw [← k12];rw [← k13];rw [← k14];rw [← k61]
 rfl
theorem FsA.mk' {A : Array Value} (hs : A.size = 242) (h1 : A[1]? = some (.int .i64 (nS : Nat))) (h3 : A[3]? = some (.bool lp)) (h4 : A[4]? = some (.bool cr)) (h5 : A[5]? = some (.int .i64 (d : Nat))) (h6 : A[6]? = some (.pointer (some ⟨PB, 0, none⟩))) (h8 : A[8]? = some (.pointer (some ⟨CB, 0, none⟩))) (h12 : A[12]? = some (.bool false)) (h13 : A[13]? = some (.int .i64 lo)) (h14 : A[14]? = some (.int .i64 hi)) (h61 : A[61]? = some (.bool tt)) : FsA nS lp cr d PB CB lo hi tt ⟨A, []⟩ := ⟨hs, rfl, h1, h3, h4, h5, h6, h8, h12, h13, h14, h61, trivial⟩
end
def FsB (nS : Nat) (lp cr : Bool) (d PB CB : Nat) (lo hi : Int) (tt : Bool) (a : Act) : Prop := Fr 242 [(1, .int .i64 (nS : Nat)), (3, .bool lp), (4, .bool cr), (5, .int .i64 (d : Nat)), (6, .pointer (some ⟨PB, 0, none⟩)), (8, .pointer (some ⟨CB, 0, none⟩)), (12, .bool false), (13, .int .i64 lo), (14, .int .i64 hi), (101, .bool tt)] a
section
variable {nS : Nat} {lp cr : Bool} {d PB CB : Nat} {lo hi : Int} {tt : Bool} {a : Act}
theorem FsB.opn (h : FsB nS lp cr d PB CB lo hi tt a) : ∃ f : Nat → Value, a = ⟨#[f 0, .int .i64 (nS : Nat), f 2, .bool lp, .bool cr, .int .i64 (d : Nat), .pointer (some ⟨PB, 0, none⟩), f 7, .pointer (some ⟨CB, 0, none⟩), f 9, f 10, f 11, .bool false, .int .i64 lo, .int .i64 hi, f 15, f 16, f 17, f 18, f 19, f 20, f 21, f 22, f 23, f 24, f 25, f 26, f 27, f 28, f 29, f 30, f 31, f 32, f 33, f 34, f 35, f 36, f 37, f 38, f 39, f 40, f 41, f 42, f 43, f 44, f 45, f 46, f 47, f 48, f 49, f 50, f 51, f 52, f 53, f 54, f 55, f 56, f 57, f 58, f 59, f 60, f 61, f 62, f 63, f 64, f 65, f 66, f 67, f 68, f 69, f 70, f 71, f 72, f 73, f 74, f 75, f 76, f 77, f 78, f 79, f 80, f 81, f 82, f 83, f 84, f 85, f 86, f 87, f 88, f 89, f 90, f 91, f 92, f 93, f 94, f 95, f 96, f 97, f 98, f 99, f 100, .bool tt, f 102, f 103, f 104, f 105, f 106, f 107, f 108, f 109, f 110, f 111, f 112, f 113, f 114, f 115, f 116, f 117, f 118, f 119, f 120, f 121, f 122, f 123, f 124, f 125, f 126, f 127, f 128, f 129, f 130, f 131, f 132, f 133, f 134, f 135, f 136, f 137, f 138, f 139, f 140, f 141, f 142, f 143, f 144, f 145, f 146, f 147, f 148, f 149, f 150, f 151, f 152, f 153, f 154, f 155, f 156, f 157, f 158, f 159, f 160, f 161, f 162, f 163, f 164, f 165, f 166, f 167, f 168, f 169, f 170, f 171, f 172, f 173, f 174, f 175, f 176, f 177, f 178, f 179, f 180, f 181, f 182, f 183, f 184, f 185, f 186, f 187, f 188, f 189, f 190, f 191, f 192, f 193, f 194, f 195, f 196, f 197, f 198, f 199, f 200, f 201, f 202, f 203, f 204, f 205, f 206, f 207, f 208, f 209, f 210, f 211, f 212, f 213, f 214, f 215, f 216, f 217, f 218, f 219, f 220, f 221, f 222, f 223, f 224, f 225, f 226, f 227, f 228, f 229, f 230, f 231, f 232, f 233, f 234, f 235, f 236, f 237, f 238, f 239, f 240, f 241], []⟩ := by
 obtain ⟨f, e, hf⟩ := Fr.lit h;obtain ⟨h1, h3, h4, h5, h6, h8, h12, h13, h14, h101, -⟩ := h.has;refine ⟨f, e.trans ?_⟩;have k1 := Zf h1 (hf 1 (by omega));have k3 := Zf h3 (hf 3 (by omega));have k4 := Zf h4 (hf 4 (by omega));have k5 := Zf h5 (hf 5 (by omega));have k6 := Zf h6 (hf 6 (by omega));have k8 := Zf h8 (hf 8 (by omega));have k12 := Zf h12 (hf 12 (by omega));have k13 := Zf h13 (hf 13 (by omega));have k14 := Zf h14 (hf 14 (by omega));have k101 := Zf h101 (hf 101 (by omega));rw [← k1];rw [← k3];rw [← k4];rw [← k5];rw [← k6];rw [← k8];rw [← k12];rw [← k13];rw [← k14];rw [← k101]
 rfl
theorem FsB.mk' {A : Array Value} (hs : A.size = 242) (h1 : A[1]? = some (.int .i64 (nS : Nat))) (h3 : A[3]? = some (.bool lp)) (h4 : A[4]? = some (.bool cr)) (h5 : A[5]? = some (.int .i64 (d : Nat))) (h6 : A[6]? = some (.pointer (some ⟨PB, 0, none⟩))) (h8 : A[8]? = some (.pointer (some ⟨CB, 0, none⟩))) (h12 : A[12]? = some (.bool false)) (h13 : A[13]? = some (.int .i64 lo)) (h14 : A[14]? = some (.int .i64 hi)) (h101 : A[101]? = some (.bool tt)) : FsB nS lp cr d PB CB lo hi tt ⟨A, []⟩ := ⟨hs, rfl, h1, h3, h4, h5, h6, h8, h12, h13, h14, h101, trivial⟩
end
def FsC (nS : Nat) (lp cr : Bool) (d PB CB : Nat) (lo hi : Int) (tt : Bool) (a : Act) : Prop := Fr 242 [(1, .int .i64 (nS : Nat)), (3, .bool lp), (4, .bool cr), (5, .int .i64 (d : Nat)), (6, .pointer (some ⟨PB, 0, none⟩)), (8, .pointer (some ⟨CB, 0, none⟩)), (12, .bool false), (13, .int .i64 lo), (14, .int .i64 hi), (119, .bool tt)] a
section
variable {nS : Nat} {lp cr : Bool} {d PB CB : Nat} {lo hi : Int} {tt : Bool} {a : Act}
theorem FsC.opn (h : FsC nS lp cr d PB CB lo hi tt a) : ∃ f : Nat → Value, a = ⟨#[f 0, .int .i64 (nS : Nat), f 2, .bool lp, .bool cr, .int .i64 (d : Nat), .pointer (some ⟨PB, 0, none⟩), f 7, .pointer (some ⟨CB, 0, none⟩), f 9, f 10, f 11, .bool false, .int .i64 lo, .int .i64 hi, f 15, f 16, f 17, f 18, f 19, f 20, f 21, f 22, f 23, f 24, f 25, f 26, f 27, f 28, f 29, f 30, f 31, f 32, f 33, f 34, f 35, f 36, f 37, f 38, f 39, f 40, f 41, f 42, f 43, f 44, f 45, f 46, f 47, f 48, f 49, f 50, f 51, f 52, f 53, f 54, f 55, f 56, f 57, f 58, f 59, f 60, f 61, f 62, f 63, f 64, f 65, f 66, f 67, f 68, f 69, f 70, f 71, f 72, f 73, f 74, f 75, f 76, f 77, f 78, f 79, f 80, f 81, f 82, f 83, f 84, f 85, f 86, f 87, f 88, f 89, f 90, f 91, f 92, f 93, f 94, f 95, f 96, f 97, f 98, f 99, f 100, f 101, f 102, f 103, f 104, f 105, f 106, f 107, f 108, f 109, f 110, f 111, f 112, f 113, f 114, f 115, f 116, f 117, f 118, .bool tt, f 120, f 121, f 122, f 123, f 124, f 125, f 126, f 127, f 128, f 129, f 130, f 131, f 132, f 133, f 134, f 135, f 136, f 137, f 138, f 139, f 140, f 141, f 142, f 143, f 144, f 145, f 146, f 147, f 148, f 149, f 150, f 151, f 152, f 153, f 154, f 155, f 156, f 157, f 158, f 159, f 160, f 161, f 162, f 163, f 164, f 165, f 166, f 167, f 168, f 169, f 170, f 171, f 172, f 173, f 174, f 175, f 176, f 177, f 178, f 179, f 180, f 181, f 182, f 183, f 184, f 185, f 186, f 187, f 188, f 189, f 190, f 191, f 192, f 193, f 194, f 195, f 196, f 197, f 198, f 199, f 200, f 201, f 202, f 203, f 204, f 205, f 206, f 207, f 208, f 209, f 210, f 211, f 212, f 213, f 214, f 215, f 216, f 217, f 218, f 219, f 220, f 221, f 222, f 223, f 224, f 225, f 226, f 227, f 228, f 229, f 230, f 231, f 232, f 233, f 234, f 235, f 236, f 237, f 238, f 239, f 240, f 241], []⟩ := by
 obtain ⟨f, e, hf⟩ := Fr.lit h;obtain ⟨h1, h3, h4, h5, h6, h8, h12, h13, h14, h119, -⟩ := h.has;refine ⟨f, e.trans ?_⟩;have k1 := Zf h1 (hf 1 (by omega));have k3 := Zf h3 (hf 3 (by omega));have k4 := Zf h4 (hf 4 (by omega));have k5 := Zf h5 (hf 5 (by omega));have k6 := Zf h6 (hf 6 (by omega));have k8 := Zf h8 (hf 8 (by omega));have k12 := Zf h12 (hf 12 (by omega));have k13 := Zf h13 (hf 13 (by omega));have k14 := Zf h14 (hf 14 (by omega));have k119 := Zf h119 (hf 119 (by omega));rw [← k1];rw [← k3];rw [← k4];rw [← k5];rw [← k6];rw [← k8];rw [← k12];rw [← k13];rw [← k14];rw [← k119]
 rfl
theorem FsC.mk' {A : Array Value} (hs : A.size = 242) (h1 : A[1]? = some (.int .i64 (nS : Nat))) (h3 : A[3]? = some (.bool lp)) (h4 : A[4]? = some (.bool cr)) (h5 : A[5]? = some (.int .i64 (d : Nat))) (h6 : A[6]? = some (.pointer (some ⟨PB, 0, none⟩))) (h8 : A[8]? = some (.pointer (some ⟨CB, 0, none⟩))) (h12 : A[12]? = some (.bool false)) (h13 : A[13]? = some (.int .i64 lo)) (h14 : A[14]? = some (.int .i64 hi)) (h119 : A[119]? = some (.bool tt)) : FsC nS lp cr d PB CB lo hi tt ⟨A, []⟩ := ⟨hs, rfl, h1, h3, h4, h5, h6, h8, h12, h13, h14, h119, trivial⟩
end
def FsD (nS : Nat) (lp cr : Bool) (d PB CB : Nat) (lo hi : Int) (tt : Bool) (a : Act) : Prop := Fr 242 [(1, .int .i64 (nS : Nat)), (3, .bool lp), (4, .bool cr), (5, .int .i64 (d : Nat)), (6, .pointer (some ⟨PB, 0, none⟩)), (8, .pointer (some ⟨CB, 0, none⟩)), (12, .bool false), (13, .int .i64 lo), (14, .int .i64 hi), (144, .bool tt)] a
section
variable {nS : Nat} {lp cr : Bool} {d PB CB : Nat} {lo hi : Int} {tt : Bool} {a : Act}
theorem FsD.opn (h : FsD nS lp cr d PB CB lo hi tt a) : ∃ f : Nat → Value, a = ⟨#[f 0, .int .i64 (nS : Nat), f 2, .bool lp, .bool cr, .int .i64 (d : Nat), .pointer (some ⟨PB, 0, none⟩), f 7, .pointer (some ⟨CB, 0, none⟩), f 9, f 10, f 11, .bool false, .int .i64 lo, .int .i64 hi, f 15, f 16, f 17, f 18, f 19, f 20, f 21, f 22, f 23, f 24, f 25, f 26, f 27, f 28, f 29, f 30, f 31, f 32, f 33, f 34, f 35, f 36, f 37, f 38, f 39, f 40, f 41, f 42, f 43, f 44, f 45, f 46, f 47, f 48, f 49, f 50, f 51, f 52, f 53, f 54, f 55, f 56, f 57, f 58, f 59, f 60, f 61, f 62, f 63, f 64, f 65, f 66, f 67, f 68, f 69, f 70, f 71, f 72, f 73, f 74, f 75, f 76, f 77, f 78, f 79, f 80, f 81, f 82, f 83, f 84, f 85, f 86, f 87, f 88, f 89, f 90, f 91, f 92, f 93, f 94, f 95, f 96, f 97, f 98, f 99, f 100, f 101, f 102, f 103, f 104, f 105, f 106, f 107, f 108, f 109, f 110, f 111, f 112, f 113, f 114, f 115, f 116, f 117, f 118, f 119, f 120, f 121, f 122, f 123, f 124, f 125, f 126, f 127, f 128, f 129, f 130, f 131, f 132, f 133, f 134, f 135, f 136, f 137, f 138, f 139, f 140, f 141, f 142, f 143, .bool tt, f 145, f 146, f 147, f 148, f 149, f 150, f 151, f 152, f 153, f 154, f 155, f 156, f 157, f 158, f 159, f 160, f 161, f 162, f 163, f 164, f 165, f 166, f 167, f 168, f 169, f 170, f 171, f 172, f 173, f 174, f 175, f 176, f 177, f 178, f 179, f 180, f 181, f 182, f 183, f 184, f 185, f 186, f 187, f 188, f 189, f 190, f 191, f 192, f 193, f 194, f 195, f 196, f 197, f 198, f 199, f 200, f 201, f 202, f 203, f 204, f 205, f 206, f 207, f 208, f 209, f 210, f 211, f 212, f 213, f 214, f 215, f 216, f 217, f 218, f 219, f 220, f 221, f 222, f 223, f 224, f 225, f 226, f 227, f 228, f 229, f 230, f 231, f 232, f 233, f 234, f 235, f 236, f 237, f 238, f 239, f 240, f 241], []⟩ := by
 obtain ⟨f, e, hf⟩ := Fr.lit h;obtain ⟨h1, h3, h4, h5, h6, h8, h12, h13, h14, h144, -⟩ := h.has;refine ⟨f, e.trans ?_⟩;have k1 := Zf h1 (hf 1 (by omega));have k3 := Zf h3 (hf 3 (by omega));have k4 := Zf h4 (hf 4 (by omega));have k5 := Zf h5 (hf 5 (by omega));have k6 := Zf h6 (hf 6 (by omega));have k8 := Zf h8 (hf 8 (by omega));have k12 := Zf h12 (hf 12 (by omega));have k13 := Zf h13 (hf 13 (by omega));have k14 := Zf h14 (hf 14 (by omega));have k144 := Zf h144 (hf 144 (by omega));rw [← k1];rw [← k3];rw [← k4];rw [← k5];rw [← k6];rw [← k8];rw [← k12];rw [← k13];rw [← k14];rw [← k144]
 rfl
theorem FsD.mk' {A : Array Value} (hs : A.size = 242) (h1 : A[1]? = some (.int .i64 (nS : Nat))) (h3 : A[3]? = some (.bool lp)) (h4 : A[4]? = some (.bool cr)) (h5 : A[5]? = some (.int .i64 (d : Nat))) (h6 : A[6]? = some (.pointer (some ⟨PB, 0, none⟩))) (h8 : A[8]? = some (.pointer (some ⟨CB, 0, none⟩))) (h12 : A[12]? = some (.bool false)) (h13 : A[13]? = some (.int .i64 lo)) (h14 : A[14]? = some (.int .i64 hi)) (h144 : A[144]? = some (.bool tt)) : FsD nS lp cr d PB CB lo hi tt ⟨A, []⟩ := ⟨hs, rfl, h1, h3, h4, h5, h6, h8, h12, h13, h14, h144, trivial⟩
end
def FsE (nS : Nat) (lp cr : Bool) (d PB CB : Nat) (lo hi : Int) (tt : Bool) (a : Act) : Prop := Fr 242 [(1, .int .i64 (nS : Nat)), (3, .bool lp), (4, .bool cr), (5, .int .i64 (d : Nat)), (6, .pointer (some ⟨PB, 0, none⟩)), (8, .pointer (some ⟨CB, 0, none⟩)), (12, .bool false), (13, .int .i64 lo), (14, .int .i64 hi), (195, .bool tt)] a
section
variable {nS : Nat} {lp cr : Bool} {d PB CB : Nat} {lo hi : Int} {tt : Bool} {a : Act}
theorem FsE.opn (h : FsE nS lp cr d PB CB lo hi tt a) : ∃ f : Nat → Value, a = ⟨#[f 0, .int .i64 (nS : Nat), f 2, .bool lp, .bool cr, .int .i64 (d : Nat), .pointer (some ⟨PB, 0, none⟩), f 7, .pointer (some ⟨CB, 0, none⟩), f 9, f 10, f 11, .bool false, .int .i64 lo, .int .i64 hi, f 15, f 16, f 17, f 18, f 19, f 20, f 21, f 22, f 23, f 24, f 25, f 26, f 27, f 28, f 29, f 30, f 31, f 32, f 33, f 34, f 35, f 36, f 37, f 38, f 39, f 40, f 41, f 42, f 43, f 44, f 45, f 46, f 47, f 48, f 49, f 50, f 51, f 52, f 53, f 54, f 55, f 56, f 57, f 58, f 59, f 60, f 61, f 62, f 63, f 64, f 65, f 66, f 67, f 68, f 69, f 70, f 71, f 72, f 73, f 74, f 75, f 76, f 77, f 78, f 79, f 80, f 81, f 82, f 83, f 84, f 85, f 86, f 87, f 88, f 89, f 90, f 91, f 92, f 93, f 94, f 95, f 96, f 97, f 98, f 99, f 100, f 101, f 102, f 103, f 104, f 105, f 106, f 107, f 108, f 109, f 110, f 111, f 112, f 113, f 114, f 115, f 116, f 117, f 118, f 119, f 120, f 121, f 122, f 123, f 124, f 125, f 126, f 127, f 128, f 129, f 130, f 131, f 132, f 133, f 134, f 135, f 136, f 137, f 138, f 139, f 140, f 141, f 142, f 143, f 144, f 145, f 146, f 147, f 148, f 149, f 150, f 151, f 152, f 153, f 154, f 155, f 156, f 157, f 158, f 159, f 160, f 161, f 162, f 163, f 164, f 165, f 166, f 167, f 168, f 169, f 170, f 171, f 172, f 173, f 174, f 175, f 176, f 177, f 178, f 179, f 180, f 181, f 182, f 183, f 184, f 185, f 186, f 187, f 188, f 189, f 190, f 191, f 192, f 193, f 194, .bool tt, f 196, f 197, f 198, f 199, f 200, f 201, f 202, f 203, f 204, f 205, f 206, f 207, f 208, f 209, f 210, f 211, f 212, f 213, f 214, f 215, f 216, f 217, f 218, f 219, f 220, f 221, f 222, f 223, f 224, f 225, f 226, f 227, f 228, f 229, f 230, f 231, f 232, f 233, f 234, f 235, f 236, f 237, f 238, f 239, f 240, f 241], []⟩ := by
 obtain ⟨f, e, hf⟩ := Fr.lit h;obtain ⟨h1, h3, h4, h5, h6, h8, h12, h13, h14, h195, -⟩ := h.has;refine ⟨f, e.trans ?_⟩;have k1 := Zf h1 (hf 1 (by omega));have k3 := Zf h3 (hf 3 (by omega));have k4 := Zf h4 (hf 4 (by omega));have k5 := Zf h5 (hf 5 (by omega));have k6 := Zf h6 (hf 6 (by omega));have k8 := Zf h8 (hf 8 (by omega));have k12 := Zf h12 (hf 12 (by omega));have k13 := Zf h13 (hf 13 (by omega));have k14 := Zf h14 (hf 14 (by omega));have k195 := Zf h195 (hf 195 (by omega));rw [← k1];rw [← k3];rw [← k4];rw [← k5];rw [← k6];rw [← k8];rw [← k12];rw [← k13];rw [← k14];rw [← k195]
 rfl
theorem FsE.mk' {A : Array Value} (hs : A.size = 242) (h1 : A[1]? = some (.int .i64 (nS : Nat))) (h3 : A[3]? = some (.bool lp)) (h4 : A[4]? = some (.bool cr)) (h5 : A[5]? = some (.int .i64 (d : Nat))) (h6 : A[6]? = some (.pointer (some ⟨PB, 0, none⟩))) (h8 : A[8]? = some (.pointer (some ⟨CB, 0, none⟩))) (h12 : A[12]? = some (.bool false)) (h13 : A[13]? = some (.int .i64 lo)) (h14 : A[14]? = some (.int .i64 hi)) (h195 : A[195]? = some (.bool tt)) : FsE nS lp cr d PB CB lo hi tt ⟨A, []⟩ := ⟨hs, rfl, h1, h3, h4, h5, h6, h8, h12, h13, h14, h195, trivial⟩
end
def FsL (nS : Nat) (lp cr : Bool) (d PB CB : Nat) (lo hi : Int) (j : Nat) (a : Act) : Prop := Fr 242 [(1, .int .i64 (nS : Nat)), (3, .bool lp), (4, .bool cr), (5, .int .i64 (d : Nat)), (6, .pointer (some ⟨PB, 0, none⟩)), (8, .pointer (some ⟨CB, 0, none⟩)), (12, .bool false), (13, .int .i64 lo), (14, .int .i64 hi), (17, .int .i64 (j : Nat))] a
section
variable {nS : Nat} {lp cr : Bool} {d PB CB : Nat} {lo hi : Int} {j : Nat} {a : Act}
theorem FsL.opn (h : FsL nS lp cr d PB CB lo hi j a) : ∃ f : Nat → Value, a = ⟨#[f 0, .int .i64 (nS : Nat), f 2, .bool lp, .bool cr, .int .i64 (d : Nat), .pointer (some ⟨PB, 0, none⟩), f 7, .pointer (some ⟨CB, 0, none⟩), f 9, f 10, f 11, .bool false, .int .i64 lo, .int .i64 hi, f 15, f 16, .int .i64 (j : Nat), f 18, f 19, f 20, f 21, f 22, f 23, f 24, f 25, f 26, f 27, f 28, f 29, f 30, f 31, f 32, f 33, f 34, f 35, f 36, f 37, f 38, f 39, f 40, f 41, f 42, f 43, f 44, f 45, f 46, f 47, f 48, f 49, f 50, f 51, f 52, f 53, f 54, f 55, f 56, f 57, f 58, f 59, f 60, f 61, f 62, f 63, f 64, f 65, f 66, f 67, f 68, f 69, f 70, f 71, f 72, f 73, f 74, f 75, f 76, f 77, f 78, f 79, f 80, f 81, f 82, f 83, f 84, f 85, f 86, f 87, f 88, f 89, f 90, f 91, f 92, f 93, f 94, f 95, f 96, f 97, f 98, f 99, f 100, f 101, f 102, f 103, f 104, f 105, f 106, f 107, f 108, f 109, f 110, f 111, f 112, f 113, f 114, f 115, f 116, f 117, f 118, f 119, f 120, f 121, f 122, f 123, f 124, f 125, f 126, f 127, f 128, f 129, f 130, f 131, f 132, f 133, f 134, f 135, f 136, f 137, f 138, f 139, f 140, f 141, f 142, f 143, f 144, f 145, f 146, f 147, f 148, f 149, f 150, f 151, f 152, f 153, f 154, f 155, f 156, f 157, f 158, f 159, f 160, f 161, f 162, f 163, f 164, f 165, f 166, f 167, f 168, f 169, f 170, f 171, f 172, f 173, f 174, f 175, f 176, f 177, f 178, f 179, f 180, f 181, f 182, f 183, f 184, f 185, f 186, f 187, f 188, f 189, f 190, f 191, f 192, f 193, f 194, f 195, f 196, f 197, f 198, f 199, f 200, f 201, f 202, f 203, f 204, f 205, f 206, f 207, f 208, f 209, f 210, f 211, f 212, f 213, f 214, f 215, f 216, f 217, f 218, f 219, f 220, f 221, f 222, f 223, f 224, f 225, f 226, f 227, f 228, f 229, f 230, f 231, f 232, f 233, f 234, f 235, f 236, f 237, f 238, f 239, f 240, f 241], []⟩ := by
 obtain ⟨f, e, hf⟩ := Fr.lit h;obtain ⟨h1, h3, h4, h5, h6, h8, h12, h13, h14, h17, -⟩ := h.has;refine ⟨f, e.trans ?_⟩;have k1 := Zf h1 (hf 1 (by omega));have k3 := Zf h3 (hf 3 (by omega));have k4 := Zf h4 (hf 4 (by omega));have k5 := Zf h5 (hf 5 (by omega));have k6 := Zf h6 (hf 6 (by omega));have k8 := Zf h8 (hf 8 (by omega));have k12 := Zf h12 (hf 12 (by omega));have k13 := Zf h13 (hf 13 (by omega));have k14 := Zf h14 (hf 14 (by omega));have k17 := Zf h17 (hf 17 (by omega));rw [← k1];rw [← k3];rw [← k4];rw [← k5];rw [← k6];rw [← k8];rw [← k12];rw [← k13];rw [← k14];rw [← k17]
 rfl
theorem FsL.mk' {A : Array Value} (hs : A.size = 242) (h1 : A[1]? = some (.int .i64 (nS : Nat))) (h3 : A[3]? = some (.bool lp)) (h4 : A[4]? = some (.bool cr)) (h5 : A[5]? = some (.int .i64 (d : Nat))) (h6 : A[6]? = some (.pointer (some ⟨PB, 0, none⟩))) (h8 : A[8]? = some (.pointer (some ⟨CB, 0, none⟩))) (h12 : A[12]? = some (.bool false)) (h13 : A[13]? = some (.int .i64 lo)) (h14 : A[14]? = some (.int .i64 hi)) (h17 : A[17]? = some (.int .i64 (j : Nat))) : FsL nS lp cr d PB CB lo hi j ⟨A, []⟩ := ⟨hs, rfl, h1, h3, h4, h5, h6, h8, h12, h13, h14, h17, trivial⟩
end
def FsY (nS : Nat) (lp cr : Bool) (d PB CB : Nat) (lo hi : Int) (k3 : Bool) (a : Act) : Prop := Fr 242 [(1, .int .i64 (nS : Nat)), (3, .bool lp), (4, .bool cr), (5, .int .i64 (d : Nat)), (6, .pointer (some ⟨PB, 0, none⟩)), (8, .pointer (some ⟨CB, 0, none⟩)), (12, .bool false), (13, .int .i64 lo), (14, .int .i64 hi), (104, .bool k3)] a
section
variable {nS : Nat} {lp cr : Bool} {d PB CB : Nat} {lo hi : Int} {k3 : Bool} {a : Act}
theorem FsY.opn (h : FsY nS lp cr d PB CB lo hi k3 a) : ∃ f : Nat → Value, a = ⟨#[f 0, .int .i64 (nS : Nat), f 2, .bool lp, .bool cr, .int .i64 (d : Nat), .pointer (some ⟨PB, 0, none⟩), f 7, .pointer (some ⟨CB, 0, none⟩), f 9, f 10, f 11, .bool false, .int .i64 lo, .int .i64 hi, f 15, f 16, f 17, f 18, f 19, f 20, f 21, f 22, f 23, f 24, f 25, f 26, f 27, f 28, f 29, f 30, f 31, f 32, f 33, f 34, f 35, f 36, f 37, f 38, f 39, f 40, f 41, f 42, f 43, f 44, f 45, f 46, f 47, f 48, f 49, f 50, f 51, f 52, f 53, f 54, f 55, f 56, f 57, f 58, f 59, f 60, f 61, f 62, f 63, f 64, f 65, f 66, f 67, f 68, f 69, f 70, f 71, f 72, f 73, f 74, f 75, f 76, f 77, f 78, f 79, f 80, f 81, f 82, f 83, f 84, f 85, f 86, f 87, f 88, f 89, f 90, f 91, f 92, f 93, f 94, f 95, f 96, f 97, f 98, f 99, f 100, f 101, f 102, f 103, .bool k3, f 105, f 106, f 107, f 108, f 109, f 110, f 111, f 112, f 113, f 114, f 115, f 116, f 117, f 118, f 119, f 120, f 121, f 122, f 123, f 124, f 125, f 126, f 127, f 128, f 129, f 130, f 131, f 132, f 133, f 134, f 135, f 136, f 137, f 138, f 139, f 140, f 141, f 142, f 143, f 144, f 145, f 146, f 147, f 148, f 149, f 150, f 151, f 152, f 153, f 154, f 155, f 156, f 157, f 158, f 159, f 160, f 161, f 162, f 163, f 164, f 165, f 166, f 167, f 168, f 169, f 170, f 171, f 172, f 173, f 174, f 175, f 176, f 177, f 178, f 179, f 180, f 181, f 182, f 183, f 184, f 185, f 186, f 187, f 188, f 189, f 190, f 191, f 192, f 193, f 194, f 195, f 196, f 197, f 198, f 199, f 200, f 201, f 202, f 203, f 204, f 205, f 206, f 207, f 208, f 209, f 210, f 211, f 212, f 213, f 214, f 215, f 216, f 217, f 218, f 219, f 220, f 221, f 222, f 223, f 224, f 225, f 226, f 227, f 228, f 229, f 230, f 231, f 232, f 233, f 234, f 235, f 236, f 237, f 238, f 239, f 240, f 241], []⟩ := by
 obtain ⟨f, e, hf⟩ := Fr.lit h;obtain ⟨h1, h3, h4, h5, h6, h8, h12, h13, h14, h104, -⟩ := h.has;refine ⟨f, e.trans ?_⟩;have k1 := Zf h1 (hf 1 (by omega));have k3 := Zf h3 (hf 3 (by omega));have k4 := Zf h4 (hf 4 (by omega));have k5 := Zf h5 (hf 5 (by omega));have k6 := Zf h6 (hf 6 (by omega));have k8 := Zf h8 (hf 8 (by omega));have k12 := Zf h12 (hf 12 (by omega));have k13 := Zf h13 (hf 13 (by omega));have k14 := Zf h14 (hf 14 (by omega));have k104 := Zf h104 (hf 104 (by omega));rw [← k1];rw [← k3];rw [← k4];rw [← k5];rw [← k6];rw [← k8];rw [← k12];rw [← k13];rw [← k14];rw [← k104]
 rfl
theorem FsY.mk' {A : Array Value} (hs : A.size = 242) (h1 : A[1]? = some (.int .i64 (nS : Nat))) (h3 : A[3]? = some (.bool lp)) (h4 : A[4]? = some (.bool cr)) (h5 : A[5]? = some (.int .i64 (d : Nat))) (h6 : A[6]? = some (.pointer (some ⟨PB, 0, none⟩))) (h8 : A[8]? = some (.pointer (some ⟨CB, 0, none⟩))) (h12 : A[12]? = some (.bool false)) (h13 : A[13]? = some (.int .i64 lo)) (h14 : A[14]? = some (.int .i64 hi)) (h104 : A[104]? = some (.bool k3)) : FsY nS lp cr d PB CB lo hi k3 ⟨A, []⟩ := ⟨hs, rfl, h1, h3, h4, h5, h6, h8, h12, h13, h14, h104, trivial⟩
end
noncomputable def vs1 : Code := cL (cL (cR (cR (Zch Tryz.f69))))
noncomputable def vs2 : Code := cL (cL (cR (cR (cR (Zch Tryz.f69)))))
noncomputable def vs3 : Code := cL (cR (cT (cR (cL (cR (cR (cR (cR (Zch Tryz.f69)))))))))
noncomputable def vs3c : Code := cR (cL (cR (cR (cR (cR (Zch Tryz.f69))))))
noncomputable def vs4 : Code := cL (cL (cR (cR (cR (cR (cR (Zch Tryz.f69)))))))
noncomputable def vs5 : Code := cL (cL (cR (cR (cR (cR (cR (cR (Zch Tryz.f69))))))))
noncomputable def vs6 : Code := cR (cL (cR (cR (cR (cR (cR (cR (cR (Zch Tryz.f69)))))))))
structure VS (n : Nat) (F : Nat → Prop) (w : World) (W : Wd) (c : Zd) (A : Option Addr) (k : Nat) (A1 A2 A3 : Option Addr) (e1 e2 e3 : Nat) (pm : Int) (PB CB : Nat) : Prop where
 cv : CV n F w c A k
 cb : w.heap[CB]? = some (.cells #[.int .i64 c.kind, .int .i64 c.op, .int .i64 c.aB, .int .i64 c.line, .string c.text, .slice A c.kids.length k] 68 (0, 0))
 pb : w.heap[PB]? = some (.cells #[.slice A1 W.nR e1, .slice A2 W.nC e2, .slice A3 W.nG e3, .int .i64 pm] 37 (0, 0))
theorem VS.later {n : Nat} {F : Nat → Prop} {w x : World} {W : Wd} {c : Zd} {A : Option Addr} {k : Nat} {A1 A2 A3 : Option Addr} {e1 e2 e3 : Nat} {pm : Int} {PB CB : Nat} (h : VS n F w W c A k A1 A2 A3 e1 e2 e3 pm PB CB) (hl : Za w x) : VS n F x W c A k A1 A2 A3 e1 e2 e3 pm PB CB :=
 ⟨h.cv.keep (fun _ h => h) (Zb.later hl), (hl.block _ (Zc h.cb)).trans h.cb, (hl.block _ (Zc h.pb)).trans h.pb⟩
def s1 (W : Wd) (c : Zd) (d : Nat) : Bool := decide (d ≤ 400) && (decide (1 ≤ c.kind) && (decide (c.kind ≤ 28) && (decide (0 ≤ c.line) && (decide (Zbw c.kind c.op ≤ c.kids.length) && (decide ((c.kids.length : Int) ≤ Zcg c.kind c.op) && Ze6 W c.kind c.aB)))))
def s2 (c : Zd) : Bool := (decide (c.kind = 11) || c.op == 0) && ((decide (c.kind = 2) || (decide (c.kind = 3) || c.text.toList.isEmpty)) && (decide ((c.text.size : Int) ≤ 128) && (!(decide (c.kind = 2)) || decide ((c.text.size : Int) ≤ 120))))
def s3 (c : Zd) : Bool := !(decide (c.kind = 3)) || Zfc (bl c.text)
def s4 (c : Zd) (lp cr : Bool) : Bool := (!(decide (c.kind = 20) || decide (c.kind = 21)) || lp) && (!(decide (23 ≤ c.kind) && decide (c.kind ≤ 25)) || !cr)
end
theorem Ztz {a : Act} (n : Nat) (F : Nat → Prop) (w : World) (W : Wd) (c : Zd) (A : Option Addr) (k : Nat) (A1 A2 A3 : Option Addr) (e1 e2 e3 : Nat) (pm : Int) (PB CB : Nat) (lp cr : Bool) (d : Nat) (lo hi : Int) (HE : Hd (VS n F w W c A k A1 A2 A3 e1 e2 e3 pm PB CB)) (hW : Hd (W.nS ≤ 4194304 ∧ W.nG ≤ 4194304 ∧ W.nR ≤ 4194304 ∧ W.nC ≤ 4194304)) (HLO : Hd (lo = Zbw c.kind c.op)) (HHI : Hd (hi = Zcg c.kind c.op)) (HF : Hd (FsX W.nS lp cr d PB CB lo hi a)) :
  vs1.wp Tryz.prog (Zhx fun a' x => FsA W.nS lp cr d PB CB lo hi (!(s1 W c d)) a' ∧ Za w x) a w := by
 obtain ⟨A', k', ek, hkc, hkm, _⟩ := HE.o.cv.kids;have hks1 : (c.kids.length : Int) ≤ 9223372036854775807 := by unfold maxLen at hkm; cases ek; omega
 clear ek hkc hkm;obtain ⟨b0, hb0⟩ : ∃ q : Bool, decide ((400 : Int) < (d : Int)) = q := ⟨_, rfl⟩;obtain ⟨b1, hb1⟩ : ∃ q : Bool, decide (c.kind < 1) = q := ⟨_, rfl⟩;obtain ⟨b2, hb2⟩ : ∃ q : Bool, decide (28 < c.kind) = q := ⟨_, rfl⟩;obtain ⟨b3, hb3⟩ : ∃ q : Bool, decide (c.line < 0) = q := ⟨_, rfl⟩;obtain ⟨b4, hb4⟩ : ∃ q : Bool, decide ((c.kids.length : Int) < lo) = q := ⟨_, rfl⟩;obtain ⟨b5, hb5⟩ : ∃ q : Bool, decide (hi < (c.kids.length : Int)) = q := ⟨_, rfl⟩;obtain ⟨b6, hb6⟩ : ∃ q : Bool, Ze6 W c.kind c.aB = q := ⟨_, rfl⟩;have HB6 := zh hb6;have HD := zh (show s1 W c d = (!b0 && (!b1 && (!b2 && (!b3 && (!b4 && (!b5 && b6)))))) by
  unfold s1;rw [← HLO.o, ← HHI.o, ← hb0, ← hb1, ← hb2, ← hb3, ← hb4, ← hb5, ← hb6];rw [Bool.eq_iff_iff];simp
  try omega)
 clear hb6;have c0 := cz6 HE.o.cb;have fc0 := fz HE.o.cb;have g0 := cz4 HE.o.pb;have fg0 := fz HE.o.pb;obtain ⟨fr, rfl⟩ := HF.o.opn;clear HF
 conv => arg 2; whnf
 cases b0 with
 | true => (go_wp2_with fail; rw [HD.o]; exact ⟨FsA.mk' rfl rfl rfl rfl rfl rfl rfl rfl rfl rfl rfl, Za.refl _⟩)
 | false =>
 cases b1 with
 | true => (go_wp2_with fail; rw [HD.o]; exact ⟨FsA.mk' rfl rfl rfl rfl rfl rfl rfl rfl rfl rfl rfl, Za.refl _⟩)
 | false =>
 cases b2 with
 | true => (go_wp2_with fail; rw [HD.o]; exact ⟨FsA.mk' rfl rfl rfl rfl rfl rfl rfl rfl rfl rfl rfl, Za.refl _⟩)
 | false =>
 cases b3 with
 | true => (go_wp2_with fail; rw [HD.o]; exact ⟨FsA.mk' rfl rfl rfl rfl rfl rfl rfl rfl rfl rfl rfl, Za.refl _⟩)
 | false =>
 cases b4 with
 | true => (go_wp2_with fail; rw [HD.o]; exact ⟨FsA.mk' rfl rfl rfl rfl rfl rfl rfl rfl rfl rfl rfl, Za.refl _⟩)
 | false =>
 cases b5 with
 | true => (go_wp2_with fail; rw [HD.o]; exact ⟨FsA.mk' rfl rfl rfl rfl rfl rfl rfl rfl rfl rfl rfl, Za.refl _⟩)
 | false =>
 go_wp2_with fail;refine (Zr8 n _ F c A k W A1 A2 A3 e1 e2 e3 pm HE.o.cv hW.o).mono ?_;rintro e w2 ⟨rfl, hl2⟩;have HL2 := zh hl2;rw [HB6.o];clear hl2
 cases b6 <;> (go_wp2_with fail; rw [HD.o]; exact ⟨FsA.mk' rfl rfl rfl rfl rfl rfl rfl rfl rfl rfl rfl, HL2.o⟩)
theorem Zt0 {a : Act} (n : Nat) (F : Nat → Prop) (w : World) (W : Wd) (c : Zd) (A : Option Addr) (k : Nat) (A1 A2 A3 : Option Addr) (e1 e2 e3 : Nat) (pm : Int) (PB CB : Nat) (lp cr : Bool) (d : Nat) (lo hi : Int) (HE : Hd (VS n F w W c A k A1 A2 A3 e1 e2 e3 pm PB CB)) (HF : Hd (FsX W.nS lp cr d PB CB lo hi a)) :
  vs2.wp Tryz.prog (Zhx fun a' x => FsB W.nS lp cr d PB CB lo hi (!(s2 c)) a' ∧ x = w) a w := by
 obtain ⟨A', k', ek, hkc, hkm, _⟩ := HE.o.cv.kids;have hks1 : (c.kids.length : Int) ≤ 9223372036854775807 := by unfold maxLen at hkm; cases ek; omega
 clear ek hkc hkm;obtain ⟨b1, hb1⟩ : ∃ q : Bool, (c.kind != 11) = q := ⟨_, rfl⟩;obtain ⟨b2, hb2⟩ : ∃ q : Bool, (c.op != 0) = q := ⟨_, rfl⟩;obtain ⟨b3, hb3⟩ : ∃ q : Bool, (c.kind != 2) = q := ⟨_, rfl⟩;obtain ⟨b4, hb4⟩ : ∃ q : Bool, (c.kind != 3) = q := ⟨_, rfl⟩;obtain ⟨b5, hb5⟩ : ∃ q : Bool, c.text.toList.isEmpty = q := ⟨_, rfl⟩;obtain ⟨b6, hb6⟩ : ∃ q : Bool, decide ((128 : Int) < (c.text.size : Int)) = q := ⟨_, rfl⟩;obtain ⟨b7, hb7⟩ : ∃ q : Bool, decide ((120 : Int) < (c.text.size : Int)) = q := ⟨_, rfl⟩;have h8 : (c.kind == 2) = !b3 := by rw [← hb3]; simp [bne]
 have h9 : (c.text.toList != []) = !b5 := by rw [← hb5]; simp [bne]
 have HD := zh (show s2 c = ((!b1 || !b2) && ((!b3 || (!b4 || b5)) && (!b6 && (b3 || !b7)))) by
  unfold s2;rw [← hb1, ← hb2, ← hb3, ← hb4, ← hb5, ← hb6, ← hb7];rw [Bool.eq_iff_iff];simp
  try omega)
 have c0 := cz6 HE.o.cb;have fc0 := fz HE.o.cb;have g0 := cz4 HE.o.pb;have fg0 := fz HE.o.pb;obtain ⟨fr, rfl⟩ := HF.o.opn;clear HF
 conv => arg 2; whnf
 cases b1 <;> cases b2 <;> try (go_wp2_with fail; rw [HD.o]; exact ⟨FsB.mk' rfl rfl rfl rfl rfl rfl rfl rfl rfl rfl rfl, rfl⟩)
 all_goals (cases b3 <;> cases b4 <;> cases b5 <;> try (go_wp2_with fail; rw [HD.o]; exact ⟨FsB.mk' rfl rfl rfl rfl rfl rfl rfl rfl rfl rfl rfl, rfl⟩))
 all_goals (cases b6 <;> cases b7 <;> (go_wp2_with fail; rw [HD.o]; exact ⟨FsB.mk' rfl rfl rfl rfl rfl rfl rfl rfl rfl rfl rfl, rfl⟩))
section
def FsO (nS : Nat) (lp cr : Bool) (d PB CB : Nat) (lo hi : Int) (XB : Nat) (ok : Bool) (a : Act) : Prop := Fr 242 [(1, .int .i64 (nS : Nat)), (3, .bool lp), (4, .bool cr), (5, .int .i64 (d : Nat)), (6, .pointer (some ⟨PB, 0, none⟩)), (8, .pointer (some ⟨CB, 0, none⟩)), (12, .bool false), (13, .int .i64 lo), (14, .int .i64 hi), (15, .pointer (some ⟨XB, 0, none⟩)), (16, .bool ok)] a
section
variable {nS : Nat} {lp cr : Bool} {d PB CB : Nat} {lo hi : Int} {XB : Nat} {ok : Bool} {a : Act}
theorem FsO.opn (h : FsO nS lp cr d PB CB lo hi XB ok a) : ∃ f : Nat → Value, a = ⟨#[f 0, .int .i64 (nS : Nat), f 2, .bool lp, .bool cr, .int .i64 (d : Nat), .pointer (some ⟨PB, 0, none⟩), f 7, .pointer (some ⟨CB, 0, none⟩), f 9, f 10, f 11, .bool false, .int .i64 lo, .int .i64 hi, .pointer (some ⟨XB, 0, none⟩), .bool ok, f 17, f 18, f 19, f 20, f 21, f 22, f 23, f 24, f 25, f 26, f 27, f 28, f 29, f 30, f 31, f 32, f 33, f 34, f 35, f 36, f 37, f 38, f 39, f 40, f 41, f 42, f 43, f 44, f 45, f 46, f 47, f 48, f 49, f 50, f 51, f 52, f 53, f 54, f 55, f 56, f 57, f 58, f 59, f 60, f 61, f 62, f 63, f 64, f 65, f 66, f 67, f 68, f 69, f 70, f 71, f 72, f 73, f 74, f 75, f 76, f 77, f 78, f 79, f 80, f 81, f 82, f 83, f 84, f 85, f 86, f 87, f 88, f 89, f 90, f 91, f 92, f 93, f 94, f 95, f 96, f 97, f 98, f 99, f 100, f 101, f 102, f 103, f 104, f 105, f 106, f 107, f 108, f 109, f 110, f 111, f 112, f 113, f 114, f 115, f 116, f 117, f 118, f 119, f 120, f 121, f 122, f 123, f 124, f 125, f 126, f 127, f 128, f 129, f 130, f 131, f 132, f 133, f 134, f 135, f 136, f 137, f 138, f 139, f 140, f 141, f 142, f 143, f 144, f 145, f 146, f 147, f 148, f 149, f 150, f 151, f 152, f 153, f 154, f 155, f 156, f 157, f 158, f 159, f 160, f 161, f 162, f 163, f 164, f 165, f 166, f 167, f 168, f 169, f 170, f 171, f 172, f 173, f 174, f 175, f 176, f 177, f 178, f 179, f 180, f 181, f 182, f 183, f 184, f 185, f 186, f 187, f 188, f 189, f 190, f 191, f 192, f 193, f 194, f 195, f 196, f 197, f 198, f 199, f 200, f 201, f 202, f 203, f 204, f 205, f 206, f 207, f 208, f 209, f 210, f 211, f 212, f 213, f 214, f 215, f 216, f 217, f 218, f 219, f 220, f 221, f 222, f 223, f 224, f 225, f 226, f 227, f 228, f 229, f 230, f 231, f 232, f 233, f 234, f 235, f 236, f 237, f 238, f 239, f 240, f 241], []⟩ := by
 obtain ⟨f, e, hf⟩ := Fr.lit h;obtain ⟨h1, h3, h4, h5, h6, h8, h12, h13, h14, h15, h16, -⟩ := h.has;refine ⟨f, e.trans ?_⟩;have k1 := Zf h1 (hf 1 (by omega));have k3 := Zf h3 (hf 3 (by omega));have k4 := Zf h4 (hf 4 (by omega));have k5 := Zf h5 (hf 5 (by omega));have k6 := Zf h6 (hf 6 (by omega));have k8 := Zf h8 (hf 8 (by omega));have k12 := Zf h12 (hf 12 (by omega));have k13 := Zf h13 (hf 13 (by omega));have k14 := Zf h14 (hf 14 (by omega));have k15 := Zf h15 (hf 15 (by omega));have k16 := Zf h16 (hf 16 (by omega));rw [← k1];rw [← k3];rw [← k4];rw [← k5];rw [← k6];rw [← k8];rw [← k12];rw [← k13];rw [← k14];rw [← k15];rw [← k16]
 rfl
theorem FsO.mk' {A : Array Value} (hs : A.size = 242) (h1 : A[1]? = some (.int .i64 (nS : Nat))) (h3 : A[3]? = some (.bool lp)) (h4 : A[4]? = some (.bool cr)) (h5 : A[5]? = some (.int .i64 (d : Nat))) (h6 : A[6]? = some (.pointer (some ⟨PB, 0, none⟩))) (h8 : A[8]? = some (.pointer (some ⟨CB, 0, none⟩))) (h12 : A[12]? = some (.bool false)) (h13 : A[13]? = some (.int .i64 lo)) (h14 : A[14]? = some (.int .i64 hi)) (h15 : A[15]? = some (.pointer (some ⟨XB, 0, none⟩))) (h16 : A[16]? = some (.bool ok)) : FsO nS lp cr d PB CB lo hi XB ok ⟨A, []⟩ := ⟨hs, rfl, h1, h3, h4, h5, h6, h8, h12, h13, h14, h15, h16, trivial⟩
end
theorem Zt1 {a : Act} (n : Nat) (F : Nat → Prop) (w : World) (W : Wd) (c : Zd) (A : Option Addr) (k : Nat) (A1 A2 A3 : Option Addr) (e1 e2 e3 : Nat) (pm : Int) (PB CB : Nat) (lp cr : Bool) (d : Nat) (lo hi : Int) (HE : Hd (VS n F w W c A k A1 A2 A3 e1 e2 e3 pm PB CB)) (XB : Nat) (l2 h2 : Int) (ok : Bool) (HX : Hd (w.heap[XB]? = some (.cells #[.int .i64 l2, .int .i64 h2] 180 (0, 0)))) (HYES : Hd (ok = true → (∀ x ∈ bl c.text, x.toNat ≤ 127) ∧ ∀ b : Nat, b ≤ 127 → (hb l2 h2 (b : Int) = true ↔ UInt8.ofNat b ∈ bl c.text))) (HNO : Hd (ok = false → ∃ x ∈ bl c.text, 127 < x.toNat)) (HF : Hd (FsO W.nS lp cr d PB CB lo hi XB ok a)) :
  vs3.wp Tryz.prog (Zhx fun a' x => FsC W.nS lp cr d PB CB lo hi (!(Zfc (bl c.text))) a' ∧ Za w x) a w := by
 obtain ⟨t, ht⟩ : ∃ z, z = Zfc (bl c.text) := ⟨_, rfl⟩;rw [← ht];obtain ⟨fr, rfl⟩ := HF.o.opn;clear HF
 conv => arg 2; whnf
 cases ok with
 | false =>
  obtain rfl : t = false := by
   rw [ht];obtain ⟨x, hm, hx⟩ := HNO.o rfl;exact Zni hm hx
  clear ht;go_upto_region 8 with (fail);refine Z3 [] [] (by kernel_rfl) (fun W9 hW9 => ?_);have hlW : Za w W9 := by rw [hW9]; exact (Za.refl _).drew
  have HLW := zh hlW;have HXW := zC hlW HX;have HCW := zh ((hlW.block _ (Zc HE.o.cb)).trans HE.o.cb);clear hW9 hlW;refine tU 0 111 (v := ?_) rfl rfl (fun x hx => ?_) ?_;rotate_left
  ·go_simp;first|done|with_reducible rfl
  simp only [Act.put, nA, nB, nC];refine tU 1 112 (v := ?_) rfl rfl (fun x hx => ?_) ?_;rotate_left
  ·go_simp;first|done|with_reducible rfl|rw[if_neg (by omega)]|rw[if_pos (by omega)]
  simp only [Act.put, nA, nB, nC];refine tU 2 113 (v := ?_) rfl rfl (fun x hx => ?_) ?_;rotate_left
  ·go_simp;first|done|with_reducible rfl
  simp only [Act.put, nA, nB, nC];refine Zaz 3 (some 114) rfl rfl (by kernel_rfl) (fun _ _ _ h => h) rfl ?_;simp only [Act.put, nA, nB, nC];refine Zaz 4 (some 115) rfl rfl (by kernel_rfl) (fun _ _ _ h => h) rfl ?_;simp only [Act.put, nA, nB, nC];refine Zaz 5 (some 116) rfl rfl (by kernel_rfl) (fun _ _ _ h => h) rfl ?_;simp only [Act.put, nA, nB, nC];refine Zaz 6 (some 117) rfl rfl (by kernel_rfl) (fun _ _ _ h => h) rfl ?_;simp only [Act.put, nA, nB, nC];refine Zaz 7 (some 118) rfl rfl (by kernel_rfl) (fun _ _ _ h => h) rfl ?_;simp only [Act.put, nA, nB, nC];refine tU 8 119 (v := ?_) rfl rfl (fun x hx => ?_) ?_;rotate_left
  ·go_simp;first|done|with_reducible rfl
  simp only [Act.put, nA, nB, nC];refine Zag [] (by kernel_rfl) rfl rfl ?_;exact ⟨FsC.mk' rfl rfl rfl rfl rfl rfl rfl rfl rfl rfl rfl, HLW.o⟩
 | true =>
  obtain ⟨h7, hs⟩ := HYES.o rfl;have htx := Ztp (bl c.text) l2 h2 h7 hs;rw [← ht] at htx;obtain ⟨z, hz⟩ : ∃ z : ByteArray, (⟨(Zcq l2 h2 128).toArray⟩ : ByteArray) = z := ⟨_, rfl⟩;have hzt : (z.toList == c.text.toList) = t := by
   rw [Bool.eq_iff_iff, beq_iff_eq, ← htx, ← hz]
   constructor
   ·intro h; have := Zh4 h; rw [← this]; rfl
   ·intro h; congr 1; apply Zgy; exact h
  have hzn : (z.toList != c.text.toList) = !t := by rw [← hzt]; rfl
  have HCT := zh (Zi3 l2 h2);rw [hz] at HCT;clear h7 hs htx hz ht;go_upto_region 8 with (fail);refine Z3 [] [] (by kernel_rfl) (fun W9 hW9 => ?_);have hlW : Za w W9 := by rw [hW9]; exact (Za.refl _).drew
  have HLW := zh hlW;have HXW := zC hlW HX;have HCW := zh ((hlW.block _ (Zc HE.o.cb)).trans HE.o.cb);clear hW9 hlW;refine tU 0 111 (v := ?_) rfl rfl (fun x hx => ?_) ?_;rotate_left
  ·go_simp;first|done|with_reducible rfl
  simp only [Act.put, nA, nB, nC];refine tU 1 112 (v := ?_) rfl rfl (fun x hx => ?_) ?_;rotate_left
  ·go_simp;first|done|with_reducible rfl|rw[if_neg (by omega)]|rw[if_pos (by omega)]
  simp only [Act.put, nA, nB, nC];refine tU 2 113 (v := ?_) rfl rfl (fun x hx => ?_) ?_;rotate_left
  ·go_simp;first|done|with_reducible rfl
  simp only [Act.put, nA, nB, nC];refine tU 3 114 (v := ?_) rfl rfl (fun x hx => ?_) ?_;rotate_left
  ·have hxc := (hx.block _ (Zc HCW.o)).trans HCW.o; have c0 := cz6 hxc; have fc0 := fz hxc; have hxs := (hx.block _ (Zc HXW.o)).trans HXW.o; have z0 := cz2 hxs; have fz0 := fz hxs; go_simp; first|done|with_reducible rfl
  simp only [Act.put, nA, nB, nC];refine tU 5 116 (v := ?_) rfl rfl (fun x hx => ?_) ?_;rotate_left
  ·go_simp;first|done|with_reducible rfl
  simp only [Act.put, nA, nB, nC];refine tU 6 117 (v := ?_) rfl rfl (fun x hx => ?_) ?_;rotate_left
  ·have hxc := (hx.block _ (Zc HCW.o)).trans HCW.o; have c0 := cz6 hxc; have fc0 := fz hxc; have hxs := (hx.block _ (Zc HXW.o)).trans HXW.o; have z0 := cz2 hxs; have fz0 := fz hxs; go_simp; first|done|with_reducible rfl
  simp only [Act.put, nA, nB, nC];refine Zca 4 (by kernel_rfl) rfl rfl ?_;go_wp2_with fail;refine (HCT.o _).mono ?_;rintro e w3 ⟨rfl, hl3⟩;have HL3 := zh hl3;clear hl3;go_wp2_with fail;refine ⟨HL3.o, ?_⟩;refine tU 7 118 (v := ?_) rfl rfl (fun x hx => ?_) ?_;rotate_left
  ·go_simp;first|done|with_reducible rfl
  simp only [Act.put, nA, nB, nC];refine tU 8 119 (v := ?_) rfl rfl (fun x hx => ?_) ?_;rotate_left
  ·go_simp;first|done|with_reducible rfl
  simp only [Act.put, nA, nB, nC];refine Zag [] (by kernel_rfl) rfl rfl ?_;exact ⟨FsC.mk' rfl rfl rfl rfl rfl rfl rfl rfl rfl rfl rfl, Za.trans HLW.o HL3.o⟩
theorem Zta {a : Act} (n : Nat) (F : Nat → Prop) (w : World) (W : Wd) (c : Zd) (A : Option Addr) (k : Nat) (A1 A2 A3 : Option Addr) (e1 e2 e3 : Nat) (pm : Int) (PB CB : Nat) (lp cr : Bool) (d : Nat) (lo hi : Int) (HE : Hd (VS n F w W c A k A1 A2 A3 e1 e2 e3 pm PB CB)) (k3 : Bool) (hk3 : (c.kind == 3) = k3) (HF : Hd (FsY W.nS lp cr d PB CB lo hi k3 a)) :
  vs3c.wp Tryz.prog (Zjk (fun a' x => s3 c = true ∧ FsX W.nS lp cr d PB CB lo hi a' ∧ Za w x) (fun a' x => s3 c = false ∧ FsX W.nS lp cr d PB CB lo hi a' ∧ Za w x)) a w := by
 have HK3 := zh (show decide (c.kind = 3) = k3 by rw [← hk3]; rfl);clear hk3;have c0 := cz6 HE.o.cb;have fc0 := fz HE.o.cb;have g0 := cz4 HE.o.pb;have fg0 := fz HE.o.pb;obtain ⟨fr, rfl⟩ := HF.o.opn;clear HF
 conv => arg 2; whnf
 cases k3 with
 | false =>
  go_wp2_with fail;exact ⟨by unfold s3; rw [HK3.o]; rfl, FsX.mk' rfl rfl rfl rfl rfl rfl rfl rfl rfl rfl, Za.refl _⟩
 | true =>
  have HS3 := zh (show s3 c = Zfc (bl c.text) by unfold s3; rw [HK3.o]; rfl);go_wp2_with fail;refine (Zjx c.text _ HE.o.cv.tx).mono ?_;rintro e w4 ⟨⟨l2, h2, ok, rfl, hyes, hno⟩, hl4⟩;have HYES := zh hyes;have HNO := zh hno;have HE4 := zh (HE.o.later hl4);have HL4 := zh (show Za w w4 from hl4);clear hyes hno hl4;clear c0 fc0 g0 fg0;have c0 := cz6 HE4.o.cb;have fc0 := fz HE4.o.cb;have g0 := cz4 HE4.o.pb;have fg0 := fz HE4.o.pb;go_upto_region 8 with (fail);have hla : Za w4 (w4.alloc (.cells #[.int .i64 l2, .int .i64 h2] 180)) := (Za.refl _).alloc _;have hxb := heap_alloc_new w4 (.cells #[.int .i64 l2, .int .i64 h2] 180);obtain ⟨w5, hw5⟩ : ∃ z, w4.alloc (.cells #[.int .i64 l2, .int .i64 h2] 180) = z := ⟨_, rfl⟩;rw [hw5] at hla hxb ⊢;have HE5 := zh (HE4.o.later hla);have HL5 := zh (Za.trans HL4.o hla);have HXB := zh hxb;clear hla hxb hw5;clear c0 fc0 g0 fg0;refine @Zc0 _ vs3 ?R91 _ _ _ _ ?h ?k
  case h =>
   refine Zt1 n F w5 W c A k A1 A2 A3 e1 e2 e3 pm PB CB lp cr d lo hi HE5 w4.heap.size l2 h2 ok HXB HYES HNO (zh ?hf)
   case hf => exact FsO.mk' rfl rfl rfl rfl rfl rfl rfl rfl rfl rfl rfl rfl
  case k =>
  rintro a' w6 ⟨hf, hl⟩;obtain ⟨fr91, rfl⟩ := hf.opn;clear hf;have HL6 := zh (Za.trans HL5.o hl);clear hl;obtain ⟨qq, hq⟩ : ∃ z, z = Zfc (bl c.text) := ⟨_, rfl⟩;rw [← hq];have HQ := zh hq;clear hq
  cases qq with
  | false =>
   go_wp2_with fail;exact ⟨by rw [HS3.o, ← HQ.o], FsX.mk' rfl rfl rfl rfl rfl rfl rfl rfl rfl rfl, HL6.o⟩
  | true =>
   go_wp2_with fail;exact ⟨by rw [HS3.o, ← HQ.o], FsX.mk' rfl rfl rfl rfl rfl rfl rfl rfl rfl rfl, HL6.o⟩
end
theorem Zt2 {a : Act} (n : Nat) (F : Nat → Prop) (w : World) (W : Wd) (c : Zd) (A : Option Addr) (k : Nat) (A1 A2 A3 : Option Addr) (e1 e2 e3 : Nat) (pm : Int) (PB CB : Nat) (lp cr : Bool) (d : Nat) (lo hi : Int) (HE : Hd (VS n F w W c A k A1 A2 A3 e1 e2 e3 pm PB CB)) (HF : Hd (FsX W.nS lp cr d PB CB lo hi a)) :
  vs4.wp Tryz.prog (Zhx fun a' x => FsD W.nS lp cr d PB CB lo hi (!(s4 c lp cr)) a' ∧ x = w) a w := by
 obtain ⟨b1, hb1⟩ : ∃ q : Bool, (c.kind == 20) = q := ⟨_, rfl⟩;obtain ⟨b2, hb2⟩ : ∃ q : Bool, (c.kind == 21) = q := ⟨_, rfl⟩;obtain ⟨b3, hb3⟩ : ∃ q : Bool, decide (23 ≤ c.kind) = q := ⟨_, rfl⟩;obtain ⟨b4, hb4⟩ : ∃ q : Bool, decide (c.kind ≤ 25) = q := ⟨_, rfl⟩;have HD := zh (show s4 c lp cr = ((!(b1 || b2) || lp) && (!(b3 && b4) || !cr)) by
  unfold s4;rw [← hb1, ← hb2, ← hb3, ← hb4]
  rfl)
 have c0 := cz6 HE.o.cb;have fc0 := fz HE.o.cb;have g0 := cz4 HE.o.pb;have fg0 := fz HE.o.pb;obtain ⟨fr, rfl⟩ := HF.o.opn;clear HF
 conv => arg 2; whnf
 cases b1 <;> cases b2 <;> cases lp <;> cases b3 <;> cases b4 <;> cases cr <;> (go_wp2_with fail; rw [HD.o]; exact ⟨FsD.mk' rfl rfl rfl rfl rfl rfl rfl rfl rfl rfl rfl, rfl⟩)
theorem Zt3 {a : Act} (n : Nat) (F : Nat → Prop) (w : World) (W : Wd) (c : Zd) (A : Option Addr) (k : Nat) (A1 A2 A3 : Option Addr) (e1 e2 e3 : Nat) (pm : Int) (PB CB : Nat) (lp cr : Bool) (d : Nat) (lo hi : Int) (HE : Hd (VS n F w W c A k A1 A2 A3 e1 e2 e3 pm PB CB)) (HK79 : Hd (c.op = 79 → 2 ≤ c.kids.length)) (HK81 : Hd (c.op = 81 → 1 ≤ c.kids.length)) (HK11 : Hd (c.kind = 11 ∨ c.op = 0)) (HF : Hd (FsX W.nS lp cr d PB CB lo hi a)) :
  vs5.wp Tryz.prog (Zhx fun a' x => FsE W.nS lp cr d PB CB lo hi (!(hd3 c)) a' ∧ Za w x) a w := by
 obtain ⟨A', k', ek, hkc, hkm, _⟩ := HE.o.cv.kids;have hks1 : (c.kids.length : Int) ≤ 9223372036854775807 := by unfold maxLen at hkm; cases ek; omega
 clear ek hkc hkm
 by_cases h11 : c.kind = 11
 ·by_cases ho : c.op = 79
  ·have hk2 : 2 ≤ c.kids.length := HK79.o ho;have hk2' : (1 : Int) < (c.kids.length : Int) := by omega
   obtain ⟨n', rfl⟩ := HE.o.cv.lev (i := 1) (by omega);obtain ⟨kb, ko, Bk, q, eA, hca⟩ := CAt.kid HE.o.cv.kids (i := 1) (by omega);cases eA;rw [← Za4 (by omega)] at hca;obtain ⟨x, hx⟩ : ∃ z, z = c.kid 1 := ⟨_, rfl⟩;have hD := zh (show hd3 c = (x.kind == 2 && Zba x.text) by unfold hd3 Zjy Zi4; rw [ho, hx]; simp);rw [← hx] at hca;obtain ⟨c0, c1, c2, c3, c4, c5⟩ := cz6 HE.o.cb;have fc0 := fz HE.o.cb;have g0 := cz4 HE.o.pb;have fg0 := fz HE.o.pb;rw [ho] at c1;rw [h11] at c0;have d0 := hca.c0;have d1 := hca.c1;have d2 := hca.c2;have d3 := hca.c3;have d4 := hca.c4;have d5 := hca.c5;simp only [Nat.zero_mul, Nat.add_zero, Nat.reduceMul, Nat.add_assoc, Nat.reduceAdd] at d0 d1 d2 d3 d4 d5;have HTX := zh hca.tx;have t81 : (c.op == 81) = false := by rw [ho]; rfl
   have t11 : (c.kind == 11) = true := by rw [h11]; rfl
   clear hca hx ho h11;obtain ⟨p, hp⟩ : ∃ b : Bool, (x.kind != 2) = b := ⟨_, rfl⟩;have HP := zh (show (x.kind == 2) = !p by rw [← hp]; simp [bne]);obtain ⟨fr, rfl⟩ := HF.o.opn;clear HF
   conv => arg 2; whnf
   cases p with
   | true =>
    go_wp2_with fail;rw [hD.o, HP.o];exact ⟨FsE.mk' rfl rfl rfl rfl rfl rfl rfl rfl rfl rfl rfl, Za.refl _⟩
   | false =>
    go_wp2_with fail;refine (Zc5 x.text _ HTX.o).mono ?_;rintro e w3 ⟨rfl, hl3⟩;have HL3 := zh hl3;have HE3 := zh (HE.o.later hl3);clear hl3 c0 c1 c2 c3 c4 c5 fc0 g0 fg0 d0 d1 d2 d3 d4 d5;obtain ⟨p2, hp2⟩ : ∃ b : Bool, Zba x.text = b := ⟨_, rfl⟩;rw [hp2];have HP2 := zh hp2;clear hp2;obtain ⟨c0, c1, c2, c3, c4, c5⟩ := cz6 HE3.o.cb;have fc0 := fz HE3.o.cb;have g0 := cz4 HE3.o.pb;have fg0 := fz HE3.o.pb
    cases p2 <;> (go_wp2_with fail; rw [hD.o, HP.o, HP2.o]; exact ⟨FsE.mk' rfl rfl rfl rfl rfl rfl rfl rfl rfl rfl rfl, HL3.o⟩)
  by_cases ho : c.op = 81
  ·have hk2 : 1 ≤ c.kids.length := HK81.o ho;have hk2' : (0 : Int) < (c.kids.length : Int) := by omega
   obtain ⟨n', rfl⟩ := HE.o.cv.lev (i := 0) (by omega);obtain ⟨kb, ko, Bk, q, eA, hca⟩ := CAt.kid HE.o.cv.kids (i := 0) (by omega);cases eA;rw [← Za4 (by omega)] at hca;obtain ⟨x, hx⟩ : ∃ z, z = c.kid 0 := ⟨_, rfl⟩;have hD := zh (show hd3 c = (x.kind == 5 || x.kind == 6) by unfold hd3 Zjy Zi4; rw [ho, hx]; simp);rw [← hx] at hca;obtain ⟨c0, c1, c2, c3, c4, c5⟩ := cz6 HE.o.cb;have fc0 := fz HE.o.cb;have g0 := cz4 HE.o.pb;have fg0 := fz HE.o.pb;rw [ho] at c1;rw [h11] at c0;have d0 := hca.c0;have d1 := hca.c1;have d2 := hca.c2;have d3 := hca.c3;have d4 := hca.c4;have d5 := hca.c5;simp only [Nat.zero_mul, Nat.add_zero, Nat.reduceMul, Nat.add_assoc, Nat.reduceAdd] at d0 d1 d2 d3 d4 d5;clear hca hx ho h11;obtain ⟨p, hp⟩ : ∃ b : Bool, (x.kind != 5) = b := ⟨_, rfl⟩;obtain ⟨p2, hp2⟩ : ∃ b : Bool, (x.kind != 6) = b := ⟨_, rfl⟩;have HP := zh (show hd3 c = (!p || !p2) by rw [hD.o, ← hp, ← hp2]; simp [bne]);obtain ⟨fr, rfl⟩ := HF.o.opn;clear HF
   conv => arg 2; whnf
   cases p <;> cases p2 <;> (go_wp2_with fail; rw [HP.o]; exact ⟨FsE.mk' rfl rfl rfl rfl rfl rfl rfl rfl rfl rfl rfl, Za.refl _⟩)
  have t79 : (c.op == 79) = false := nH.2 (by assumption);have t81 : (c.op == 81) = false := nH.2 ho;have t11 : (c.kind == 11) = true := by rw [h11]; rfl
  have hD := zh (show hd3 c = true by unfold hd3 Zjy Zi4; rw [t79, t81]; rfl);clear h11;obtain ⟨c0, c1, c2, c3, c4, c5⟩ := cz6 HE.o.cb;have fc0 := fz HE.o.cb;have g0 := cz4 HE.o.pb;have fg0 := fz HE.o.pb;obtain ⟨fr, rfl⟩ := HF.o.opn;clear HF
  conv => arg 2; whnf
  go_wp2_with fail;rw [hD.o];exact ⟨FsE.mk' rfl rfl rfl rfl rfl rfl rfl rfl rfl rfl rfl, Za.refl _⟩
 ·have h0 : c.op = 0 := HK11.o.resolve_left h11;have t11 : (c.kind == 11) = false := nH.2 h11;have hD := zh (show hd3 c = true by unfold hd3 Zjy Zi4; rw [h0]; rfl);clear h11 h0;obtain ⟨c0, c1, c2, c3, c4, c5⟩ := cz6 HE.o.cb;have fc0 := fz HE.o.cb;have g0 := cz4 HE.o.pb;have fg0 := fz HE.o.pb;obtain ⟨fr, rfl⟩ := HF.o.opn;clear HF
  conv => arg 2; whnf
  go_wp2_with fail;rw [hD.o];exact ⟨FsE.mk' rfl rfl rfl rfl rfl rfl rfl rfl rfl rfl rfl, Za.refl _⟩
def VdP (n : Nat) : Prop := ∀ (w : World) (F : Nat → Prop) (c : Zd) (A : Option Addr) (k : Nat) (W : Wd) (A1 A2 A3 : Option Addr) (e1 e2 e3 : Nat) (pm : Int) (lp cr : Bool) (d : Nat), CV n F w c A k → (W.nS ≤ 4194304 ∧ W.nG ≤ 4194304 ∧ W.nR ≤ 4194304 ∧ W.nC ≤ 4194304) → d ≤ 401 → Calls Tryz.prog 69 #[.agg #[.slice A1 W.nR e1, .slice A2 W.nC e2, .slice A3 W.nG e3, .int .i64 pm], .int .i64 (W.nS : Nat), c.val A k, .bool lp, .bool cr, .int .i64 (d : Nat)] w fun e w' => e = .returned (.bool (vD W (n + 1) c lp cr d)) ∧ Below w.heap.size w w'
def Zmf (W : Wd) (n : Nat) (c : Zd) (lp cr : Bool) (d : Nat) : Bool := (List.range c.kids.length).all fun i => vD W n (c.kid i) (Zm c.kind i lp) (cr || decide (c.kind = 26)) (d + 1)
theorem Zod {W : Wd} {n : Nat} {c : Zd} {lp cr : Bool} {d j : Nat} (hj : j < c.kids.length) (h : vD W n (c.kid j) (Zm c.kind j lp) (cr || decide (c.kind = 26)) (d + 1) = false) : Zmf W n c lp cr d = false := by
 rw [← Bool.not_eq_true];intro h2;have := List.all_eq_true.1 h2 j (by simpa using hj);rw [h] at this
 cases this
theorem Zqq {W : Wd} {n : Nat} {c : Zd} {lp cr : Bool} {d : Nat} (h : ∀ i, i < c.kids.length → vD W n (c.kid i) (Zm c.kind i lp) (cr || decide (c.kind = 26)) (d + 1) = true) : Zmf W n c lp cr d = true :=
 List.all_eq_true.2 fun i hi => h i (by simpa using hi)
theorem Zt4 {a : Act} (n : Nat) (F : Nat → Prop) (w : World) (W : Wd) (c : Zd) (A : Option Addr) (k : Nat) (A1 A2 A3 : Option Addr) (e1 e2 e3 : Nat) (pm : Int) (PB CB : Nat) (lp cr : Bool) (d : Nat) (lo hi : Int) (HE : Hd (VS n F w W c A k A1 A2 A3 e1 e2 e3 pm PB CB)) (IH : ∀ n', n = n' + 1 → VdP n') (hW : Hd (W.nS ≤ 4194304 ∧ W.nG ≤ 4194304 ∧ W.nR ≤ 4194304 ∧ W.nC ≤ 4194304)) (hd : d ≤ 400) (HF : Hd (FsL W.nS lp cr d PB CB lo hi 0 a)) :
  vs6.wp Tryz.prog (Zjk (fun a' x => Zmf W n c lp cr d = true ∧ FsX W.nS lp cr d PB CB lo hi a' ∧ Za w x) (fun a' x => Zmf W n c lp cr d = false ∧ FsX W.nS lp cr d PB CB lo hi a' ∧ Za w x)) a w := by
 obtain ⟨A', k', ek, hkc, hkm, _⟩ := HE.o.cv.kids;have hks1 : (c.kids.length : Int) ≤ 9223372036854775807 := by unfold maxLen at hkm; cases ek; omega
 clear ek hkc hkm;have HF0 := HF;obtain ⟨c0, c1, c2, c3, c4, c5⟩ := cz6 HE.o.cb;have fc0 := fz HE.o.cb;have g0 := cz4 HE.o.pb;have fg0 := fz HE.o.pb;obtain ⟨fr, rfl⟩ := HF.o.opn;clear HF
 conv => arg 2; whnf
 go_wp2_with fail;refine wp_loop_ghost_k (fun g a u => ∃ j : Nat, g + j = c.kids.length ∧ FsL W.nS lp cr d PB CB lo hi j a ∧ Hd (∀ i, i < j → vD W n (c.kid i) (Zm c.kind i lp) (cr || decide (c.kind = 26)) (d + 1) = true) ∧ Za w u) c.kids.length ⟨0, by omega, HF0.o, zh (fun i h => by omega), Za.refl _⟩ ?_;clear c0 c1 c2 c3 c4 c5 fc0 g0 fg0 HF0 fr;rintro gk a u ⟨j, hg, hf, HJ, hl⟩ J K hJ hK;obtain ⟨fr, rfl⟩ := hf.opn;have HLL := zh hl;have HE2 := zh (HE.o.later hl);clear hl hf;obtain ⟨c0, c1, c2, c3, c4, c5⟩ := cz6 HE2.o.cb;have fc0 := fz HE2.o.cb;have g0 := cz4 HE2.o.pb;have fg0 := fz HE2.o.pb
 by_cases hlt : j < c.kids.length
 ·obtain ⟨n', rfl⟩ := HE.o.cv.lev hlt;have hlt' : (j : Int) < (c.kids.length : Int) := by omega
  obtain ⟨kb, ko, Bk, q, eA, hca⟩ := CAt.kid HE2.o.cv.kids hlt;cases eA;rw [← Za4 hlt] at hca;obtain ⟨y, hy⟩ : ∃ z, z = c.kid j := ⟨_, rfl⟩;rw [← hy] at hca;have HCA := zh hca;have HY := zh hy;clear hca hy;obtain ⟨ib, hib⟩ : ∃ z, z = Zm c.kind j lp := ⟨_, rfl⟩;have HIB := zh hib;clear hib;obtain ⟨k18, hk18⟩ : ∃ b : Bool, (c.kind == 18) = b := ⟨_, rfl⟩;obtain ⟨k19, hk19⟩ : ∃ b : Bool, (c.kind == 19) = b := ⟨_, rfl⟩;obtain ⟨k20, hk20⟩ : ∃ b : Bool, (c.kind == 20) = b := ⟨_, rfl⟩;obtain ⟨k26, hk26⟩ : ∃ b : Bool, (c.kind == 26) = b := ⟨_, rfl⟩;have n20 : (c.kind != 20) = !k20 := by rw [← hk20]; rfl
  have n26 : (c.kind != 26) = !k26 := by rw [← hk26]; rfl
  have HINN := zh (show Zm c.kind j lp = if k18 || k19 then ((j : Int) == 1) else (lp && (!k20 && !k26)) by
   rw [← hk18, ← hk19, ← hk20, ← hk26];unfold Zm
   by_cases h1 : c.kind = 18 ∨ c.kind = 19
   ·rw [if_pos h1, if_pos (by simpa using h1), Bool.eq_iff_iff]; simp; omega
   ·have e1 : (c.kind == 18 || c.kind == 19) = false := by simpa using h1
    rw [if_neg h1, e1, if_neg Bool.false_ne_true]
    by_cases h2 : c.kind = 20 ∨ c.kind = 26
    ·rw [if_pos h2]; rcases h2 with h2 | h2 <;> simp [h2]
    ·rw [if_neg h2]; simp only [not_or] at h2; simp [h2.1, h2.2])
  have HP := zh (show decide (c.kind = 26) = k26 by rw [← hk26]; rfl);have td : IntKind.i64.wrap ((d : Int) + 1) = ((d + 1 : Nat) : Int) := by rw [IntWalk.i64_in _ (by omega)]; rfl
  go_upto_region 17 with (fail)
  go_cut [18] from 203 to 213 (fun v wr => v = .bool (lp && (!k20 && !k26)) ∧ u = wr)
  case first =>
   cases lp <;> cases k20 <;> cases k26 <;> (go_wp2_with fail; go_meet; exact ⟨rfl, rfl⟩)
  case rest =>
  obtain ⟨rfl, rfl⟩ := hcut;go_upto_region 18 with (fail)
  go_cut [221] from 214 to 221 (fun v wr => v = .bool (k18 || k19) ∧ u = wr)
  case first =>
   cases k18 <;> cases k19 <;> (go_wp2_with fail; go_meet; exact ⟨rfl, rfl⟩)
  case rest =>
  obtain ⟨rfl, rfl⟩ := hcut
  go_upto_if 221 with (fail)
  go_cut [18] from 222 to 223 (fun v wr => v = .bool ib ∧ u = wr)
  case first =>
   cases k18 <;> cases k19 <;> (go_wp2_with fail; go_meet; exact ⟨by rw [HIB.o, HINN.o]; rfl, rfl⟩)
  case rest =>
  obtain ⟨rfl, rfl⟩ := hcut;clear c0 c1 c2 c3 c4 c5 fc0 g0 fg0
  cases cr with
  | true =>
   go_upto_region 20 with (fail);refine Z3 [16, 17] [] (by kernel_rfl) (fun W9 hW9 => ?_);have hlW : Za u W9 := by rw [hW9]; exact (Za.refl _).drew
   have HLW := zh hlW;have HEW := zh (HE2.o.later hlW);have HCAW := zh (HCA.o.keep (fun _ h => h) (Zb.later hlW));clear hW9 hlW;refine tU 0 224 (v := ?_) rfl rfl (fun x hx => ?_) ?_;rotate_left
   ·have hEx := HEW.o.later hx; obtain ⟨c0, c1, c2, c3, c4, c5⟩ := cz6 hEx.cb; have fc0 := fz hEx.cb; have g0 := cz4 hEx.pb; have fg0 := fz hEx.pb; have hca := HCAW.o.keep (fun _ h => h) (Zb.later hx); have d0 := hca.c0; have d1 := hca.c1; have d2 := hca.c2; have d3 := hca.c3; have d4 := hca.c4; have d5 := hca.c5; go_simp; first|done|with_reducible rfl
   simp only [Act.put, nA, nB, nC];refine tU 1 225 (v := ?_) rfl rfl (fun x hx => ?_) ?_;rotate_left
   ·go_simp;first|done|with_reducible rfl
   simp only [Act.put, nA, nB, nC];refine tU 2 226 (v := ?_) rfl rfl (fun x hx => ?_) ?_;rotate_left
   ·go_simp;first|done|with_reducible rfl
   simp only [Act.put, nA, nB, nC];refine tU 3 227 (v := ?_) rfl rfl (fun x hx => ?_) ?_;rotate_left
   ·have hEx := HEW.o.later hx; obtain ⟨c0, c1, c2, c3, c4, c5⟩ := cz6 hEx.cb; have fc0 := fz hEx.cb; have g0 := cz4 hEx.pb; have fg0 := fz hEx.pb; have hca := HCAW.o.keep (fun _ h => h) (Zb.later hx); have d0 := hca.c0; have d1 := hca.c1; have d2 := hca.c2; have d3 := hca.c3; have d4 := hca.c4; have d5 := hca.c5; go_simp; first|done|with_reducible rfl
   simp only [Act.put, nA, nB, nC];refine tU 4 228 (v := ?_) rfl rfl (fun x hx => ?_) ?_;rotate_left
   ·go_simp;first|done|with_reducible rfl
   simp only [Act.put, nA, nB, nC];refine tU 5 229 (v := ?_) rfl rfl (fun x hx => ?_) ?_;rotate_left
   ·go_simp;first|done|with_reducible rfl|rw[if_neg (by omega)]|rw[if_pos (by omega)]
   simp only [Act.put, nA, nB, nC];refine tU 6 230 (v := ?_) rfl rfl (fun x hx => ?_) ?_;rotate_left
   ·have hEx := HEW.o.later hx; obtain ⟨c0, c1, c2, c3, c4, c5⟩ := cz6 hEx.cb; have fc0 := fz hEx.cb; have g0 := cz4 hEx.pb; have fg0 := fz hEx.pb; have hca := HCAW.o.keep (fun _ h => h) (Zb.later hx); have d0 := hca.c0; have d1 := hca.c1; have d2 := hca.c2; have d3 := hca.c3; have d4 := hca.c4; have d5 := hca.c5; go_simp; first|done|with_reducible rfl
   simp only [Act.put, nA, nB, nC];refine tU 7 231 (v := ?_) rfl rfl (fun x hx => ?_) ?_;rotate_left
   ·go_simp;first|done|with_reducible rfl
   simp only [Act.put, nA, nB, nC];refine tU 8 232 (v := ?_) rfl rfl (fun x hx => ?_) ?_;rotate_left
   ·go_simp;first|done|with_reducible rfl
   simp only [Act.put, nA, nB, nC];refine tU 9 233 (v := ?_) rfl rfl (fun x hx => ?_) ?_;rotate_left
   ·go_simp;first|done|with_reducible rfl
   simp only [Act.put, nA, nB, nC];refine Zaz 10 (some 234) rfl rfl (by kernel_rfl) (fun _ _ _ h => h) rfl ?_;simp only [Act.put, nA, nB, nC];refine Zaz 11 (some 235) rfl rfl (by kernel_rfl) (fun _ _ _ h => h) rfl ?_;simp only [Act.put, nA, nB, nC];refine Zaz 12 (some 236) rfl rfl (by kernel_rfl) (fun _ _ _ h => h) rfl ?_;simp only [Act.put, nA, nB, nC];refine tU 13 237 (v := ?_) rfl rfl (fun x hx => ?_) ?_;rotate_left
   ·go_simp;first|done|with_reducible rfl
   simp only [Act.put, nA, nB, nC];refine tU 14 238 (v := ?_) rfl rfl (fun x hx => ?_) ?_;rotate_left
   ·go_simp;first|done|with_reducible rfl
   simp only [Act.put, nA, nB, nC];refine tU 15 239 (v := ?_) rfl rfl (fun x hx => ?_) ?_;rotate_left
   ·go_simp;first|done|with_reducible rfl
   simp only [Act.put, nA, nB, nC];refine Zag [_, _] (by kernel_rfl) rfl rfl ?_;simp only [List.getElem_toArray, List.getElem_cons_succ, List.getElem_cons_zero]
   go_wp2_with fail;refine (IH n' rfl _ F y Bk q W A1 A2 A3 e1 e2 e3 pm ib _ (d + 1) HCAW.o.cv hW.o (by omega)).mono ?_;rintro e w5 ⟨rfl, hl5⟩;have HL5 := zh (HLL.o.trans (Za.trans HLW.o hl5));clear hl5
   generalize hb : vD W (n' + 1) y ib _ (d + 1) = b
   have HBB := zh hb;clear hb
   cases b with
   | false =>
    go_wp2_with fail;exact ⟨Zod hlt (by rw [HP.o, ← HY.o, ← HIB.o]; exact HBB.o), FsX.mk' rfl rfl rfl rfl rfl rfl rfl rfl rfl rfl, HL5.o⟩
   | true =>
    go_wp2_with fail;refine Handed.intro (gk - 1) (by omega) (hJ _ _ _ ⟨j + 1, by omega, FsL.mk' rfl rfl rfl rfl rfl rfl rfl rfl rfl rfl rfl, zh (fun i hi => by
     by_cases h : i < j
     ·exact HJ.o i h
     ·obtain rfl : i = j := by omega
      rw [HP.o, ← HY.o, ← HIB.o]; exact HBB.o), HL5.o⟩)
  | false =>
   go_upto_region 20 with (fail);refine Z3 [16, 17] [] (by kernel_rfl) (fun W9 hW9 => ?_);have hlW : Za u W9 := by rw [hW9]; exact (Za.refl _).drew
   have HLW := zh hlW;have HEW := zh (HE2.o.later hlW);have HCAW := zh (HCA.o.keep (fun _ h => h) (Zb.later hlW));clear hW9 hlW;refine tU 0 224 (v := ?_) rfl rfl (fun x hx => ?_) ?_;rotate_left
   ·have hEx := HEW.o.later hx; obtain ⟨c0, c1, c2, c3, c4, c5⟩ := cz6 hEx.cb; have fc0 := fz hEx.cb; have g0 := cz4 hEx.pb; have fg0 := fz hEx.pb; have hca := HCAW.o.keep (fun _ h => h) (Zb.later hx); have d0 := hca.c0; have d1 := hca.c1; have d2 := hca.c2; have d3 := hca.c3; have d4 := hca.c4; have d5 := hca.c5; go_simp; first|done|with_reducible rfl
   simp only [Act.put, nA, nB, nC];refine tU 1 225 (v := ?_) rfl rfl (fun x hx => ?_) ?_;rotate_left
   ·go_simp;first|done|with_reducible rfl
   simp only [Act.put, nA, nB, nC];refine tU 2 226 (v := ?_) rfl rfl (fun x hx => ?_) ?_;rotate_left
   ·go_simp;first|done|with_reducible rfl
   simp only [Act.put, nA, nB, nC];refine tU 3 227 (v := ?_) rfl rfl (fun x hx => ?_) ?_;rotate_left
   ·have hEx := HEW.o.later hx; obtain ⟨c0, c1, c2, c3, c4, c5⟩ := cz6 hEx.cb; have fc0 := fz hEx.cb; have g0 := cz4 hEx.pb; have fg0 := fz hEx.pb; have hca := HCAW.o.keep (fun _ h => h) (Zb.later hx); have d0 := hca.c0; have d1 := hca.c1; have d2 := hca.c2; have d3 := hca.c3; have d4 := hca.c4; have d5 := hca.c5; go_simp; first|done|with_reducible rfl
   simp only [Act.put, nA, nB, nC];refine tU 4 228 (v := ?_) rfl rfl (fun x hx => ?_) ?_;rotate_left
   ·go_simp;first|done|with_reducible rfl
   simp only [Act.put, nA, nB, nC];refine tU 5 229 (v := ?_) rfl rfl (fun x hx => ?_) ?_;rotate_left
   ·go_simp;first|done|with_reducible rfl|rw[if_neg (by omega)]|rw[if_pos (by omega)]
   simp only [Act.put, nA, nB, nC];refine tU 6 230 (v := ?_) rfl rfl (fun x hx => ?_) ?_;rotate_left
   ·have hEx := HEW.o.later hx; obtain ⟨c0, c1, c2, c3, c4, c5⟩ := cz6 hEx.cb; have fc0 := fz hEx.cb; have g0 := cz4 hEx.pb; have fg0 := fz hEx.pb; have hca := HCAW.o.keep (fun _ h => h) (Zb.later hx); have d0 := hca.c0; have d1 := hca.c1; have d2 := hca.c2; have d3 := hca.c3; have d4 := hca.c4; have d5 := hca.c5; go_simp; first|done|with_reducible rfl
   simp only [Act.put, nA, nB, nC];refine tU 7 231 (v := ?_) rfl rfl (fun x hx => ?_) ?_;rotate_left
   ·go_simp;first|done|with_reducible rfl
   simp only [Act.put, nA, nB, nC];refine tU 8 232 (v := ?_) rfl rfl (fun x hx => ?_) ?_;rotate_left
   ·go_simp;first|done|with_reducible rfl
   simp only [Act.put, nA, nB, nC];refine tU 9 233 (v := ?_) rfl rfl (fun x hx => ?_) ?_;rotate_left
   ·go_simp;first|done|with_reducible rfl
   simp only [Act.put, nA, nB, nC];refine tU 10 234 (v := ?_) rfl rfl (fun x hx => ?_) ?_;rotate_left
   ·go_simp;first|done|with_reducible rfl
   simp only [Act.put, nA, nB, nC];refine tU 11 235 (v := ?_) rfl rfl (fun x hx => ?_) ?_;rotate_left
   ·have hEx := HEW.o.later hx; obtain ⟨c0, c1, c2, c3, c4, c5⟩ := cz6 hEx.cb; have fc0 := fz hEx.cb; have g0 := cz4 hEx.pb; have fg0 := fz hEx.pb; have hca := HCAW.o.keep (fun _ h => h) (Zb.later hx); have d0 := hca.c0; have d1 := hca.c1; have d2 := hca.c2; have d3 := hca.c3; have d4 := hca.c4; have d5 := hca.c5; go_simp; first|done|with_reducible rfl
   simp only [Act.put, nA, nB, nC];refine tU 12 236 (v := ?_) rfl rfl (fun x hx => ?_) ?_;rotate_left
   ·go_simp;first|done|with_reducible rfl
   simp only [Act.put, nA, nB, nC];refine tU 13 237 (v := ?_) rfl rfl (fun x hx => ?_) ?_;rotate_left
   ·go_simp;first|done|with_reducible rfl
   simp only [Act.put, nA, nB, nC];refine tU 14 238 (v := ?_) rfl rfl (fun x hx => ?_) ?_;rotate_left
   ·go_simp;first|done|with_reducible rfl
   simp only [Act.put, nA, nB, nC];refine tU 15 239 (v := ?_) rfl rfl (fun x hx => ?_) ?_;rotate_left
   ·go_simp;first|done|with_reducible rfl
   simp only [Act.put, nA, nB, nC];refine Zag [_, _] (by kernel_rfl) rfl rfl ?_;simp only [List.getElem_toArray, List.getElem_cons_succ, List.getElem_cons_zero]
   go_wp2_with fail;refine (IH n' rfl _ F y Bk q W A1 A2 A3 e1 e2 e3 pm ib _ (d + 1) HCAW.o.cv hW.o (by omega)).mono ?_;rintro e w5 ⟨rfl, hl5⟩;have HL5 := zh (HLL.o.trans (Za.trans HLW.o hl5));clear hl5
   generalize hb : vD W (n' + 1) y ib _ (d + 1) = b
   have HBB := zh hb;clear hb
   cases b with
   | false =>
    go_wp2_with fail;exact ⟨Zod hlt (by rw [HP.o, ← HY.o, ← HIB.o]; exact HBB.o), FsX.mk' rfl rfl rfl rfl rfl rfl rfl rfl rfl rfl, HL5.o⟩
   | true =>
    go_wp2_with fail;refine Handed.intro (gk - 1) (by omega) (hJ _ _ _ ⟨j + 1, by omega, FsL.mk' rfl rfl rfl rfl rfl rfl rfl rfl rfl rfl rfl, zh (fun i hi => by
     by_cases h : i < j
     ·exact HJ.o i h
     ·obtain rfl : i = j := by omega
      rw [HP.o, ← HY.o, ← HIB.o]; exact HBB.o), HL5.o⟩)
 ·obtain rfl : j = c.kids.length := by omega
  go_wp2_with fail;exact ⟨Zqq (fun i hi => HJ.o i hi), FsX.mk' rfl rfl rfl rfl rfl rfl rfl rfl rfl rfl, HLL.o⟩
theorem Ztb : ∀ (l : List UInt8) (k : Nat), (∀ x ∈ l, k ≤ x.toNat ∧ x.toNat ≤ 127) → l.Pairwise (fun a b => a.toNat < b.toNat) → l.length ≤ 128 - k
 | [], _, _, _ => Nat.zero_le _
 | a :: l, k, h, hp => by
  rw [List.pairwise_cons] at hp;have h1 := h a (by simp);have := Ztb l (a.toNat + 1) (fun x hx => ⟨hp.1 x hx, (h x (by simp [hx])).2⟩) hp.2;simp only [List.length_cons]
  omega
theorem Ztc {s : List UInt8} (h : Zfc s = true) : s.length ≤ 128 := by
 unfold Zfc at h;simp only [Bool.and_eq_true, nJ] at h;exact Ztb s 0 (fun x hx => ⟨Nat.zero_le _, h.1 x hx⟩) h.2
theorem Zqr (k : Int) (t : ByteArray) : tOk k t = (((decide (k = 2) || (decide (k = 3) || t.toList.isEmpty)) && (decide ((t.size : Int) ≤ 128) && (!(decide (k = 2)) || decide ((t.size : Int) ≤ 120)))) && (!(decide (k = 3)) || Zfc (bl t))) := by
 unfold tOk
 by_cases h2 : k = 2
 ·subst h2;rw [if_pos rfl, Bool.eq_iff_iff];simp
  omega
 rw [if_neg h2]
 by_cases h3 : k = 3
 ·subst h3;rw [if_pos rfl, Bool.eq_iff_iff];simp;intro h;have h1 := Ztc h;rw [Zd5] at h1
  omega
 rw [if_neg h3, Bool.eq_iff_iff];simp [h2, h3];intro h;have e := ByteArray.toList_eq t;rw [h] at e;have e2 : t.data.toList.length = 0 := by rw [← e]; rfl
 rw [Array.length_toList] at e2;have e3 : t.size = 0 := e2
 omega
theorem Ztd (W : Wd) (n : Nat) (c : Zd) (lp cr : Bool) (d : Nat) : vD W (n + 1) c lp cr d = (s1 W c d && (s2 c && (s3 c && (s4 c lp cr && (hd3 c && Zmf W n c lp cr d))))) := by
 show (decide (d ≤ 400) && (Zow W c lp cr && Zmf W n c lp cr d)) = _;rw [Zpq, Zqr];unfold hd1 nuB s1 s2 s3 s4;rw [Bool.eq_iff_iff];simp only [Bool.and_eq_true]
 constructor
 ·rintro ⟨a0, ⟨⟨a1, a2, a3, a4, a5, a6⟩, ⟨⟨⟨b1, b2, b3⟩, b4⟩, c1, c2, c3⟩, d1⟩, k1⟩;exact ⟨⟨a0, a1, a2, a3, a4, a5, c1⟩, ⟨a6, b1, b2, b3⟩, b4, ⟨c2, c3⟩, d1, k1⟩
 ·rintro ⟨⟨a0, a1, a2, a3, a4, a5, c1⟩, ⟨a6, b1, b2, b3⟩, b4, ⟨c2, c3⟩, d1, k1⟩;exact ⟨a0, ⟨⟨a1, a2, a3, a4, a5, a6⟩, ⟨⟨⟨b1, b2, b3⟩, b4⟩, c1, c2, c3⟩, d1⟩, k1⟩
theorem Zmg : ∀ n, VdP n
 | n => fun w F c A k W A1 A2 A3 e1 e2 e3 pm lp cr d hv hW hd => by
  have IH : ∀ n', n = n' + 1 → VdP n' := fun n' h => by subst h; exact Zmg n'
  unfold Zd.val;have hlwb : Za w ((w.alloc (.cells #[.slice A1 W.nR e1, .slice A2 W.nC e2, .slice A3 W.nG e3, .int .i64 pm] 37)).alloc (.cells #[.int .i64 c.kind, .int .i64 c.op, .int .i64 c.aB, .int .i64 c.line, .string c.text, .slice A c.kids.length k] 68)) := Za.trans ((Za.refl _).alloc _) ((Za.refl _).alloc _);have hE : VS n F ((w.alloc (.cells #[.slice A1 W.nR e1, .slice A2 W.nC e2, .slice A3 W.nG e3, .int .i64 pm] 37)).alloc (.cells #[.int .i64 c.kind, .int .i64 c.op, .int .i64 c.aB, .int .i64 c.line, .string c.text, .slice A c.kids.length k] 68)) W c A k A1 A2 A3 e1 e2 e3 pm w.heap.size (w.heap.size + 1) := ⟨hv.keep (fun _ h => h) (Zb.later hlwb), by have := heap_alloc_new (w.alloc (.cells #[.slice A1 W.nR e1, .slice A2 W.nC e2, .slice A3 W.nG e3, .int .i64 pm] 37)) (.cells #[.int .i64 c.kind, .int .i64 c.op, .int .i64 c.aB, .int .i64 c.line, .string c.text, .slice A c.kids.length k] 68); simpa using this, (((Za.refl _).alloc _).block _ (Zc (heap_alloc_new _ _))).trans (heap_alloc_new _ _)⟩;obtain ⟨wb, hwb⟩ : ∃ z, ((w.alloc (.cells #[.slice A1 W.nR e1, .slice A2 W.nC e2, .slice A3 W.nG e3, .int .i64 pm] 37)).alloc (.cells #[.int .i64 c.kind, .int .i64 c.op, .int .i64 c.aB, .int .i64 c.line, .string c.text, .slice A c.kids.length k] 68)) = z := ⟨_, rfl⟩;rw [hwb] at hlwb hE;have HLb := zh hlwb;have HE := zh hE;have HWW := zh hW;clear hlwb hE hv hW;obtain ⟨R, hR⟩ : ∃ z, z = vD W (n + 1) c lp cr d := ⟨_, rfl⟩;rw [← hR];rw [Ztd] at hR
  have HR := zh hR;obtain ⟨lo, hlo⟩ : ∃ z, z = Zbw c.kind c.op := ⟨_, rfl⟩;obtain ⟨hi, hhi⟩ : ∃ z, z = Zcg c.kind c.op := ⟨_, rfl⟩;have HLO := zh hlo;have HHI := zh hhi;clear hR;have c0 := cz6 HE.o.cb;have fc0 := fz HE.o.cb;have g0 := cz4 HE.o.pb;have fg0 := fz HE.o.pb;go_enter Tryz.func69, Tryz.ntmps69;go_wp2_with fail;refine (Zo2 n _ F c A k HE.o.cv).mono ?_;rintro e w1 ⟨rfl, hl1⟩;have HL1 := zh (show Za wb w1 from hl1);have HE1 := zh (HE.o.later hl1);rw [← hlo, ← hhi];clear hl1 hlo hhi hwb;clear c0 fc0 g0 fg0;have c0 := cz6 HE1.o.cb;have fc0 := fz HE1.o.cb;have g0 := cz4 HE1.o.pb;have fg0 := fz HE1.o.pb;go_upto_region 2 with (fail);refine @Zc0 _ vs1 ?R1 _ _ _ _ ?h ?k
  case h =>
   refine Ztz n F w1 W c A k A1 A2 A3 e1 e2 e3 pm w.heap.size (w.heap.size + 1) lp cr d lo hi HE1 HWW HLO HHI (zh ?hf)
   case hf => exact FsX.mk' rfl rfl rfl rfl rfl rfl rfl rfl rfl rfl
  case k =>
  rintro a' w2 ⟨hf, hl⟩;obtain ⟨fr1, rfl⟩ := hf.opn;clear hf;have HE2 := zh (HE1.o.later hl);have HL2 := zh (Za.trans HL1.o hl);clear hl;obtain ⟨qq, hq⟩ : ∃ z, z = s1 W c d := ⟨_, rfl⟩;rw [← hq];have HQ := zh hq;clear hq
  cases qq with
  | false =>
   go_wp2_with fail;go_ret;exact ⟨by rw [HR.o, ← HQ.o]; simp, HLb.o.trans HL2.o⟩
  | true =>
  have HB1 := zh HQ.o.symm;clear c0 fc0 g0 fg0;have c0 := cz6 HE2.o.cb;have fc0 := fz HE2.o.cb;have g0 := cz4 HE2.o.pb;have fg0 := fz HE2.o.pb;have hb1 := HB1.o;unfold s1 at hb1;simp only [Bool.and_eq_true, nJ] at hb1;obtain ⟨hd4, -, -, -, hkl, -, -⟩ := hb1;have HKL := zh hkl;clear hkl;go_upto_region 4 with (fail);refine @Zc0 _ vs2 ?R2 _ _ _ _ ?h ?k
  case h =>
   refine Zt0 n F w2 W c A k A1 A2 A3 e1 e2 e3 pm w.heap.size (w.heap.size + 1) lp cr d lo hi HE2 (zh ?hf)
   case hf => exact FsX.mk' rfl rfl rfl rfl rfl rfl rfl rfl rfl rfl
  case k =>
  rintro a' w3z ⟨hf, hz⟩;subst w3z;obtain ⟨fr2, rfl⟩ := hf.opn;clear hf;have HE3 := HE2;have HL3 := HL2;obtain ⟨qq, hq⟩ : ∃ z, z = s2 c := ⟨_, rfl⟩;rw [← hq];have HQ := zh hq;clear hq
  cases qq with
  | false =>
   go_wp2_with fail;go_ret;exact ⟨by rw [HR.o, HB1.o, ← HQ.o]; simp, HLb.o.trans HL3.o⟩
  | true =>
  have HB2 := zh HQ.o.symm;have hk11 : c.kind = 11 ∨ c.op = 0 := by
   have h := HB2.o;unfold s2 at h;simp only [Bool.and_eq_true, Bool.or_eq_true, nJ, beq_iff_eq] at h;exact h.1
  have HK11 := zh hk11;have HK79 := zh (show c.op = 79 → 2 ≤ c.kids.length from fun ho => by
   have h1 : c.kind = 11 := by rcases hk11 with h | h; exact h; omega
   have h3 : Zbw 11 79 = 2 := by unfold Zbw; rw [if_pos rfl]; exact Zsa
   have h4 := HKL.o;rw [h1, ho] at h4
   omega)
  have HK81 := zh (show c.op = 81 → 1 ≤ c.kids.length from fun ho => by
   have h1 : c.kind = 11 := by rcases hk11 with h | h; exact h; omega
   have h3 : Zbw 11 81 = 1 := by unfold Zbw; rw [if_pos rfl]; exact Zsb
   have h4 := HKL.o;rw [h1, ho] at h4
   omega)
  clear hk11;obtain ⟨k3, hk3⟩ : ∃ b : Bool, (c.kind == 3) = b := ⟨_, rfl⟩;have HK3 := zh (show decide (c.kind = 3) = k3 by rw [← hk3]; rfl)
  go_upto_if 104 with (fail)
  refine @Zew _ vs3c ?R91 ?Q91 _ _ _ _ ?h ?k ?k2
  case h =>
   refine Zta n F w2 W c A k A1 A2 A3 e1 e2 e3 pm w.heap.size (w.heap.size + 1) lp cr d lo hi HE3 k3 hk3 (zh ?hf)
   case hf => exact FsY.mk' rfl rfl rfl rfl rfl rfl rfl rfl rfl rfl rfl
  case k2 =>
   rintro a' x ⟨hb, hf, hl⟩;obtain ⟨fr, rfl⟩ := hf.opn;exact bodyPost_ret (v := .bool false) (by simp [results, Tryz.results69, go_sem]) rfl ⟨by rw [HR.o, HB1.o, HB2.o, hb]; rfl, HLb.o.trans (Za.trans HL3.o hl)⟩
  case k =>
  rintro a' w7 ⟨hs3, hf, hl⟩;obtain ⟨fr91, rfl⟩ := hf.opn;have HB3 := zh hs3;have HE7 := zh (HE3.o.later hl);have HL7 := zh (Za.trans HL3.o hl);clear hl hs3 hf;clear c0 fc0 g0 fg0;have c0 := cz6 HE7.o.cb;have fc0 := fz HE7.o.cb;have g0 := cz4 HE7.o.pb;have fg0 := fz HE7.o.pb;go_upto_region 10 with (fail);refine @Zc0 _ vs4 ?R3 _ _ _ _ ?h ?k
  case h =>
   refine Zt2 n F w7 W c A k A1 A2 A3 e1 e2 e3 pm w.heap.size (w.heap.size + 1) lp cr d lo hi HE7 (zh ?hf)
   case hf => exact FsX.mk' rfl rfl rfl rfl rfl rfl rfl rfl rfl rfl
  case k =>
  rintro a' w8z ⟨hf, hz⟩;subst w8z;obtain ⟨fr3, rfl⟩ := hf.opn;clear hf;have HE8 := HE7;have HL8 := HL7;obtain ⟨qq, hq⟩ : ∃ z, z = s4 c lp cr := ⟨_, rfl⟩;rw [← hq];have HQ := zh hq;clear hq
  cases qq with
  | false =>
   go_wp2_with fail;go_ret;exact ⟨by rw [HR.o, HB1.o, HB2.o, HB3.o, ← HQ.o]; simp, HLb.o.trans HL8.o⟩
  | true =>
  have HB4 := zh HQ.o.symm;go_upto_region 12 with (fail);refine @Zc0 _ vs5 ?R4 _ _ _ _ ?h ?k
  case h =>
   refine Zt3 n F w7 W c A k A1 A2 A3 e1 e2 e3 pm w.heap.size (w.heap.size + 1) lp cr d lo hi HE8 HK79 HK81 HK11 (zh ?hf)
   case hf => exact FsX.mk' rfl rfl rfl rfl rfl rfl rfl rfl rfl rfl
  case k =>
  rintro a' w9 ⟨hf, hl⟩;obtain ⟨fr4, rfl⟩ := hf.opn;clear hf;have HE9 := zh (HE8.o.later hl);have HL9 := zh (Za.trans HL8.o hl);clear hl;obtain ⟨qq, hq⟩ : ∃ z, z = hd3 c := ⟨_, rfl⟩;rw [← hq];have HQ := zh hq;clear hq
  cases qq with
  | false =>
   go_wp2_with fail;go_ret;exact ⟨by rw [HR.o, HB1.o, HB2.o, HB3.o, HB4.o, ← HQ.o]; simp, HLb.o.trans HL9.o⟩
  | true =>
  have HB5 := zh HQ.o.symm;clear c0 fc0 g0 fg0;have c0 := cz6 HE9.o.cb;have fc0 := fz HE9.o.cb;have g0 := cz4 HE9.o.pb;have fg0 := fz HE9.o.pb
  go_upto_block 0 with (fail)
  refine @Zew _ vs6 ?R92 ?Q92 _ _ _ _ ?h ?k ?k2
  case h =>
   refine Zt4 n F w9 W c A k A1 A2 A3 e1 e2 e3 pm w.heap.size (w.heap.size + 1) lp cr d lo hi HE9 IH HWW hd4 (zh ?hf)
   case hf => exact FsL.mk' rfl rfl rfl rfl rfl rfl rfl rfl rfl rfl rfl
  case k2 =>
   rintro a' x ⟨hb, hf, hl⟩;obtain ⟨fr, rfl⟩ := hf.opn;exact bodyPost_ret (v := .bool false) (by simp [results, Tryz.results69, go_sem]) rfl ⟨by rw [HR.o, HB1.o, HB2.o, HB3.o, HB4.o, HB5.o, hb]; rfl, HLb.o.trans (Za.trans HL9.o hl)⟩
  case k =>
  rintro a' x ⟨hb, hf, hl⟩;obtain ⟨fr92, rfl⟩ := hf.opn;have HB6 := zh hb;have HL10 := zh (Za.trans HL9.o hl);clear hb hf hl;clear c0 fc0 g0 fg0;go_wp2_with fail;go_ret;exact ⟨by rw [HR.o, HB1.o, HB2.o, HB3.o, HB4.o, HB5.o, HB6.o]; rfl, HLb.o.trans HL10.o⟩
theorem Zte {a : Act} (N : Nat) (F : Nat → Prop) (w : World) (p : Zu) (A1 A2 A3 : Option Addr) (k1 k2 k3 : Nat) (PB : Nat) (HE : Hd (PgB N F w p A1 A2 A3 k1 k2 k3 PB)) (hcn : Zb4 p.routines ≤ 4194304) (hgl : p.globals.length ≤ 4194304) (hrt : p.routines.length ≤ 4194304) (hre : p.aA.length ≤ 4194304) (HF : Hd (FqU PB 0 0 a)) :
  iqRt.wp Tryz.prog (Zjk (fun a' x => p.routines.all (Zid (N + 1) p.globals.length p.routines.length p.aA.length) = true ∧ FqN PB (Zb4 p.routines) a' ∧ Za w x) (fun a' x => p.routines.all (Zid (N + 1) p.globals.length p.routines.length p.aA.length) = false ∧ FqX PB a' ∧ Za w x)) a w := by
 have HF0 := HF;obtain ⟨_, _, e1, hkc1, hkm1, _⟩ := HE.o.pg.ro;have hr1 : (p.routines.length : Int) ≤ 9223372036854775807 := by unfold maxLen at hkm1; cases e1; omega
 clear e1 hkc1 hkm1;have g0 := cz4 HE.o.pb;have fg0 := fz HE.o.pb;obtain ⟨fr, rfl⟩ := HF.o.opn;clear HF
 conv => arg 2; whnf
 go_wp2_with fail;refine wp_loop_ghost_k (fun g a u => ∃ j : Nat, g + j = p.routines.length ∧ FqU PB (Zb4 (p.routines.take j)) j a ∧ Hd (∀ i (h : i < p.routines.length), i < j → Zid (N + 1) p.globals.length p.routines.length p.aA.length p.routines[i] = true) ∧ Za w u) p.routines.length ⟨0, by omega, HF0.o, zh (fun i _ h => by omega), Za.refl _⟩ ?_;clear g0 fg0 HF0 fr;rintro gk a u ⟨j, hg, hf, HJ, hl⟩ J K hJ hK;obtain ⟨fr, rfl⟩ := hf.opn;have HLL := zh hl;have HE2 := zh (HE.o.later hl);clear hl hf;have g0 := cz4 HE2.o.pb;have fg0 := fz HE2.o.pb
 by_cases hlt : j < p.routines.length
 ·have hlt' : (j : Int) < (p.routines.length : Int) := by omega
  obtain ⟨_, _, eA, _, _, hel⟩ := HE2.o.pg.ro;cases eA;obtain ⟨rb, ro, cs, rfl, hF, hb, hE, hc⟩ := hel j hlt;obtain ⟨vs, vk, rfl, hn1, hn2, hn3, hn4, hn5, hn6, hn7, hn8, hn9⟩ := hE;obtain ⟨As, ks, rfl, hsc, hsm, -⟩ := id hn3;obtain ⟨Ab, kb, rfl, hbc, hbm, -⟩ := id hn9;have e0 := hc 0 _ rfl;have e1 := hc 1 _ rfl;have e2 := hc 2 _ rfl;have e3 := hc 3 _ rfl;have e4 := hc 4 _ rfl;have e5 := hc 5 _ rfl;have e6 := hc 6 _ rfl;have e7 := hc 7 _ rfl;have e8 := hc 8 _ rfl;simp only [Nat.add_zero] at e0;obtain ⟨r, hr⟩ : ∃ z, z = p.routines[j] := ⟨_, rfl⟩;rw [← hr] at e0 e1 e2 e3 e4 e5 e6 e7 e8 hn1 hn2 hn3 hn4 hn5 hn6 hn7 hn8 hn9 hsc hbc;have HR := zh hr;have HCV := zh (show CV N F u r.body Ab kb from ⟨hn4, hn5, hn6, hn7, hn8, hn9⟩);have HSL := zh hn3;have HNM := zh hn1;have hs1 : (r.slots.length : Int) ≤ 9223372036854775807 := by unfold maxLen at hsm; omega
  have HSN := zh (Zi1 p.routines j hlt);have HTK := zh (Zi2 p.routines (j + 1));have HRO := zh (show Zid (N + 1) p.globals.length p.routines.length p.aA.length r = (Zba r.name && (decide (r.slots.length ≤ 24) && (decide (0 ≤ r.params) && (decide (r.params ≤ (r.slots.length : Int)) && (r.slots.all (fun s => s.toList == [] || Zba s) && (decide (dpC r.body ≤ 400) && vC (⟨r.slots.length, p.globals.length, p.routines.length, p.aA.length⟩ : Wd) (N + 1) r.body false false)))))) from rfl);clear hr hn1 hn3 hn4 hn5 hn6 hn7 hn8 hn9 hsc hsm hbc hbm hc hel;have hla : Za u (u.alloc (.cells #[.string r.name, .int .i64 r.params, .slice As r.slots.length ks, .int .i64 r.body.kind, .int .i64 r.body.op, .int .i64 r.body.aB, .int .i64 r.body.line, .string r.body.text, .slice Ab r.body.kids.length kb] 70)) := (Za.refl _).alloc _;have hrb := heap_alloc_new u (.cells #[.string r.name, .int .i64 r.params, .slice As r.slots.length ks, .int .i64 r.body.kind, .int .i64 r.body.op, .int .i64 r.body.aB, .int .i64 r.body.line, .string r.body.text, .slice Ab r.body.kids.length kb] 70);obtain ⟨w3, hw3⟩ : ∃ z, u.alloc (.cells #[.string r.name, .int .i64 r.params, .slice As r.slots.length ks, .int .i64 r.body.kind, .int .i64 r.body.op, .int .i64 r.body.aB, .int .i64 r.body.line, .string r.body.text, .slice Ab r.body.kids.length kb] 70) = z := ⟨_, rfl⟩;rw [hw3] at hla hrb;have HE3 := zh (HE2.o.later hla);have HL3 := zh (Za.trans HLL.o hla);have HRB := zh hrb;have HSL3 := zh (HSL.o.keep Zt (fun _ h => h) (Zb.later hla))
  have HCV3 := zh (HCV.o.keep (fun _ h => h) (Zb.later hla));have HW3 := zh hw3;obtain ⟨RB, hRB⟩ : ∃ z, z = u.heap.size := ⟨_, rfl⟩;clear hla hrb hw3;obtain ⟨n1, hn1⟩ : ∃ q : Bool, Zba r.name = q := ⟨_, rfl⟩;obtain ⟨b2, hb2⟩ : ∃ q : Bool, decide ((24 : Int) < (r.slots.length : Int)) = q := ⟨_, rfl⟩;obtain ⟨q3, hq3⟩ : ∃ q : Bool, (decide (0 ≤ r.params) && decide (r.params ≤ (r.slots.length : Int))) = q := ⟨_, rfl⟩;obtain ⟨sb, hsb⟩ : ∃ q : Bool, r.slots.any slB = q := ⟨_, rfl⟩;obtain ⟨vb, hvb⟩ : ∃ q : Bool, vD (⟨r.slots.length, p.globals.length, p.routines.length, p.aA.length⟩ : Wd) (N + 1) r.body false false 1 = q := ⟨_, rfl⟩;have HRO2 := zh (show Zid (N + 1) p.globals.length p.routines.length p.aA.length r = (n1 && (!b2 && (q3 && (!sb && vb)))) by
   rw [HRO.o, Zmy, hsb, hn1, ← hb2, ← hq3, ← hvb, Zt9, Bool.eq_iff_iff];simp only [Bool.and_eq_true, nJ, Bool.not_eq_true', nI, Int.not_lt]
   constructor
   ·rintro ⟨a1, a2, a3, a4, a5, a6, a7⟩; exact ⟨a1, by omega, ⟨a3, a4⟩, a5, a7, by omega⟩
   ·rintro ⟨a1, a2, ⟨a3, a4⟩, a5, a7, a6⟩; exact ⟨a1, by omega, a3, a4, a5, by omega, a7⟩)
  have HN1 := zh hn1;have HQ3 := zh hq3;have HSB := zh hsb;have HVB := zh hvb;clear hn1 hq3 hsb hvb;go_upto_region 14 with (fail);rw [HW3.o];rw [← hRB] at HRB ⊢;have HRS := zh hRB;clear hRB e0 e1 e2 e3 e4 e5 e6 e7 e8;clear g0 fg0;have g0 := cz4 HE3.o.pb;have fg0 := fz HE3.o.pb;have r0 := cz9 HRB.o;have fr0 := fz HRB.o;go_wp2_with fail;refine (Zc5 r.name _ HNM.o).mono ?_;rintro e w4 ⟨rfl, hl4⟩;rw [HN1.o];have HE4 := zh (HE3.o.later hl4);have HL4 := zh (Za.trans HL3.o hl4);have HRB4 := zC hl4 HRB;have HSL4 := zh (HSL3.o.keep Zt (fun _ h => h) (Zb.later hl4));have HCV4 := zh (HCV3.o.keep (fun _ h => h) (Zb.later hl4));clear hl4;clear g0 fg0 r0 fr0;have g0 := cz4 HE4.o.pb;have fg0 := fz HE4.o.pb;have r0 := cz9 HRB4.o;have fr0 := fz HRB4.o
  cases n1 with
  | false => (go_wp2_with fail; exact ⟨Zce hlt (by rw [← HR.o, HRO2.o]; simp), FqX.mk' rfl rfl rfl, HL4.o⟩)
  | true =>
  cases b2 with
  | true => (go_wp2_with fail; exact ⟨Zce hlt (by rw [← HR.o, HRO2.o]; simp), FqX.mk' rfl rfl rfl, HL4.o⟩)
  | false =>
  go_wp2_with fail;refine (Zd9 r.params 0 (r.slots.length : Int) _).mono ?_;rintro e w5 ⟨rfl, rfl⟩;rw [HQ3.o]
  cases q3 with
  | false => (go_wp2_with fail; exact ⟨Zce hlt (by rw [← HR.o, HRO2.o]; simp), FqX.mk' rfl rfl rfl, HL4.o⟩)
  | true =>
  have h24 : r.slots.length ≤ 4194304 := by have := of_decide_eq_false hb2; omega
  clear hb2
  go_upto_block 4 with (fail)
  refine @Zew _ iqSl ?R1 ?Q1 _ _ _ _ ?h ?k ?k2
  case h =>
   refine Zs9 F w5 r As Ab ks kb PB RB (Zb4 (p.routines.take j)) j HRB4 HSL4 (zh ?hf)
   case hf => exact FqS.mk' rfl rfl rfl rfl rfl rfl rfl
  case k2 =>
   rintro a' x ⟨hb, hf, hl⟩;obtain ⟨fr, rfl⟩ := hf.opn;exact ⟨Zce hlt (by rw [← HR.o, HRO2.o, ← HSB.o, hb]; simp), FqX.mk' rfl rfl rfl, HL4.o.trans hl⟩
  case k =>
  rintro a' w6 ⟨hb, hf, hl⟩;obtain ⟨frx, rfl⟩ := hf.opn;obtain rfl : sb = false := HSB.o.symm.trans hb;have HE6 := zh (HE4.o.later hl);have HL6 := zh (Za.trans HL4.o hl);have HRB6 := zC hl HRB4;have HCV6 := zh (HCV4.o.keep (fun _ h => h) (Zb.later hl));clear hb hf hl;clear g0 fg0 r0 fr0;have g0 := cz4 HE6.o.pb;have fg0 := fz HE6.o.pb;have r0 := cz9 HRB6.o;have fr0 := fz HRB6.o;go_wp2_with fail;refine (Zmg N _ F r.body Ab kb (⟨r.slots.length, p.globals.length, p.routines.length, p.aA.length⟩ : Wd) _ _ _ _ _ _ _ false false 1 HCV6.o ⟨h24, hgl, hrt, hre⟩ (by decide)).mono ?_;rintro e w7 ⟨rfl, hl7⟩;rw [HVB.o];have HE7 := zh (HE6.o.later hl7);have HL7 := zh (Za.trans HL6.o hl7);have HRB7 := zC hl7 HRB6;have HCV7 := zh (HCV6.o.keep (fun _ h => h) (Zb.later hl7));have hcnb : Zb4 (p.routines.take j) + Z0 r.body ≤ 4194304 := by
   have h1 := HSN.o;have h2 := HTK.o;rw [← HR.o] at h1
   omega
  have tcn : IntKind.i64.wrap ((Zb4 (p.routines.take j) : Int) + (Z0 r.body : Int)) = ((Zb4 (p.routines.take j) + Z0 r.body : Nat) : Int) := by rw [IntWalk.i64_in _ (by omega)]; rfl
  clear hl7;clear g0 fg0 r0 fr0;have g0 := cz4 HE7.o.pb;have fg0 := fz HE7.o.pb;have r0 := cz9 HRB7.o;have fr0 := fz HRB7.o
  cases vb with
  | false => (go_wp2_with fail; exact ⟨Zce hlt (by rw [← HR.o, HRO2.o]; simp), FqX.mk' rfl rfl rfl, HL7.o⟩)
  | true =>
  go_wp2_with fail;refine (Zk5 N _ F r.body Ab kb HCV7.o (by omega)).mono ?_;rintro e w8 ⟨rfl, hl8⟩;have HL8 := zh (Za.trans HL7.o hl8);clear hl8;clear g0 fg0 r0 fr0;go_wp2_with fail;refine Handed.intro (gk - 1) (by omega) (hJ _ _ _ ⟨j + 1, by omega, ?_, zh (Zik HJ.o (fun h => by rw [← HR.o, HRO2.o]; rfl)), HL8.o⟩);rw [HSN.o, ← HR.o];exact FqU.mk' rfl rfl rfl (by show some _ = some _; exact congrArg some (by go_num)) (by show some _ = some _; exact congrArg some (by go_num))
 ·obtain rfl : j = p.routines.length := by omega
  go_wp2_with fail;refine ⟨Zmv (fun i hi => HJ.o i hi hi), ?_, HLL.o⟩;rw [← show Zb4 (p.routines.take p.routines.length) = Zb4 p.routines by rw [List.take_length]];exact FqN.mk' rfl rfl rfl rfl
theorem Ztf (N : Nat) (p : Zu) : Zhg N p = (phS p && (p.aA.all Zeu && (p.routines.all (Zid N p.globals.length p.routines.length p.aA.length) && decide (Zb4 p.routines ≤ 40000)))) := by
 rw [Zpr];unfold ph phS;rw [Bool.eq_iff_iff];simp only [Bool.and_eq_true, nJ]
 constructor
 ·rintro ⟨⟨a1, a2, a3, ⟨a5, a4⟩, a6, a7, a8, a9⟩, a10, a11⟩; exact ⟨⟨a1, a2, a4, ⟨a6, by omega⟩, ⟨a7, by omega⟩, a9⟩, a5, a10, a11⟩
 ·rintro ⟨⟨a1, a2, a4, ⟨a6, a3⟩, ⟨a7, a8⟩, a9⟩, a5, a10, a11⟩; exact ⟨⟨a1, a2, by omega, ⟨a5, a4⟩, a6, a7, by omega, a9⟩, a10, a11⟩
theorem Zlc (N : Nat) (F : Nat → Prop) (w : World) (p : Zu) (A1 A2 A3 : Option Addr) (k1 k2 k3 : Nat) (hpg : PgV N F w p A1 A2 A3 k1 k2 k3) (ht : Spc w) (hcn : Zb4 p.routines ≤ 4194304) (hgl : p.globals.length ≤ 4194304) (hrt : p.routines.length ≤ 4194304) (hre : p.aA.length ≤ 4194304) : Calls Tryz.prog 24 #[.agg #[.slice A1 p.routines.length k1, .slice A2 p.aA.length k2, .slice A3 p.globals.length k3, .int .i64 p.main]] w fun e w' => e = .returned (.bool (Zhg (N + 1) p)) ∧ Below w.heap.size w w' := by
 have hlwb : Za w (w.alloc (.cells #[.slice A1 p.routines.length k1, .slice A2 p.aA.length k2, .slice A3 p.globals.length k3, .int .i64 p.main] 37)) := (Za.refl _).alloc _;have hE : PgB N F (w.alloc (.cells #[.slice A1 p.routines.length k1, .slice A2 p.aA.length k2, .slice A3 p.globals.length k3, .int .i64 p.main] 37)) p A1 A2 A3 k1 k2 k3 w.heap.size := ⟨hpg.later hlwb, heap_alloc_new _ _, ht.below hlwb⟩;obtain ⟨wb, hwb⟩ : ∃ z, (w.alloc (.cells #[.slice A1 p.routines.length k1, .slice A2 p.aA.length k2, .slice A3 p.globals.length k3, .int .i64 p.main] 37)) = z := ⟨_, rfl⟩;rw [hwb] at hlwb hE;have HLb := zh hlwb;have HE := zh hE;clear hlwb hE hpg ht;obtain ⟨R, hR⟩ : ∃ z, z = Zhg (N + 1) p := ⟨_, rfl⟩;rw [← hR];rw [Ztf] at hR;have HR := zh hR;clear hR;have g0 := cz4 HE.o.pb;have fg0 := fz HE.o.pb;go_enter Tryz.func24, Tryz.ntmps24;go_upto_region 1 with (fail)
 try rw [hwb]
 clear hwb;refine @Zc0 _ iqHd ?R1 _ _ _ _ ?h ?k
 case h =>
  refine Zs7 N F wb p A1 A2 A3 k1 k2 k3 w.heap.size HE (zh ?hf)
  case hf => exact FqX.mk' rfl rfl rfl
 case k =>
 rintro a' w2 ⟨hf, hl⟩;obtain ⟨fr1, rfl⟩ := hf.opn;have HE2 := zh (HE.o.later hl);have HL2 := zh hl;clear hf hl g0 fg0;obtain ⟨q1, hq1⟩ : ∃ z, z = phS p := ⟨_, rfl⟩;rw [← hq1];have HQ1 := zh hq1;clear hq1
 cases q1 with
 | false =>
  go_wp2_with fail;go_ret;exact ⟨by rw [HR.o, ← HQ1.o]; rfl, HLb.o.trans HL2.o⟩
 | true =>
 go_upto_block 0 with (fail)
 refine @Zew _ iqRc ?R2 ?Q2 _ _ _ _ ?h ?k ?k2
 case h =>
  refine Zs8 N F w2 p A1 A2 A3 k1 k2 k3 w.heap.size HE2 (zh ?hf)
  case hf => exact FqR.mk' rfl rfl rfl rfl
 case k2 =>
  rintro a' x ⟨hb, hf, hl⟩;obtain ⟨fr, rfl⟩ := hf.opn;exact bodyPost_ret (v := .bool false) (by simp [results, Tryz.results24, go_sem]) rfl ⟨by rw [HR.o, ← HQ1.o, hb]; rfl, HLb.o.trans (Za.trans HL2.o hl)⟩
 case k =>
 rintro a' w3 ⟨hb, hf, hl⟩;obtain ⟨fr2, rfl⟩ := hf.opn;have HB := zh hb;have HE3 := zh (HE2.o.later hl);have HL3 := zh (Za.trans HL2.o hl);clear hb hf hl
 go_upto_block 2 with (fail)
 refine @Zew _ iqRt ?R3 ?Q3 _ _ _ _ ?h ?k ?k2
 case h =>
  refine Zte N F w3 p A1 A2 A3 k1 k2 k3 w.heap.size HE3 hcn hgl hrt hre (zh ?hf)
  case hf => exact FqU.mk' rfl rfl rfl rfl rfl
 case k2 =>
  rintro a' x ⟨hb, hf, hl⟩;obtain ⟨fr, rfl⟩ := hf.opn;exact bodyPost_ret (v := .bool false) (by simp [results, Tryz.results24, go_sem]) rfl ⟨by rw [HR.o, ← HQ1.o, HB.o, hb]; rfl, HLb.o.trans (Za.trans HL3.o hl)⟩
 case k =>
 rintro a' w4 ⟨hb, hf, hl⟩;obtain ⟨fr3, rfl⟩ := hf.opn;have HC := zh hb;have HL4 := zh (Za.trans HL3.o hl);clear hb hf hl;obtain ⟨nb, hnb⟩ : ∃ q : Bool, decide ((Zb4 p.routines : Int) ≤ 40000) = q := ⟨_, rfl⟩;have hnb2 : decide (Zb4 p.routines ≤ 40000) = nb := by rw [← hnb, Bool.eq_iff_iff]; simp only [nJ]; omega
 have HNB := zh hnb2;go_wp2_with fail;go_ret;exact ⟨by rw [HR.o, ← HQ1.o, HB.o, HC.o, HNB.o]; rfl, HLb.o.trans HL4.o⟩
theorem Zjz (N : Nat) (F : Nat → Prop) (w : World) (p : Zu) (A1 A2 A3 : Option Addr) (k1 k2 k3 : Nat) (hpg : PgV N F w p A1 A2 A3 k1 k2 k3) (hflt : ∀ b, F b → b < w.heap.size) (ht : Spc w) (hsz : Zab (szN N) p ≤ 1048576) : Calls Tryz.prog 6 #[.agg #[.slice A1 p.routines.length k1, .slice A2 p.aA.length k2, .slice A3 p.globals.length k3, .int .i64 p.main]] w (Zgo w (Zfz (N + 1) p)) := by
 obtain ⟨iStringS, hiStringS, hzStringS0, hzStringS1, hzStringS2⟩ := info_parts Zd6;have hcn : Zb4 p.routines ≤ 1048576 := by have := Zpl hpg.ro; unfold Zab at hsz; omega
 have hgl : p.globals.length ≤ 1048576 := by unfold Zab Zv at hsz; omega
 have hrt : p.routines.length ≤ 1048576 := by unfold Zab Zv at hsz; omega
 have hrc : p.aA.length ≤ 1048576 := by unfold Zab Zv at hsz; omega
 have hglb : p.globals.length ≤ 2097152 := by omega
 have hszr : Zv Zo p.aA ≤ 2097152 := by unfold Zab at hsz; omega
 obtain ⟨w1, hw1⟩ : ∃ z, ((w.alloc (.cells #[.slice A1 p.routines.length k1, .slice A2 p.aA.length k2, .slice A3 p.globals.length k3, .int .i64 p.main] 37)).alloc (.cells #[.slice none 0 0, .slice none 0 0, .slice none 0 0, .int .i64 0, .slice none 0 0] Zdc)) = z := ⟨_, rfl⟩;have hl1 : Za w w1 := by rw [← hw1]; exact ((Za.refl _).alloc _).alloc _
 have hE : PgB N F w1 p A1 A2 A3 k1 k2 k3 w.heap.size := ⟨hpg.later hl1, by rw [← hw1]; exact ((Za.refl _).alloc _).block w.heap.size (by simp) |>.trans (heap_alloc_new w _), ht.below hl1⟩;have hz : w1.heap[w.heap.size + 1]? = some (.cells #[.slice none 0 0, .slice none 0 0, .slice none 0 0, .int .i64 0, .slice none 0 0] Zdc (0, 0)) := by rw [← hw1]; exact Zc6 (by simp)
 obtain ⟨PB, hPB⟩ : ∃ z, w.heap.size = z := ⟨_, rfl⟩;obtain ⟨ZB, hZB⟩ : ∃ z, w.heap.size + 1 = z := ⟨_, rfl⟩;have HZB := zh (show w.heap.size ≤ ZB ∧ ZB < w1.heap.size from ⟨by omega, by rw [← hZB]; exact Zc hz⟩);rw [hZB] at hz;rw [hPB] at hE;have HPB := zh hPB;have HZB2 := zh hZB;have HLb := zh hl1;have HE := zh hE;have HZ := zh hz;have HFL := zh (show ∀ b, F b → b < w1.heap.size from fun b hb => Nat.lt_of_lt_of_le (hflt b hb) hl1.size);have HM := zh hpg.m;clear hl1 hE hz hpg ht hsz hflt hPB hZB;obtain ⟨Rr, hR⟩ : ∃ z, z = Zfz (N + 1) p := ⟨_, rfl⟩;rw [← hR];have HR := zh hR;clear hR;have g0 := cz4 HE.o.pb;have fg0 := fz HE.o.pb;go_enter Tryz.func6, Tryz.ntmps6;go_upto_region 1 with (fail)
 try rw [hw1]
 rw [HZB2.o, HPB.o];clear hw1;go_wp2_with fail;refine (Zlc N F w1 p A1 A2 A3 k1 k2 k3 HE.o.pg HE.o.sp (by omega) (by omega) (by omega) (by omega)).mono ?_;rintro e w2 ⟨rfl, hl2⟩;have HL2 := zh (show Za w1 w2 from hl2);have HZ2 := zC hl2 HZ;clear hl2 g0 fg0;obtain ⟨q, hq⟩ : ∃ z, z = Zhg (N + 1) p := ⟨_, rfl⟩;rw [← hq];have HQ := zh hq;clear hq
 cases q with
 | false =>
  have z0 := cz5 HZ2.o;have fz0 := fz HZ2.o;go_wp2_with fail;have hd := Zgo.zero (Zbg HZB.o.1 Zhn w2 0 (HLb.o.trans HL2.o));simp only [Zbh, Zhn, Nat.zero_add, Nat.reduceAdd] at hd;rw [show Rr = (cdZ, false) by rw [HR.o]; unfold Zfz; rw [← HQ.o]; rfl];exact bodyPost_ret (v := .tuple #[.agg #[.slice none 0 0, .slice none 0 0, .slice none 0 0, .int .i64 0, .slice none 0 0], .bool false]) (by simp [results, Tryz.results6, go_sem, z0, fz0]) rfl hd
 | true =>
 have HRT := zh (Zhg.rts HQ.o.symm);have HLY := zh HL2.o;have HEY := zh (HE.o.later HLY.o);go_upto_region 3 with (fail);refine Zph (fun A hA => ?_);have HA := zh hA;clear hA;refine Zl4 (I := Zd1 A w2 p PB A2 A3 k2 k3) [11] [] [0, 1, 2, 3, 4, 5, 6, 7, 8, 9, 10] [_] (by kernel_rfl) (by kernel_rfl) (by kernel_rfl) rfl (fun _ _ _ _ _ h => h) ?_ ?_ ?_ ?_
 ·rintro _ rfl;unfold Zd1;refine ⟨undef, undef, undef, undef, undef, undef, undef, undef, undef, undef, undef, ?_, Below.drew (Za.refl _), zh fun h => (Zbs h).elim, zh fun h => (Zbs h).elim, zh fun h => (Zbs h).elim, zh fun h => (Zbs h).elim, zh fun h => (Zbs h).elim, zh fun h => (Zbs h).elim, zh fun h => (Zbs h).elim, zh fun h => (Zbs h).elim, zh fun h => (Zbs h).elim, zh fun h => (Zbs h).elim, zh fun h => (Zbs h).elim⟩;rw [HA.o];simp only [Act.put, nA, nB, nC]
 ·intro Q' i hi o' ho';simp only [List.mem_cons, List.not_mem_nil, or_false] at hi
  rcases hi with rfl | rfl | rfl | rfl | rfl | rfl | rfl | rfl | rfl | rfl | rfl
  ·refine Zc9 (n := 12) rfl rfl [] (by kernel_rfl) (fun l a u hI hs hun hD => ?_) ho';obtain ⟨x0, x1, x2, x3, x4, x5, x6, x7, x8, x9, x10, ha, hu, F0, F1, F2, F3, F4, F5, F6, F7, F8, F9, F10⟩ := hI;rw [HA.o] at ha;simp only [Act.put, nA, nB, nC] at ha;subst ha;go_wp2_with fail
   first | refine Zaf ?_ | skip
   unfold Zd1;refine ⟨.pointer (some ⟨PB, 1, none⟩), x1, x2, x3, x4, x5, x6, x7, x8, x9, x10, ?_, hu.trans (Za.refl _),
    zh fun _ => rfl, kc F1, kQ Zee.fam F2 (Za.refl _), Zf4 F3 (Za.refl _), kc F4, kc F5, kQ2 RGR.fam F6 (Za.refl _), kc F7, kc F8, kM2 F9, kA F10 (Za.refl _)⟩
   rw [HA.o];simp only [Act.put, nA, nB, nC]
  ·refine Zc9 (n := 12) rfl rfl [0] (by kernel_rfl) (fun l a u hI hs hun hD => ?_) ho';obtain ⟨x0, x1, x2, x3, x4, x5, x6, x7, x8, x9, x10, ha, hu, F0, F1, F2, F3, F4, F5, F6, F7, F8, F9, F10⟩ := hI;rw [HA.o] at ha;simp only [Act.put, nA, nB, nC] at ha;subst ha;have e0 := F0.o (hD 0 (by simp));have HPU := zh (HEY.o.later hu);have g0 := cz4 HPU.o.pb;have fg0 := fz HPU.o.pb;go_wp2_with fail
   first | refine Zaf ?_ | skip
   unfold Zd1;refine ⟨x0, .slice A2 p.aA.length k2, x2, x3, x4, x5, x6, x7, x8, x9, x10, ?_, hu.trans (Za.refl _),
    kc F0, zh fun _ => rfl, kQ Zee.fam F2 (Za.refl _), Zf4 F3 (Za.refl _), kc F4, kc F5, kQ2 RGR.fam F6 (Za.refl _), kc F7, kc F8, kM2 F9, kA F10 (Za.refl _)⟩
   rw [HA.o];simp only [Act.put, List.setIfInBounds_toArray, List.set_cons_zero, List.set_cons_succ, e0]
  ·refine Zc9 (n := 12) rfl rfl [1] (by kernel_rfl) (fun l a u hI hs hun hD => ?_) ho';obtain ⟨x0, x1, x2, x3, x4, x5, x6, x7, x8, x9, x10, ha, hu, F0, F1, F2, F3, F4, F5, F6, F7, F8, F9, F10⟩ := hI;rw [HA.o] at ha;simp only [Act.put, nA, nB, nC] at ha;subst ha;have e1 := F1.o (hD 1 (by simp));have HPU := zh (HEY.o.later hu);go_wp2_with fail;refine (Zkz p.aA _ F u hszr HPU.o.pg.re).mono ?_;rintro e v ⟨v2, rfl, hrow, hb⟩;go_wp2_with fail
   first | refine Zaf ?_ | skip
   unfold Zd1;refine ⟨x0, x1, v2, x3, x4, x5, x6, x7, x8, x9, x10, ?_, hu.trans hb,
    kc F0, kc F1, zh fun _ => ⟨_, hrow.trim Zj, fun b hb => ⟨Nat.le_trans hu.size hb.1, hb.2⟩, fun b hN hb => by have h1 := (F10.o (Zcc (by decide) hN.1)).lt; rw [← hN.2] at h1; have := hb.1; omega⟩, Zf4 F3 hb, kc F4, kc F5, kX F6 hun, kc F7, kc F8, kX1 F9 hun, kA F10 hb⟩
   rw [HA.o];simp only [Act.put, List.setIfInBounds_toArray, List.set_cons_zero, List.set_cons_succ, e1]
  ·refine Zc9 (n := 12) rfl rfl [] (by kernel_rfl) (fun l a u hI hs hun hD => ?_) ho';obtain ⟨x0, x1, x2, x3, x4, x5, x6, x7, x8, x9, x10, ha, hu, F0, F1, F2, F3, F4, F5, F6, F7, F8, F9, F10⟩ := hI;rw [HA.o] at ha;simp only [Act.put, nA, nB, nC] at ha;subst ha;go_wp2_with fail
   first | refine Zaf ?_ | skip
   unfold Zd1;refine ⟨x0, x1, x2, .slice (some ⟨u.heap.size, 0, none⟩) 0 0, x4, x5, x6, x7, x8, x9, x10, ?_, hu.trans ((Za.refl _).alloc _),
    kc F0, kc F1, kQ Zee.fam F2 ((Za.refl _).alloc _), zh fun _ => ⟨_, rfl, heap_alloc_new u _⟩, kc F4, kc F5, kQ2 RGR.fam F6 ((Za.refl _).alloc _), kc F7, kc F8, kM2 F9, kA F10 ((Za.refl _).alloc _)⟩
   rw [HA.o];simp only [Act.put, nA, nB, nC]
  ·refine Zc9 (n := 12) rfl rfl [] (by kernel_rfl) (fun l a u hI hs hun hD => ?_) ho';obtain ⟨x0, x1, x2, x3, x4, x5, x6, x7, x8, x9, x10, ha, hu, F0, F1, F2, F3, F4, F5, F6, F7, F8, F9, F10⟩ := hI;rw [HA.o] at ha;simp only [Act.put, nA, nB, nC] at ha;subst ha;go_wp2_with fail
   first | refine Zaf ?_ | skip
   unfold Zd1;refine ⟨x0, x1, x2, x3, .pointer (some ⟨PB, 2, none⟩), x5, x6, x7, x8, x9, x10, ?_, hu.trans (Za.refl _),
    kc F0, kc F1, kQ Zee.fam F2 (Za.refl _), Zf4 F3 (Za.refl _), zh fun _ => rfl, kc F5, kQ2 RGR.fam F6 (Za.refl _), kc F7, kc F8, kM2 F9, kA F10 (Za.refl _)⟩
   rw [HA.o];simp only [Act.put, nA, nB, nC]
  ·refine Zc9 (n := 12) rfl rfl [4] (by kernel_rfl) (fun l a u hI hs hun hD => ?_) ho';obtain ⟨x0, x1, x2, x3, x4, x5, x6, x7, x8, x9, x10, ha, hu, F0, F1, F2, F3, F4, F5, F6, F7, F8, F9, F10⟩ := hI;rw [HA.o] at ha;simp only [Act.put, nA, nB, nC] at ha;subst ha;have e4 := F4.o (hD 4 (by simp));have HPU := zh (HEY.o.later hu);have g0 := cz4 HPU.o.pb;have fg0 := fz HPU.o.pb;go_wp2_with fail
   first | refine Zaf ?_ | skip
   unfold Zd1;refine ⟨x0, x1, x2, x3, x4, .slice A3 p.globals.length k3, x6, x7, x8, x9, x10, ?_, hu.trans (Za.refl _),
    kc F0, kc F1, kQ Zee.fam F2 (Za.refl _), Zf4 F3 (Za.refl _), kc F4, zh fun _ => rfl, kQ2 RGR.fam F6 (Za.refl _), kc F7, kc F8, kM2 F9, kA F10 (Za.refl _)⟩
   rw [HA.o];simp only [Act.put, List.setIfInBounds_toArray, List.set_cons_zero, List.set_cons_succ, e4]
  ·refine Zc9 (n := 12) rfl rfl [3, 5, 2] (by kernel_rfl) (fun l a u hI hs hun hD => ?_) ho';obtain ⟨x0, x1, x2, x3, x4, x5, x6, x7, x8, x9, x10, ha, hu, F0, F1, F2, F3, F4, F5, F6, F7, F8, F9, F10⟩ := hI;rw [HA.o] at ha;simp only [Act.put, nA, nB, nC] at ha;subst ha;have e3 := F3.o (hD 3 (by simp));have e5 := F5.o (hD 5 (by simp));have e2 := F2.o (hD 2 (by simp));have HPU := zh (HEY.o.later hu);obtain ⟨B3, hx3, hB3⟩ := e3;obtain ⟨R, h1, h2, h3⟩ := e2;refine Zdb Zgm (by decide) rfl _ _ 24 rfl 9 iStringS (.string ⟨#[]⟩) 16 Tryz.underlying24 hiStringS hzStringS0 hzStringS1 hzStringS2 rfl hx3 hB3 e5 HPU.o.pg.gl hglb (by decide) ?_;intro v6 w6 hr6 hl6;go_wp2_with fail
   first | refine Zaf ?_ | skip
   unfold Zd1;refine ⟨x0, x1, x2, x3, x4, x5, v6, x7, x8, x9, x10, ?_, hu.trans hl6,
    kc F0, kc F1, kQ Zee.fam F2 hl6, Zf4 F3 hl6, kc F4, kc F5, zh fun _ => ⟨⟨R, _, h1.keep Zj.is (fun _ h => h) (Zb.later hl6), hr6.trim Zw, fun b hb => by
      have hs := hu.size;have hs6 := hl6.size
      rcases hb with hb | hb
      ·exact ⟨(h2 b hb).1, Nat.lt_of_lt_of_le (h2 b hb).2 hs6⟩
      ·exact ⟨Nat.le_trans hs hb.1, hb.2⟩, fun b hb hc => by have := (h2 b hb).2; have := hc.1; omega, fun b hN hb => by
      rcases hb with hb | hb
      ·exact h3 b ⟨Zcc (by decide) hN.1, hN.2⟩ hb
      ·have h4 := (F10.o (Zcc (by decide) hN.1)).lt;rw [← hN.2] at h4;have := hb.1
       omega⟩, Zfe (hD 2 (by simp))⟩, kc F7, kc F8, kX2 F9 hun, kA F10 hl6⟩
   rw [HA.o];simp only [Act.put, List.setIfInBounds_toArray, List.set_cons_zero, List.set_cons_succ, hx3, e5]
  ·refine Zc9 (n := 12) rfl rfl [] (by kernel_rfl) (fun l a u hI hs hun hD => ?_) ho';obtain ⟨x0, x1, x2, x3, x4, x5, x6, x7, x8, x9, x10, ha, hu, F0, F1, F2, F3, F4, F5, F6, F7, F8, F9, F10⟩ := hI;rw [HA.o] at ha;simp only [Act.put, nA, nB, nC] at ha;subst ha;go_wp2_with fail
   first | refine Zaf ?_ | skip
   unfold Zd1;refine ⟨x0, x1, x2, x3, x4, x5, x6, .pointer (some ⟨PB, 3, none⟩), x8, x9, x10, ?_, hu.trans (Za.refl _),
    kc F0, kc F1, kQ Zee.fam F2 (Za.refl _), Zf4 F3 (Za.refl _), kc F4, kc F5, kQ2 RGR.fam F6 (Za.refl _), zh fun _ => rfl, kc F8, kM2 F9, kA F10 (Za.refl _)⟩
   rw [HA.o];simp only [Act.put, nA, nB, nC]
  ·refine Zc9 (n := 12) rfl rfl [7] (by kernel_rfl) (fun l a u hI hs hun hD => ?_) ho';obtain ⟨x0, x1, x2, x3, x4, x5, x6, x7, x8, x9, x10, ha, hu, F0, F1, F2, F3, F4, F5, F6, F7, F8, F9, F10⟩ := hI;rw [HA.o] at ha;simp only [Act.put, nA, nB, nC] at ha;subst ha;have e7 := F7.o (hD 7 (by simp));have HPU := zh (HEY.o.later hu);have g0 := cz4 HPU.o.pb;have fg0 := fz HPU.o.pb;go_wp2_with fail
   first | refine Zaf ?_ | skip
   unfold Zd1;refine ⟨x0, x1, x2, x3, x4, x5, x6, x7, .int .i64 p.main, x9, x10, ?_, hu.trans (Za.refl _),
    kc F0, kc F1, kQ Zee.fam F2 (Za.refl _), Zf4 F3 (Za.refl _), kc F4, kc F5, kQ2 RGR.fam F6 (Za.refl _), kc F7, zh fun _ => rfl, kM2 F9, kA F10 (Za.refl _)⟩
   rw [HA.o];simp only [Act.put, List.setIfInBounds_toArray, List.set_cons_zero, List.set_cons_succ, e7]
  ·refine Zc9 (n := 12) rfl rfl [2, 6, 8] (by kernel_rfl) (fun l a u hI hs hun hD => ?_) ho';obtain ⟨x0, x1, x2, x3, x4, x5, x6, x7, x8, x9, x10, ha, hu, F0, F1, F2, F3, F4, F5, F6, F7, F8, F9, F10⟩ := hI;rw [HA.o] at ha;simp only [Act.put, nA, nB, nC] at ha;subst ha;have e2 := F2.o (hD 2 (by simp));have e6 := F6.o (hD 6 (by simp));have e8 := F8.o (hD 8 (by simp));obtain ⟨_, k2r, -⟩ := e2;obtain ⟨A2r, c2r, h2r, -⟩ := k2r;obtain ⟨⟨_, _, -, k6r, -⟩, -⟩ := e6;obtain ⟨A6r, c6r, h6r, -⟩ := k6r;go_wp2_with fail
   first | refine Zaf ?_ | skip
   unfold Zd1;refine ⟨x0, x1, x2, x3, x4, x5, x6, x7, x8, .agg #[.slice none 0 0, x2, x6, .int .i64 p.main, .slice none 0 0], x10, ?_, hu.trans (Za.refl _),
    kc F0, kc F1, kQ Zee.fam F2 (Za.refl _), Zf4 F3 (Za.refl _), kc F4, kc F5, kQ2 RGR.fam F6 (Za.refl _), kc F7, kc F8, zh fun _ => ⟨rfl, Zfe (hD 2 (by simp)), Zfe (hD 6 (by simp))⟩, kA F10 (Za.refl _)⟩
   rw [HA.o];simp only [Act.put, List.setIfInBounds_toArray, List.set_cons_zero, List.set_cons_succ, e8, h2r, h6r]
  ·refine Zc9 (n := 12) rfl rfl [] (by kernel_rfl) (fun l a u hI hs hun hD => ?_) ho';obtain ⟨x0, x1, x2, x3, x4, x5, x6, x7, x8, x9, x10, ha, hu, F0, F1, F2, F3, F4, F5, F6, F7, F8, F9, F10⟩ := hI;rw [HA.o] at ha;simp only [Act.put, nA, nB, nC] at ha;subst ha;go_wp2_with fail
   first | refine Zaf ?_ | skip
   unfold Zd1;refine ⟨x0, x1, x2, x3, x4, x5, x6, x7, x8, x9, .pointer (some ⟨u.heap.size, 0, none⟩), ?_, hu.trans ((Za.refl _).alloc _),
    kc F0, kc F1, kQa Zee.fam F2 ((Za.refl _).alloc _), Zf4 F3 ((Za.refl _).alloc _), kc F4, kc F5, Zve RGR.fam F6 ((Za.refl _).alloc _), kc F7, kc F8, kM2 F9, zh fun _ => AlR.new _ hu⟩
   rw [HA.o];simp only [Act.put, nA, nB, nC]
 ·intro i hi
  cases hi
 ·intro a u hI;obtain ⟨x0, x1, x2, x3, x4, x5, x6, x7, x8, x9, x10, ha, hu, F0, F1, F2, F3, F4, F5, F6, F7, F8, F9, F10⟩ := hI;rw [HA.o] at ha;simp only [Act.put, nA, nB, nC] at ha;subst ha;obtain ⟨⟨R, U, hre, hgl, hdm, hdj, hN⟩, -⟩ := F6.o (Zg2 (by kernel_rfl));obtain ⟨OB, e10, hB, hWB⟩ := F10.o (Zg2 (by kernel_rfl));have hNO := hN OB ⟨(Zg2 (by kernel_rfl)), by rw [e10]; rfl⟩;have e9 := (F9.o (Zg2 (by kernel_rfl))).1;clear F0 F1 F2 F3 F4 F5 F6 F7 F8 F9 F10 hN HA A;subst e10;obtain ⟨Ae, ce, rfl, -⟩ := id hre;obtain ⟨Ag, cgg, rfl, -⟩ := id hgl;subst e9;have hcm := CmS.start (w0 := w1) (C := (fun _ => False)) (p := p) (HLY.o.trans hu) hB rfl (Nat.le_trans HLY.o.size hWB) hre hgl (fun b hb => ⟨Nat.le_trans HLY.o.size (hdm b hb).1, (hdm b hb).2, fun e => hNO (e ▸ hb), fun h => h⟩) (fun b h => h.elim) hdj;obtain ⟨w4, hw4⟩ : ∃ z, z = Zbh u OB 0 [.slice none 0 0, .slice Ae p.aA.length ce, .slice Ag p.globals.length cgg, .int .i64 p.main, .slice none 0 0] := ⟨_, rfl⟩;rw [← hw4] at hcm;have HK4 := zh (show Zb (fun b => b ≠ OB) u w4 by rw [hw4]; exact Zbn (fun h => h rfl) _ u 0 (Zb.refl _ _));simp only [Zbh, Nat.zero_add, Nat.reduceAdd] at hw4;have HW4 := zh hw4;have HCM := zh hcm;have HBK := zh hB;have HU := zh hu;have HWB := zh hWB;clear hw4 hcm hB hu hre hgl hdm hdj hNO hWB;have b0 := cz5 HBK.o;have fb0 := fz HBK.o;go_upto_region 4 with (fail);rw [← HW4.o];clear HW4 b0 fb0;have hl6 : Za w4 (w4.alloc (.cells #[.slice none 0 0, .slice none 0 0, .int .i64 0, .slice none 0 0] TSt)) := (Za.refl _).alloc _
  have hm6 := heap_alloc_new w4 (.cells #[.slice none 0 0, .slice none 0 0, .int .i64 0, .slice none 0 0] TSt);obtain ⟨w6, hw6⟩ : ∃ z, w4.alloc (.cells #[.slice none 0 0, .slice none 0 0, .int .i64 0, .slice none 0 0] TSt) = z := ⟨_, rfl⟩;rw [hw6] at hl6 hm6;have HW6 := zh hw6;clear hw6;obtain ⟨MB, hMB⟩ : ∃ z, w4.heap.size = z := ⟨_, rfl⟩;rw [hMB] at hm6;have HM6 := zh hm6;have HC6 := zh (HCM.o.coder (C' := fun b => b = MB ∨ (fun _ : Nat => False) b) (Tn.later hl6) (fun b hb => by exact hb.elim (fun e => .inr (by omega)) False.elim) (fun b hb => by exact hb.elim (fun e => e ▸ Zc hm6) False.elim));have HMB2 := zh hMB;clear hMB hm6 hl6;have HI0 := zh (show CmJ N w1 w6 p MB OB R U (.slice Ae p.aA.length ce) (.slice Ag p.globals.length cgg) 0 from ⟨fun _ => False, _, _, HC6.o, ⟨⟨fun _ => False, fun _ => False, fun _ => False, _, _, _, ⟨HM6.o, Zah.nil _ _ _ _ _, Zah.nil _ _ _ _ _, Zah.nil _ _ _ _ _, fun _ h => h.elim, fun _ h => h.elim, ⟨fun h => h, fun h => h, fun h => h⟩, fun b h => h.elim id (fun h => h.elim id id) |>.elim⟩, fun b h => h.elim id (fun h => h.elim id id)⟩, Tn.refl _ _, fun _ h => .inl h, fun _ h => h.elim⟩⟩);have HE4 := zh (HE.o.later HC6.o.bel);go_upto_region 5 with (fail);rw [HW6.o];rw [HMB2.o];clear HCM HK4 HW6 HC6;have g0 := cz4 HE4.o.pb;have fg0 := fz HE4.o.pb
  go_upto_block 0 with (fail)
  refine @Zc0 _ cnLp ?R1 _ _ _ _ ?h ?k
  case h =>
   refine Zs5 N F w6 p A1 A2 A3 k1 k2 k3 PB ZB MB OB w1 HE HFL HRT R U _ _ HI0 (zh ?hf)
   case hf => exact FnL.mk' rfl rfl rfl rfl rfl rfl rfl
  case k =>
  rintro a' w5 ⟨hf, G, H, rv, hcm, hss⟩;obtain ⟨frx, rfl⟩ := hf.opn;obtain ⟨Gc, Gl, Gb, cv, lv, bv, hs, hG⟩ := hss.st;rw [Zpf] at hcm hs;have HC5 := zh hcm;have HL5 := zh (show Za w1 w5 from hcm.bel);have HZ5 := zh ((Below.block HL5.o _ (Zc HZ.o)).trans HZ.o);clear hf hcm g0 fg0;obtain ⟨Am, cm, rfl, hmc, hmm, -⟩ := id hs.code;have hlm : ((Za5 (cg (N + 1)) p.routines 0).2.length : Int) ≤ 9223372036854775807 := by unfold maxLen at hmm; omega
  have HSK := zh hs;have HGC := zh (fun b (hb : Gc b) => hG b (.inl hb));have m0 := cz4 hs.blk;have fm0 := fz hs.blk;clear hs hG hss hmc hmm;obtain ⟨ov, hov⟩ : ∃ q : Bool, decide ((60000 : Int) < ((Za5 (cg (N + 1)) p.routines 0).2.length : Int)) = q := ⟨_, rfl⟩;have HOVE := zh hov
  cases ov with
  | true =>
   have HOV := zh (show 60000 < (Za5 (cg (N + 1)) p.routines 0).2.length by have := of_decide_eq_true HOVE.o; omega);have z0 := cz5 HZ5.o;have fz0 := fz HZ5.o;go_wp2_with fail;have hd := Zgo.zero (Zbg HZB.o.1 Zhn w5 0 (HLb.o.trans HL5.o));simp only [Zbh, Zhn, Nat.zero_add, Nat.reduceAdd] at hd;rw [show Rr = (cdZ, false) by rw [HR.o]; unfold Zfz; rw [if_pos HQ.o.symm, if_pos HOV.o]];exact bodyPost_ret (v := .tuple #[.agg #[.slice none 0 0, .slice none 0 0, .slice none 0 0, .int .i64 0, .slice none 0 0], .bool false]) (by simp [results, Tryz.results6, go_sem, z0, fz0]) rfl hd
  | false =>
  have HOV := zh (show ¬ 60000 < (Za5 (cg (N + 1)) p.routines 0).2.length by have := of_decide_eq_false HOVE.o; omega);obtain ⟨Ar, cr, rfl, -⟩ := id HC5.o.rr;have o0 := cz5 HC5.o.ob;have fo0 := fz HC5.o.ob;have hres := HC5.o.done HSK.o.code (fun b hb => .inr (HGC.o b hb)) HM.o;have HOB6 : Hd ((w5.setCell ⟨OB, 4, none⟩ (.slice Am (Za5 (cg (N + 1)) p.routines 0).2.length cm)).heap[OB]? = some (.cells #[.slice Ar (Za5 (cg (N + 1)) p.routines 0).1.length cr, .slice Ae p.aA.length ce, .slice Ag p.globals.length cgg, .int .i64 p.main, .slice Am (Za5 (cg (N + 1)) p.routines 0).2.length cm] Zdc (0, 0))) := zh (by have := Za1 (o := 4) HC5.o.ob (.slice Am (Za5 (cg (N + 1)) p.routines 0).2.length cm); simpa using this);have HZ6 : Hd ((w5.setCell ⟨OB, 4, none⟩ (.slice Am (Za5 (cg (N + 1)) p.routines 0).2.length cm)).heap[ZB]? = some (.cells #[.slice none 0 0, .slice none 0 0, .slice none 0 0, .int .i64 0, .slice none 0 0] Zdc (0, 0))) := zh ((Below.heap_setCell _ _ _ _ (show ZB ≠ OB by have := HZB.o; have := HC5.o.lo; omega)).trans HZ5.o);obtain ⟨wz, hwz⟩ : ∃ z, w5.setCell ⟨OB, 4, none⟩ (.slice Am (Za5 (cg (N + 1)) p.routines 0).2.length cm) = z := ⟨_, rfl⟩;rw [hwz] at hres HOB6 HZ6;have HRS := zh hres;clear hres;go_upto_region 15 with (fail)
  try rw [hwz]
  clear hwz o0 fo0;have o0 := cz5 HOB6.o;have fo0 := fz HOB6.o;have z0 := cz5 HZ6.o;have fz0 := fz HZ6.o;go_wp2_with fail;have hd := Zgo.of (t := true) HLb.o HZB.o.1 HZB.o.2 HRS.o;simp only [Zbh, Nat.zero_add, Nat.reduceAdd] at hd;rw [show Rr = (⟨(Za5 (cg (N + 1)) p.routines 0).1, p.aA, p.globals, p.main, (Za5 (cg (N + 1)) p.routines 0).2⟩, true) by rw [HR.o]; unfold Zfz; rw [if_pos HQ.o.symm, if_neg HOV.o]];exact bodyPost_ret (v := .tuple #[.agg #[.slice Ar (Za5 (cg (N + 1)) p.routines 0).1.length cr, .slice Ae p.aA.length ce, .slice Ag p.globals.length cgg, .int .i64 p.main, .slice Am (Za5 (cg (N + 1)) p.routines 0).2.length cm], .bool true]) (by simp [results, Tryz.results6, go_sem, z0, fz0]) rfl hd
section
abbrev TPg : TypeId := 37
structure Zhh {α : Type} (S : Za6 α) (T : TypeId) (lo hi : Nat) (u : World) (q : α) (B : Nat) (F : Nat → Prop) (cs : List Value) : Prop where
 blk : u.heap[B]? = some (.cells cs.toArray T (0, 0))
 sp : S F u q cs
 dom : ∀ b, F b → lo ≤ b ∧ b < hi
 loB : lo ≤ B
 hiB : B < hi
 nB : ¬ F B
 le : hi ≤ u.heap.size
section
variable {α β : Type} {S El : Za6 α} {S' : Za6 β} {T T' : TypeId} {size : Nat} {lo hi lo' hi' : Nat} {u v : World} {q q' : α} {q2 : β} {B B' : Nat} {F F' : Nat → Prop} {cs cs' : List Value}
theorem Zhh.move (hS : Zc2 S El size) (h : Zhh S T lo hi u q B F cs) (hs : u.heap.size ≤ v.heap.size) (hb : ∀ b, lo ≤ b → b < hi → v.heap[b]? = u.heap[b]?) : Zhh S T lo hi v q B F cs :=
 ⟨(hb B h.loB h.hiB).trans h.blk, hS.is.keep h.sp (fun _ h => h) ⟨hs, fun b hF _ => hb b (h.dom b hF).1 (h.dom b hF).2⟩, h.dom, h.loB, h.hiB, h.nB, Nat.le_trans h.le hs⟩
theorem Zhh.later (hS : Zc2 S El size) (h : Zhh S T lo hi u q B F cs) (hl : Za u v) : Zhh S T lo hi v q B F cs :=
 h.move hS hl.size fun b _ hb => hl.block b (Nat.lt_of_lt_of_le hb h.le)
theorem Zhh.apart (hS : Zc2 S El size) (h : Zhh S T lo hi u q B F cs) (h' : Zhh S' T' lo' hi' u q2 B' F' cs') (hk : Zb (fun y => ¬ F' y) u v) (hd : hi ≤ lo' ∨ hi' ≤ lo) : Zhh S T lo hi v q B F cs :=
 h.move hS hk.size fun b h1 h2 => hk.same b (fun hF => by have := h'.dom b hF; omega) (Nat.lt_of_lt_of_le h2 h.le)
theorem Zhh.turned (h : Zhh S T lo hi u q B F cs) (hk : Zb (fun y => ¬ F y) u v) (hsp : S F v q' cs) : Zhh S T lo hi v q' B F cs :=
 ⟨(hk.same B h.nB (Zc h.blk)).trans h.blk, hsp, h.dom, h.loB, h.hiB, h.nB, Nat.le_trans h.le hk.size⟩
theorem Zhh.below (h : Zhh S T lo hi u q B F cs) (hk : Zb (fun y => ¬ F y) u v) (h0 : Below 0 u v) {n : Nat} (hn : n ≤ lo) : Below n u v :=
 Zer hk h0 (fun b hb => Nat.le_trans hn (h.dom b hb).1) (Nat.le_trans hn (Nat.le_trans h.loB (Nat.le_of_lt (Zc h.blk))))
theorem Zfa (hS : Zc2 S El size) {W : World} (hW : Za W u) (hsp : S F u q cs) (hF : ∀ b, F b → W.heap.size ≤ b) :
  Zhh S T W.heap.size (u.heap.size + 1) (u.alloc (.cells cs.toArray T)) q u.heap.size (fun b => F b ∧ b < u.heap.size) cs ∧ Za W (u.alloc (.cells cs.toArray T)) := by
 have hl : Za u (u.alloc (.cells cs.toArray T)) := (Za.refl u).alloc _;refine ⟨⟨Zc6 rfl, ?_, fun b hb => ⟨hF b hb.1, by have := hb.2; omega⟩, hW.size, by omega, fun h => by have := h.2; omega, by simp⟩, hW.trans hl⟩;exact hS.is.keep (hS.trim hsp) (fun _ h => h) (Zb.later hl)
end
end
end Go.Proofs.YtcmmdchjppaimaaGreatDoor
