/- Part of the walks that the claim stands on. -/
import Derived.Test.YtpmhelkiicigfaaGreatDoorS2
import Derived.Test.YtpmhelkiicigfaaGreatDoorS1
import Derived.Test.YtpmhelkiicigfaaGreatDoorChecked
import Derived.Lib.Hide
import Derived.WalkKit
import Derived.WalkSpells
import Derived.WalkLawsBesides
import Derived.Outline
import Derived.Laws.IdiomStrings
import Derived.Deep.DeepCutAuto
import Derived.Test.YtpmhelkiicigfaaGreatDoorS4
import Derived.ProofKit
import Derived.OpenShut
import Derived.ChangeArms
import Derived.Below
set_option maxRecDepth 100000
set_option maxHeartbeats 40000000
namespace Go.Proofs.YtpmhelkiicigfaaGreatDoor
open Go.RowKit
theorem Zii (r : Zh) (cs : List Value) (F : Nat → Prop) (w : World) (hsz : Zad r ≤ 1048576) (h : Zb6 F w r cs) :
  Calls Tryz.prog 77 #[.agg cs.toArray] w fun e w' => ∃ cs', e = .returned (.agg cs'.toArray) ∧ Zcz (fun b => w.heap.size ≤ b) w' r cs' ∧ Below w.heap.size w w' := by
 obtain ⟨iStringS, hiStringS, hzStringS0, hzStringS1, hzStringS2⟩ := info_parts Zeo;obtain ⟨iValueS, hiValueS, hzValueS0, hzValueS1, hzValueS2⟩ := info_parts Zf7;obtain ⟨iActiveS, hiActiveS, hzActiveS0, hzActiveS1, hzActiveS2⟩ := info_parts Zgr;obtain ⟨iObjectS, hiObjectS, hzObjectS0, hzObjectS1, hzObjectS2⟩ := info_parts Zep;obtain ⟨aL, aM, aN, aO, aP, aQ, aR, rfl, aV, aW, aX, aY, aZ, bA, bB, bC, bD, bE, bF, bG⟩ := h;have HSZ := zh (show Zk ByteArray.size r.names + (Zk Zo r.aB + (Zk Zr r.aA + (Zk Zs r.globals + (r.aC.size + (Zk ByteArray.size r.output + (Zk ByteArray.size r.trace + (Zk (fun _ => 0) r.aE))))))) ≤ 1048576 from hsz);clear hsz;have hmnames : r.names.length ≤ 1048576 := by have := HSZ.o; have h1 : Zk ByteArray.size r.names = r.names.length + _ := rfl; omega
 have hmrecords : r.aB.length ≤ 1048576 := by have := HSZ.o; have h1 : Zk Zo r.aB = r.aB.length + _ := rfl; omega
 have hmobjects : r.aA.length ≤ 1048576 := by have := HSZ.o; have h1 : Zk Zr r.aA = r.aA.length + _ := rfl; omega
 have hmglobals : r.globals.length ≤ 1048576 := by have := HSZ.o; have h1 : Zk Zs r.globals = r.globals.length + _ := rfl; omega
 have hmoutput : r.output.length ≤ 1048576 := by have := HSZ.o; have h1 : Zk ByteArray.size r.output = r.output.length + _ := rfl; omega
 have hmtrace : r.trace.length ≤ 1048576 := by have := HSZ.o; have h1 : Zk ByteArray.size r.trace = r.trace.length + _ := rfl; omega
 have hmactives : r.aE.length ≤ 1048576 := by have := HSZ.o; have h1 : Zk (fun _ => 0) r.aE = r.aE.length + _ := rfl; omega
 have HSO : Hd (∀ j (h : j < r.aA.length), r.aA[j].aJ.length ≤ 1048576 ∧ r.aA[j].aK.length ≤ 1048576) := zh (fun j h => by
  have := HSZ.o;have h1 : Zk Zr r.aA = r.aA.length + Zaq Zr r.aA := rfl;have h2 := Zb4 Zr r.aA _ (List.getElem_mem h);have h3 : Zr r.aA[j] = (r.aA[j].aJ.length + Zaq Zs r.aA[j].aJ) + (r.aA[j].aK.length + Zaq Zs r.aA[j].aK) := rfl
  omega)
 obtain ⟨Anames, cnames, rfl, _⟩ := id aV;have Hnames := zh aV;clear aV;obtain ⟨Arecords, crecords, rfl, _⟩ := id aW;have Hrecords := zh aW;clear aW;obtain ⟨Aobjects, cobjects, rfl, _⟩ := id aX;have Hobjects := zh aX;clear aX;obtain ⟨Aglobals, cglobals, rfl, _⟩ := id aY;have Hglobals := zh aY;clear aY;have Hsubject := zh aZ;clear aZ;have Hposition := zh bA;clear bA;obtain ⟨Aoutput, coutput, rfl, _⟩ := id bB;have Houtput := zh bB;clear bB;obtain ⟨Atrace, ctrace, rfl, _⟩ := id bC;have Htrace := zh bC;clear bC;obtain ⟨Aactives, cactives, rfl, _⟩ := id bD;have Hactives := zh bD;clear bD;have Hticks := zh bE;clear bE;have Hbudget := zh bF;clear bF;have Hmade := zh bG;clear bG;have HEL : Hd (∀ i (h : i < r.aA.length), ∃ b o cs, Aobjects = some ⟨b, o, none⟩ ∧ F b ∧ b < w.heap.size ∧ Zbq F w r.aA[i] cs ∧ ∀ j x, cs[j]? = some x → w.cell? ⟨b, o + i * 5 + j, none⟩ = some x) := zh (by
  obtain ⟨A', c', e, _, _, hel⟩ := Hobjects.o;cases e;exact hel)
 have hoc : r.aA.length ≤ cobjects := by
  obtain ⟨A', c', e, h1, _, _⟩ := Hobjects.o;cases e;exact h1
 have HP := zh (((Za.refl _).alloc (.cells #[.slice none 0 0, .slice none 0 0, .slice none 0 0, .slice none 0 0, .string ⟨#[]⟩, .int .i64 0, .slice none 0 0, .slice none 0 0, .slice none 0 0, .bool false, .int .i64 0, .int .i64 0, .int .i64 0] 30)).alloc (.cells #[.slice Anames r.names.length cnames, .slice Arecords r.aB.length crecords, .slice Aobjects r.aA.length cobjects, .slice Aglobals r.globals.length cglobals, .string r.aC, .int .i64 r.aD, .slice Aoutput r.output.length coutput, .slice Atrace r.trace.length ctrace, .slice Aactives r.aE.length cactives, .bool r.aF, .int .i64 r.ticks, .int .i64 r.aG, .int .i64 r.made] 30) |>.block _ (by simp) |>.trans (heap_alloc_new w (.cells #[.slice Anames r.names.length cnames, .slice Arecords r.aB.length crecords, .slice Aobjects r.aA.length cobjects, .slice Aglobals r.globals.length cglobals, .string r.aC, .int .i64 r.aD, .slice Aoutput r.output.length coutput, .slice Atrace r.trace.length ctrace, .slice Aactives r.aE.length cactives, .bool r.aF, .int .i64 r.ticks, .int .i64 r.aG, .int .i64 r.made] 30)));have HZ := zh ((Za.refl _).alloc (.cells #[.slice Anames r.names.length cnames, .slice Arecords r.aB.length crecords, .slice Aobjects r.aA.length cobjects, .slice Aglobals r.globals.length cglobals, .string r.aC, .int .i64 r.aD, .slice Aoutput r.output.length coutput, .slice Atrace r.trace.length ctrace, .slice Aactives r.aE.length cactives, .bool r.aF, .int .i64 r.ticks, .int .i64 r.aG, .int .i64 r.made] 30) |>.block _ (by simp) |>.trans (heap_alloc_new (w.alloc (.cells #[.slice Anames r.names.length cnames, .slice Arecords r.aB.length crecords, .slice Aobjects r.aA.length cobjects, .slice Aglobals r.globals.length cglobals, .string r.aC, .int .i64 r.aD, .slice Aoutput r.output.length coutput, .slice Atrace r.trace.length ctrace, .slice Aactives r.aE.length cactives, .bool r.aF, .int .i64 r.ticks, .int .i64 r.aG, .int .i64 r.made] 30)) (.cells #[.slice none 0 0, .slice none 0 0, .slice none 0 0, .slice none 0 0, .string ⟨#[]⟩, .int .i64 0, .slice none 0 0, .slice none 0 0, .slice none 0 0, .bool false, .int .i64 0, .int .i64 0, .int .i64 0] 30)))
 have HO := zh (heap_alloc_new ((w.alloc (.cells #[.slice Anames r.names.length cnames, .slice Arecords r.aB.length crecords, .slice Aobjects r.aA.length cobjects, .slice Aglobals r.globals.length cglobals, .string r.aC, .int .i64 r.aD, .slice Aoutput r.output.length coutput, .slice Atrace r.trace.length ctrace, .slice Aactives r.aE.length cactives, .bool r.aF, .int .i64 r.ticks, .int .i64 r.aG, .int .i64 r.made] 30)).alloc (.cells #[.slice none 0 0, .slice none 0 0, .slice none 0 0, .slice none 0 0, .string ⟨#[]⟩, .int .i64 0, .slice none 0 0, .slice none 0 0, .slice none 0 0, .bool false, .int .i64 0, .int .i64 0, .int .i64 0] 30)) (.cells #[.slice Anames r.names.length cnames, .slice Arecords r.aB.length crecords, .slice Aobjects r.aA.length cobjects, .slice Aglobals r.globals.length cglobals, .string r.aC, .int .i64 r.aD, .slice Aoutput r.output.length coutput, .slice Atrace r.trace.length ctrace, .slice Aactives r.aE.length cactives, .bool r.aF, .int .i64 r.ticks, .int .i64 r.aG, .int .i64 r.made] 30));simp only [Zbj] at HZ HO;have HB := zh ((((Below.refl w.heap.size w).alloc (Nat.le_refl _) (.cells #[.slice Anames r.names.length cnames, .slice Arecords r.aB.length crecords, .slice Aobjects r.aA.length cobjects, .slice Aglobals r.globals.length cglobals, .string r.aC, .int .i64 r.aD, .slice Aoutput r.output.length coutput, .slice Atrace r.trace.length ctrace, .slice Aactives r.aE.length cactives, .bool r.aF, .int .i64 r.ticks, .int .i64 r.aG, .int .i64 r.made] 30)).alloc (by simp) (.cells #[.slice none 0 0, .slice none 0 0, .slice none 0 0, .slice none 0 0, .string ⟨#[]⟩, .int .i64 0, .slice none 0 0, .slice none 0 0, .slice none 0 0, .bool false, .int .i64 0, .int .i64 0, .int .i64 0] 30)).alloc (by simp; omega) (.cells #[.slice Anames r.names.length cnames, .slice Arecords r.aB.length crecords, .slice Aobjects r.aA.length cobjects, .slice Aglobals r.globals.length cglobals, .string r.aC, .int .i64 r.aD, .slice Aoutput r.output.length coutput, .slice Atrace r.trace.length ctrace, .slice Aactives r.aE.length cactives, .bool r.aF, .int .i64 r.ticks, .int .i64 r.aG, .int .i64 r.made] 30))
 have hne1 : ¬ w.heap.size = w.heap.size + 2 := by omega
 have hne2 : ¬ w.heap.size + 1 = w.heap.size + 2 := by omega
 have hne3 : ¬ w.heap.size + 2 = w.heap.size + 1 := by omega
 have hne4 : ¬ w.heap.size = w.heap.size + 1 := by omega
 go_enter Tryz.func77, Tryz.ntmps77;go_upto_region 2 with (fail);obtain ⟨x, hx⟩ : ∃ x, x = (((w.alloc (.cells #[.slice Anames r.names.length cnames, .slice Arecords r.aB.length crecords, .slice Aobjects r.aA.length cobjects, .slice Aglobals r.globals.length cglobals, .string r.aC, .int .i64 r.aD, .slice Aoutput r.output.length coutput, .slice Atrace r.trace.length ctrace, .slice Aactives r.aE.length cactives, .bool r.aF, .int .i64 r.ticks, .int .i64 r.aG, .int .i64 r.made] 30)).alloc (.cells #[.slice none 0 0, .slice none 0 0, .slice none 0 0, .slice none 0 0, .string ⟨#[]⟩, .int .i64 0, .slice none 0 0, .slice none 0 0, .slice none 0 0, .bool false, .int .i64 0, .int .i64 0, .int .i64 0] 30)).alloc (.cells #[.slice Anames r.names.length cnames, .slice Arecords r.aB.length crecords, .slice Aobjects r.aA.length cobjects, .slice Aglobals r.globals.length cglobals, .string r.aC, .int .i64 r.aD, .slice Aoutput r.output.length coutput, .slice Atrace r.trace.length ctrace, .slice Aactives r.aE.length cactives, .bool r.aF, .int .i64 r.ticks, .int .i64 r.aG, .int .i64 r.made] 30)) := ⟨_, rfl⟩;rw [← hx] at HP HZ HO HB ⊢;clear hx;have HN : Hd (w.heap.size + 3 ≤ x.heap.size) := zh (Zd HO.o);have p0 := cq HP.o 0;have o0 := cq HO.o 0;have fo0 := fz HO.o;simp only [nD, nE, nF] at p0 o0;have pa0 := (((Za.refl x).alloc (.cells #[] 9)).cell ⟨w.heap.size, 0, none⟩ (Zd HP.o)).trans p0;have HS := zh (Hnames.o.keep Z4 (fun _ h => h) (Zc.later (HB.o.trans (Below.mono ((Za.refl x).alloc (.cells #[] 9)) HB.o.size))))
 go_upto_region 3 with (at_builtin; refine Zao Zdf (by decide) rfl _ _ 24 rfl 9 iStringS (.string ⟨#[]⟩) 16 Tryz.underlying24 hiStringS hzStringS0 hzStringS1 hzStringS2 rfl rfl (Zy (by simp)) rfl HS.o (by omega) (by decide) ?_; intro v0 w0 hr0 hl0; obtain ⟨A0, c0, rfl, _⟩ := id hr0; have hlx := ((Za.refl x).alloc (.cells #[] 9)).trans hl0; have o0x := (hlx.cell _ (Zd HO.o)).trans o0; have fo0x := frozen_of_row _ (w.heap.size + 2) 0 _ _ ((hlx.block _ (Zd HO.o)).trans HO.o); clear o0 fo0)
 clear pa0 p0 HS o0x fo0x;have hlo0 := hlx.size;have hbs0 : x.heap.size + 1 ≤ w0.heap.size := by have := hl0.size; simpa using this
 have HR0 := zh ((hr0.trim Zg).keep Zg.is (G := fun b => w.heap.size + 3 ≤ b ∧ b < w0.heap.size) (fun b h => ⟨by have := h.1; have := HN.o; have : x.heap.size ≤ (x.alloc (.cells #[] 9)).heap.size := (by simp); have := hbs0; omega, h.2⟩) (Zc.refl _ _));have HM0 := zh (show w.heap.size + 3 ≤ w.heap.size + 3 ∧ w.heap.size + 3 ≤ w0.heap.size from ⟨by omega, by have := HN.o; have : x.heap.size ≤ (x.alloc (.cells #[] 9)).heap.size := (by simp); have := hbs0; omega⟩);replace HP := zC hlx HP;replace HZ := zC hlx HZ;replace HO := zC hlx HO;replace HB := zh (HB.o.trans (Below.mono hlx HB.o.size));replace HN : Hd (w0.heap.size ≤ w0.heap.size) := zh (Nat.le_refl _);clear hr0 hl0 hlx hlo0 hbs0;replace HO := zh (Zax (o := 0) HO.o (.slice A0 r.names.length c0));simp only [List.setIfInBounds_toArray, List.set_cons_zero, List.set_cons_succ] at HO;replace HP := zh ((Below.heap_setCell _ ⟨w.heap.size + 2, 0, none⟩ (.slice A0 r.names.length c0) _ hne1).trans HP.o);replace HZ := zh ((Below.heap_setCell _ ⟨w.heap.size + 2, 0, none⟩ (.slice A0 r.names.length c0) _ hne2).trans HZ.o);replace HB := zh (HB.o.setCell (p := ⟨w.heap.size + 2, 0, none⟩) (by simp) (.slice A0 r.names.length c0));replace HR0 := zh (HR0.o.keep Zg.is (fun _ h => h) ((Zc.refl _ _).set (B := w.heap.size + 2) (by have := HM0.o; omega) 0 (.slice A0 r.names.length c0)));replace HN := zh (show _ ≤ _ from Nat.le_trans HN.o ((Zc.refl (fun _ => False) _).set (B := w.heap.size + 2) (fun h => h) 0 (.slice A0 r.names.length c0)).size)
 obtain ⟨x1, hx⟩ : ∃ x, x = w0.setCell ⟨w.heap.size + 2, 0, none⟩ (.slice A0 r.names.length c0) := ⟨_, rfl⟩;rw [← hx] at HP HZ HO HB HN HR0 ⊢;clear hx;have p1 := cq HP.o 1;have o1 := cq HO.o 1;have fo1 := fz HO.o;simp only [nD, nE, nF] at p1 o1;go_wp2_with fail;refine (Zj8 r.aB _ F _ (by have := HSZ.o; omega) (Hrecords.o.keep Zak (fun _ h => h) (Zc.later HB.o))).mono ?_;rintro e w1 ⟨v1, rfl, hr1, hb1⟩;obtain ⟨A1, c1, rfl, _⟩ := id hr1;clear p1 o1 fo1;have hlo1 := Below.size hb1;have HR1 := zh ((hr1.trim Zf).keep Zf.is (G := fun b => w0.heap.size ≤ b ∧ b < w1.heap.size) (fun b h => ⟨by have := h.1; have := HN.o; have := hlo1; omega, h.2⟩) (Zc.refl _ _));have HM1 := zh (show w.heap.size + 3 ≤ w0.heap.size ∧ w0.heap.size ≤ w1.heap.size from ⟨by have := HM0.o; omega, by have := HN.o; have := hlo1; omega⟩);replace HP := zC hb1 HP;replace HZ := zC hb1 HZ;replace HO := zC hb1 HO;replace HB := zh (HB.o.trans (Below.mono hb1 HB.o.size));replace HR0 := zh (HR0.o.later Zg.is hb1);replace HN : Hd (w1.heap.size ≤ w1.heap.size) := zh (Nat.le_refl _);clear hr1 hb1 hlo1;have o1 := cq HO.o 1;have fo1 := fz HO.o;simp only [nD, nE, nF] at o1;go_upto_region 4 with (fail);clear o1 fo1;replace HO := zh (Zax (o := 1) HO.o (.slice A1 r.aB.length c1));simp only [List.setIfInBounds_toArray, List.set_cons_zero, List.set_cons_succ] at HO;replace HP := zh ((Below.heap_setCell _ ⟨w.heap.size + 2, 1, none⟩ (.slice A1 r.aB.length c1) _ hne1).trans HP.o)
 replace HZ := zh ((Below.heap_setCell _ ⟨w.heap.size + 2, 1, none⟩ (.slice A1 r.aB.length c1) _ hne2).trans HZ.o);replace HB := zh (HB.o.setCell (p := ⟨w.heap.size + 2, 1, none⟩) (by simp) (.slice A1 r.aB.length c1));replace HR0 := zh (HR0.o.keep Zg.is (fun _ h => h) ((Zc.refl _ _).set (B := w.heap.size + 2) (by have := HM0.o; omega) 1 (.slice A1 r.aB.length c1)));replace HR1 := zh (HR1.o.keep Zf.is (fun _ h => h) ((Zc.refl _ _).set (B := w.heap.size + 2) (by have := HM1.o; omega) 1 (.slice A1 r.aB.length c1)));replace HN := zh (show _ ≤ _ from Nat.le_trans HN.o ((Zc.refl (fun _ => False) _).set (B := w.heap.size + 2) (fun h => h) 1 (.slice A1 r.aB.length c1)).size);obtain ⟨x2, hx⟩ : ∃ x, x = w1.setCell ⟨w.heap.size + 2, 1, none⟩ (.slice A1 r.aB.length c1) := ⟨_, rfl⟩;rw [← hx] at HP HZ HO HB HN HR0 HR1 ⊢;clear hx;have p2 := cq HP.o 2;have o2 := cq HO.o 2;have fo2 := fz HO.o;simp only [nD, nE, nF] at p2 o2;obtain ⟨B0, hB0⟩ : ∃ B0, x2.heap.size = B0 := ⟨_, rfl⟩;have hB3 : w.heap.size + 3 ≤ B0 := by have := Zd HO.o; omega
 have HBN := zh (show w1.heap.size ≤ B0 by have := HN.o; omega);have hlx := (Za.refl x2).alloc (.cells #[] 94);have hnb := Zy (w := x2) (o := #[]) (T := 94) hB0.symm;have oa2 := (hlx.cell ⟨w.heap.size + 2, 2, none⟩ (Zd HO.o)).trans o2;have foa2 := (hlx.frozen ⟨w.heap.size + 2, 2, none⟩ (Zd HO.o)).trans (fo2 _);go_upto_region 5 with (fail);clear p2 o2 fo2 oa2 foa2
 try rw [hB0]
 replace HP := zC hlx HP;replace HZ := zC hlx HZ;replace HO := zC hlx HO;replace HB := zh (HB.o.trans (Below.mono hlx HB.o.size));replace HR0 := zh (HR0.o.later Zg.is hlx);replace HR1 := zh (HR1.o.later Zf.is hlx);replace HN := zh (Nat.le_trans HN.o hlx.size);obtain ⟨xa, hxa⟩ : ∃ x, x = x2.alloc (.cells #[] 94) := ⟨_, rfl⟩;rw [← hxa] at hnb HP HZ HO HB HN HR0 HR1 ⊢;have HXA := zh (show xa.heap.size = B0 + 1 by rw [hxa, ← hB0]; simp);have HNB := zh hnb;clear hxa hnb hlx hB0;have HS0x : Hd (Zev Zbx 5 94 B0 [] (.slice (some ⟨B0, 0, none⟩) 0 0) (xa.setCell ⟨w.heap.size + 2, 2, none⟩ (.slice (some ⟨B0, 0, none⟩) 0 0))) := zh (Zev.fresh ((Below.heap_setCell _ ⟨w.heap.size + 2, 2, none⟩ _ _ (fun e => by have e2 : B0 = w.heap.size + 2 := e; omega)).trans HNB.o) (Nat.le_refl _));have HXB := zh (show B0 ≤ (xa.setCell ⟨w.heap.size + 2, 2, none⟩ (.slice (some ⟨B0, 0, none⟩) 0 0)).heap.size by have := HXA.o; have := ((Zc.refl (fun _ => False) xa).set (B := w.heap.size + 2) (fun h => h) 2 (.slice (some ⟨B0, 0, none⟩) 0 0)).size; omega);replace HO := zh (Zax (o := 2) HO.o (.slice (some ⟨B0, 0, none⟩) 0 0));simp only [List.setIfInBounds_toArray, List.set_cons_zero, List.set_cons_succ] at HO;replace HP := zh ((Below.heap_setCell _ ⟨w.heap.size + 2, 2, none⟩ (.slice (some ⟨B0, 0, none⟩) 0 0) _ hne1).trans HP.o);replace HZ := zh ((Below.heap_setCell _ ⟨w.heap.size + 2, 2, none⟩ (.slice (some ⟨B0, 0, none⟩) 0 0) _ hne2).trans HZ.o);replace HB := zh (HB.o.setCell (p := ⟨w.heap.size + 2, 2, none⟩) (by simp) (.slice (some ⟨B0, 0, none⟩) 0 0))
 replace HR0 := zh (HR0.o.keep Zg.is (fun _ h => h) ((Zc.refl _ _).set (B := w.heap.size + 2) (by have := HM0.o; omega) 2 (.slice (some ⟨B0, 0, none⟩) 0 0)));replace HR1 := zh (HR1.o.keep Zf.is (fun _ h => h) ((Zc.refl _ _).set (B := w.heap.size + 2) (by have := HM1.o; omega) 2 (.slice (some ⟨B0, 0, none⟩) 0 0)));replace HN := zh (show _ ≤ _ from Nat.le_trans HN.o ((Zc.refl (fun _ => False) _).set (B := w.heap.size + 2) (fun h => h) 2 (.slice (some ⟨B0, 0, none⟩) 0 0)).size);obtain ⟨x3, hx⟩ : ∃ x, x = xa.setCell ⟨w.heap.size + 2, 2, none⟩ (.slice (some ⟨B0, 0, none⟩) 0 0) := ⟨_, rfl⟩;rw [← hx] at HP HZ HO HB HN HR0 HR1 HS0x HXB ⊢;clear hx;have HS0 := HS0x;have HB0 := HXB;have p2 := cq HP.o 2;simp only [nD, nE, nF] at p2;go_wp2_with fail;clear p2
 go_loopw [4] (fun iv wr => ∃ (j : Nat) (vo : Value) (dl : List Zay), iv = .int .i64 j ∧ j ≤ r.aA.length ∧ Hd (dl = r.aA.take j) ∧ wr.heap[w.heap.size + 2]? = some (.cells #[.slice A0 r.names.length c0, .slice A1 r.aB.length c1, vo, .slice Aglobals r.globals.length cglobals, .string r.aC, .int .i64 r.aD, .slice Aoutput r.output.length coutput, .slice Atrace r.trace.length ctrace, .slice Aactives r.aE.length cactives, .bool r.aF, .int .i64 r.ticks, .int .i64 r.aG, .int .i64 r.made] 30 (0, 0)) ∧ Zev Zbx 5 94 B0 dl vo wr ∧ Zc (fun y => y ≠ w.heap.size + 2 ∧ y < B0) x3 wr ∧ Below w.heap.size w wr) (fun iv _ => r.aA.length - (intOf iv).toNat)
 case atStart => exact ⟨0, _, [], rfl, Nat.zero_le _, zh (by simp), HO.o, HS0.o, Zc.refl _ _, HB.o⟩
 case round =>
  obtain ⟨j, vo, dl, rfl, hj, HDL, hO, hso, hkx, hbel⟩ := hrel;have HOr := zh hO;have HBr := zh hbel;have HKX := zh hkx;have HPr := zh ((hkx.same _ ⟨hne1, by omega⟩ (Zd HP.o)).trans HP.o);have pr2 := cq HPr.o 2;simp only [nD, nE, nF] at pr2
  by_cases hlt : j < r.aA.length
  ·have hlt' : (j : Int) < r.aA.length := by omega
   obtain ⟨xs, tg, hat⟩ := hso;have HAT := zh hat;obtain ⟨Ao, co, hvo⟩ := hat.form;subst hvo;have hdl : dl.length ≤ 1048576 := by rw [HDL.o, List.length_take]; omega
   have hwb : B0 ≤ wr.heap.size := by have := hkx.size; have := HB0.o; omega
   obtain ⟨b, o, cs, hA, hF, hbl, hE, hcell⟩ := HEL.o j hlt;subst hA;obtain ⟨vi, vk, rfl, hk0, hk1, hk2, hit, hky⟩ := hE;have HK0 := zh hk0;have HK1 := zh hk1;have HK2 := zh hk2;have HI := zh (hit.keep Zb (G := F) (fun _ h => h) (Zc.later HBr.o));have HY := zh (hky.keep Zb (G := F) (fun _ h => h) (Zc.later HBr.o));obtain ⟨hil, hyl⟩ := HSO.o j hlt;obtain ⟨Ai, ci, hvi, _⟩ := id hit;obtain ⟨Ak, ck, hvk, _⟩ := id hky;have e0 := (HBr.o.cell (p := ⟨b, o + j * 5 + 0, none⟩) hbl).trans (hcell 0 _ rfl);have e1 := (HBr.o.cell (p := ⟨b, o + j * 5 + 1, none⟩) hbl).trans (hcell 1 _ rfl);have e2 := (HBr.o.cell (p := ⟨b, o + j * 5 + 2, none⟩) hbl).trans (hcell 2 _ rfl);have e3 := (HBr.o.cell (p := ⟨b, o + j * 5 + 3, none⟩) hbl).trans (hcell 3 _ rfl);have e4 := (HBr.o.cell (p := ⟨b, o + j * 5 + 4, none⟩) hbl).trans (hcell 4 _ rfl);simp only [Nat.add_zero] at e0;subst hvi hvk;clear hat hbel hkx hO hk0 hk1 hk2 hit hky hcell;go_upto_region 9 with (fail);clear e0 e1 e2 e3 e4 pr2;have HMB := zh (heap_alloc_new wr (.cells #[.int .i64 r.aA[j].kind, .int .i64 r.aA[j].tag, .int .i64 r.aA[j].aI, .slice Ai r.aA[j].aJ.length ci, .slice Ak r.aA[j].aK.length ck] 94));have HL := zh ((Za.refl wr).alloc (.cells #[.int .i64 r.aA[j].kind, .int .i64 r.aA[j].tag, .int .i64 r.aA[j].aI, .slice Ai r.aA[j].aJ.length ci, .slice Ak r.aA[j].aK.length ck] 94));obtain ⟨y, hy⟩ : ∃ y, y = wr.alloc (.cells #[.int .i64 r.aA[j].kind, .int .i64 r.aA[j].tag, .int .i64 r.aA[j].aI, .slice Ai r.aA[j].aJ.length ci, .slice Ak r.aA[j].aK.length ck] 94) := ⟨_, rfl⟩
   rw [← hy] at HMB HL ⊢;clear hy;obtain ⟨M, hM⟩ : ∃ M, wr.heap.size = M := ⟨_, rfl⟩;rw [hM] at HMB ⊢;have hMB : B0 ≤ M := by omega
   have HYM := zh (show M < y.heap.size from Zd HMB.o);refine Zbd [16, 17, 18] [] (by kernel_rfl) (fun W hW => ?_);have hWL : Za y W := by rw [hW]; exact (Za.refl _).drew
   have HLW := zh (show Za wr W from HL.o.trans hWL);have HMW := zC hWL HMB;have HOW := zB HLW HOr;have HIW := zh (HI.o.later Zb HLW.o);have HYW := zh (HY.o.later Zb HLW.o);have hMW : M < W.heap.size := Zd HMW.o;have hOW : w.heap.size + 2 < W.heap.size := Zd HOW.o;have oW := cq HOW.o 2;obtain ⟨mW0, mW1, mW2, mW3, mW4⟩ := cz5 HMW.o;simp only [nD, nE, nF] at oW;clear hW hWL;refine tU 0 30 (v := ?_) rfl rfl (fun x hx => ?_) ?_;rotate_left
   ·go_simp;first|done|with_reducible rfl
   simp only [Act.put, nA, nB, nC];refine tU 1 31 (v := ?_) rfl rfl (fun x hx => ?_) ?_;rotate_left
   ·have xo := (hx.cell ⟨w.heap.size + 2, 2, none⟩ hOW).trans oW; have xm0 := (hx.cell ⟨M, 0, none⟩ hMW).trans mW0; have xm1 := (hx.cell ⟨M, 1, none⟩ hMW).trans mW1; have xm2 := (hx.cell ⟨M, 2, none⟩ hMW).trans mW2; have xm3 := (hx.cell ⟨M, 3, none⟩ hMW).trans mW3; have xm4 := (hx.cell ⟨M, 4, none⟩ hMW).trans mW4; go_simp;first|done|with_reducible rfl
   simp only [Act.put, nA, nB, nC];refine tU 2 32 (v := ?_) rfl rfl (fun x hx => ?_) ?_;rotate_left
   ·go_simp;first|done|with_reducible rfl
   simp only [Act.put, nA, nB, nC];refine tU 3 33 (v := ?_) rfl rfl (fun x hx => ?_) ?_;rotate_left
   ·have xo := (hx.cell ⟨w.heap.size + 2, 2, none⟩ hOW).trans oW; have xm0 := (hx.cell ⟨M, 0, none⟩ hMW).trans mW0; have xm1 := (hx.cell ⟨M, 1, none⟩ hMW).trans mW1; have xm2 := (hx.cell ⟨M, 2, none⟩ hMW).trans mW2; have xm3 := (hx.cell ⟨M, 3, none⟩ hMW).trans mW3; have xm4 := (hx.cell ⟨M, 4, none⟩ hMW).trans mW4; go_simp;first|done|with_reducible rfl
   simp only [Act.put, nA, nB, nC];refine tU 4 34 (v := ?_) rfl rfl (fun x hx => ?_) ?_;rotate_left
   ·go_simp;first|done|with_reducible rfl
   simp only [Act.put, nA, nB, nC];refine tU 5 35 (v := ?_) rfl rfl (fun x hx => ?_) ?_;rotate_left
   ·have xo := (hx.cell ⟨w.heap.size + 2, 2, none⟩ hOW).trans oW; have xm0 := (hx.cell ⟨M, 0, none⟩ hMW).trans mW0; have xm1 := (hx.cell ⟨M, 1, none⟩ hMW).trans mW1; have xm2 := (hx.cell ⟨M, 2, none⟩ hMW).trans mW2; have xm3 := (hx.cell ⟨M, 3, none⟩ hMW).trans mW3; have xm4 := (hx.cell ⟨M, 4, none⟩ hMW).trans mW4; go_simp;first|done|with_reducible rfl
   simp only [Act.put, nA, nB, nC];refine tU 6 36 (v := ?_) rfl rfl (fun x hx => ?_) ?_;rotate_left
   ·go_simp;first|done|with_reducible rfl
   simp only [Act.put, nA, nB, nC];refine tU 7 37 (v := ?_) rfl rfl (fun x hx => ?_) ?_;rotate_left
   ·have xo := (hx.cell ⟨w.heap.size + 2, 2, none⟩ hOW).trans oW; have xm0 := (hx.cell ⟨M, 0, none⟩ hMW).trans mW0; have xm1 := (hx.cell ⟨M, 1, none⟩ hMW).trans mW1; have xm2 := (hx.cell ⟨M, 2, none⟩ hMW).trans mW2; have xm3 := (hx.cell ⟨M, 3, none⟩ hMW).trans mW3; have xm4 := (hx.cell ⟨M, 4, none⟩ hMW).trans mW4; go_simp;first|done|with_reducible rfl
   simp only [Act.put, nA, nB, nC];refine tU 8 38 (v := ?_) rfl rfl (fun x hx => ?_) ?_;rotate_left
   ·go_simp;first|done|with_reducible rfl
   simp only [Act.put, nA, nB, nC];refine tU 9 39 (v := ?_) rfl rfl (fun x hx => ?_) ?_;rotate_left
   ·have xo := (hx.cell ⟨w.heap.size + 2, 2, none⟩ hOW).trans oW; have xm0 := (hx.cell ⟨M, 0, none⟩ hMW).trans mW0; have xm1 := (hx.cell ⟨M, 1, none⟩ hMW).trans mW1; have xm2 := (hx.cell ⟨M, 2, none⟩ hMW).trans mW2; have xm3 := (hx.cell ⟨M, 3, none⟩ hMW).trans mW3; have xm4 := (hx.cell ⟨M, 4, none⟩ hMW).trans mW4; go_simp;first|done|with_reducible rfl
   simp only [Act.put, nA, nB, nC];refine tU 11 41 (v := ?_) rfl rfl (fun x hx => ?_) ?_;rotate_left
   ·go_simp;first|done|with_reducible rfl
   simp only [Act.put, nA, nB, nC];refine tU 12 42 (v := ?_) rfl rfl (fun x hx => ?_) ?_;rotate_left
   ·have xo := (hx.cell ⟨w.heap.size + 2, 2, none⟩ hOW).trans oW; have xm0 := (hx.cell ⟨M, 0, none⟩ hMW).trans mW0; have xm1 := (hx.cell ⟨M, 1, none⟩ hMW).trans mW1; have xm2 := (hx.cell ⟨M, 2, none⟩ hMW).trans mW2; have xm3 := (hx.cell ⟨M, 3, none⟩ hMW).trans mW3; have xm4 := (hx.cell ⟨M, 4, none⟩ hMW).trans mW4; go_simp;first|done|with_reducible rfl
   simp only [Act.put, nA, nB, nC];refine Zce 10 (by kernel_rfl) rfl rfl ?_;go_wp2_with fail;refine (Zfp r.aA[j].aJ _ F W (by omega) HIW.o).mono ?_;rintro e w8 ⟨v8, rfl, hr8, hb8⟩;obtain ⟨A8, c8, rfl, _⟩ := id hr8;go_wp2_with fail;refine ⟨hb8, ?_⟩;refine Zce 13 (by kernel_rfl) rfl rfl ?_;go_wp2_with fail;refine (Zfp r.aA[j].aK _ F w8 (by omega) (HYW.o.later Zb hb8)).mono ?_;rintro e w9 ⟨v9, rfl, hr9, hb9⟩;obtain ⟨A9, c9, rfl, _⟩ := id hr9;go_wp2_with fail;refine ⟨hb9, ?_⟩;refine tU 14 44 (v := ?_) rfl rfl (fun x hx => ?_) ?_;rotate_left
   ·go_simp;first|done|with_reducible rfl|rw[if_neg (by omega)]|rw[if_pos (by omega)]
   simp only [Act.put, nA, nB, nC];refine Zce 15 (by kernel_rfl) rfl rfl ?_;go_wp2_with fail;refine ⟨(Za.refl _).alloc _, ?_⟩;refine Zbl [_, _, _] (by kernel_rfl) rfl rfl ?_;simp only [List.getElem_toArray, List.getElem_cons_succ, List.getElem_cons_zero];have HL5 := zh (show Za wr _ from ((HLW.o.trans hb8).trans hb9).trans ((Za.refl w9).alloc (.cells #[.int .i64 r.aA[j].kind, .int .i64 r.aA[j].tag, .int .i64 r.aA[j].aI, .slice A8 r.aA[j].aJ.length c8, .slice A9 r.aA[j].aK.length c9] 94)));have hws : wr.heap.size ≤ W.heap.size := HLW.o.size;have HR8 := zh (((hr8.trim Zn).later Zn.is hb9).keep Zn.is (G := fun b => wr.heap.size ≤ b ∧ b < w8.heap.size) (fun b h => ⟨by have := h.1; omega, h.2⟩) (Zc.refl _ _));have HR9 := zh (hr9.keep Zn.is (G := fun b => w8.heap.size ≤ b) (fun b h => h) (Zc.refl _ _));have HW8 := zh (show wr.heap.size ≤ w8.heap.size by have := Below.size hb8; omega);clear hr8 hr9 hb8 hb9;refine Zdc _ rfl _ _ 26 rfl B0 94 iObjectS (.agg #[.int .i64 0, .int .i64 0, .int .i64 0, .slice none 0 0, .slice none 0 0]) 5 72 Tryz.underlying26 hiObjectS hzObjectS0 hzObjectS1 hzObjectS2 rfl _ dl.length xs rfl (HAT.o.keep Zq.is (Zc.later HL5.o)).row ⟨w9.heap.size, 0, none⟩ 1 1 [.int .i64 r.aA[j].kind, .int .i64 r.aA[j].tag, .int .i64 r.aA[j].aI, .slice A8 r.aA[j].aJ.length c8, .slice A9 r.aA[j].aK.length c9] rfl rfl (Zg6 _ _ _) (by simp [Value.oneCell']) (by decide) (by unfold maxLen; omega) (by omega) (by have := HL5.o.size; omega) ?_
   intro v10 w10 hown hg hn;obtain ⟨A10, c10, hv10, _, _⟩ := hown.form;subst hv10;have hO10 := (hg.block _ (Nat.lt_of_lt_of_le (Zd HOr.o) HL5.o.size) (fun e => by have := (HAT.o.row.lt _ e.symm).1; omega)).trans ((HL5.o.block _ (Zd HOr.o)).trans HOr.o);have ox2 := cq hO10 2;have fox2 := fz hO10;simp only [nD, nE, nF] at ox2;have HE := zh (show Zbx (fun y => wr.heap.size ≤ y) (w9.alloc (.cells #[.int .i64 r.aA[j].kind, .int .i64 r.aA[j].tag, .int .i64 r.aA[j].aI, .slice A8 r.aA[j].aJ.length c8, .slice A9 r.aA[j].aK.length c9] 94)) r.aA[j] [.int .i64 r.aA[j].kind, .int .i64 r.aA[j].tag, .int .i64 r.aA[j].aI, .slice A8 r.aA[j].aJ.length c8, .slice A9 r.aA[j].aK.length c9] from ⟨fun b => if b < w8.heap.size then 0 else 1, _, _, rfl, HK0.o, HK1.o, HK2.o, (HR8.o.later Zn.is ((Za.refl w9).alloc (.cells #[.int .i64 r.aA[j].kind, .int .i64 r.aA[j].tag, .int .i64 r.aA[j].aI, .slice A8 r.aA[j].aJ.length c8, .slice A9 r.aA[j].aK.length c9] 94))).keep Zn.is (fun b h => ⟨by omega, by show (if b < w8.heap.size then 0 else 1) = 0; rw [if_pos h.2]⟩) (Zc.refl _ _), (HR9.o.later Zn.is ((Za.refl w9).alloc (.cells #[.int .i64 r.aA[j].kind, .int .i64 r.aA[j].tag, .int .i64 r.aA[j].aI, .slice A8 r.aA[j].aJ.length c8, .slice A9 r.aA[j].aK.length c9] 94))).keep Zn.is (fun b h => ⟨by have := HW8.o; omega, by show (if b < w8.heap.size then 0 else 1) = 1; rw [if_neg (by omega)]⟩) (Zc.refl _ _)⟩)
   have HSO2 := zh ((HAT.o.push Zq (Zc.later HL5.o) hwb HE.o hown hg hn).keep Zq.is ((Zc.refl _ _).set (B := w.heap.size + 2) (by omega) 2 (.slice A10 (dl.length + 1) c10)));have HO2 := zh (Zax (o := 2) hO10 (.slice A10 (dl.length + 1) c10));simp only [List.setIfInBounds_toArray, List.set_cons_zero, List.set_cons_succ] at HO2;have HB6 := zh (((HBr.o.trans (Below.mono HL5.o HBr.o.size)).grown hg (by have := HL5.o.size; have := HBr.o.size; omega) (fun g hg' => by have := (HAT.o.row.lt g hg').1; omega)).setCell (p := ⟨w.heap.size + 2, 2, none⟩) (by simp) (.slice A10 (dl.length + 1) c10));have HK6 := zh (((HKX.o.trans (Zc.later HL5.o)).trans ⟨hg.size, fun k hk hlt => hg.block k hlt (fun e => by have := (HAT.o.row.lt k e.symm).1; have := hk.2; omega)⟩).set (B := w.heap.size + 2) (fun h => h.1 rfl) 2 (.slice A10 (dl.length + 1) c10));have HDL6 := zh (show dl ++ [r.aA[j]] = r.aA.take (j + 1) by rw [HDL.o, List.take_succ_eq_append_getElem hlt]);clear hown hg hn hO10;go_wp2_with fail
   go_roundw
   case rel => exact ⟨j + 1, _, _, by go_num, by omega, HDL6, HO2.o, HSO2.o, HK6.o, HB6.o⟩
   case measure => simp [intOf]; omega
  ·have hjl : j = r.aA.length := by omega
   have hdl : dl = r.aA := by rw [HDL.o, hjl, List.take_length]
   subst hdl;have hr2 := hso.row Zq;obtain ⟨A2, c2, rfl, _⟩ := id hr2;have hkxs := hkx.size;have HR2 := zh ((hr2.trim Zq).keep Zq.is (G := fun b => w1.heap.size ≤ b ∧ b < wr.heap.size) (fun b h => ⟨by have := h.1; have := HBN.o; omega, h.2⟩) (Zc.refl _ _));have HM2 := zh (show w.heap.size + 3 ≤ w1.heap.size ∧ w1.heap.size ≤ wr.heap.size from ⟨by have := HM1.o; omega, by have := HBN.o; have := HB0.o; omega⟩);replace HP := HPr;replace HZ := zh ((hkx.same _ ⟨hne2, by omega⟩ (Zd HZ.o)).trans HZ.o);replace HR0 := zh (HR0.o.keep Zg.is (fun _ h => h) (hkx.mono fun b h => ⟨by have := HM0.o; omega, by have := HBN.o; have := HM0.o; have := HM1.o; omega⟩));replace HR1 := zh (HR1.o.keep Zf.is (fun _ h => h) (hkx.mono fun b h => ⟨by have := HM1.o; omega, by have := HBN.o; have := HM0.o; have := HM1.o; omega⟩));replace HO := HOr;replace HB := HBr;replace HN : Hd (wr.heap.size ≤ wr.heap.size) := zh (Nat.le_refl _);clear hkx hkxs hso hr2 hO hbel pr2 HPr HOr HBr HKX hjl HDL;have pr2 := cq HP.o 2;simp only [nD, nE, nF] at pr2;go_upto_region 10 with (fail);clear pr2;have p3 := cq HP.o 3;have o3 := cq HO.o 3;have fo3 := fz HO.o;simp only [nD, nE, nF] at p3 o3;go_wp2_with fail;refine (Zfp r.globals _ F _ (by omega) (Hglobals.o.keep Zb (fun _ h => h) (Zc.later HB.o))).mono ?_;rintro e w3 ⟨v3, rfl, hr3, hb3⟩;obtain ⟨A3, c3, rfl, _⟩ := id hr3;clear p3 o3 fo3;have hlo3 := Below.size hb3;have HR3 := zh ((hr3.trim Zn).keep Zn.is (G := fun b => wr.heap.size ≤ b ∧ b < w3.heap.size) (fun b h => ⟨by have := h.1; have := HN.o; have := hlo3; omega, h.2⟩) (Zc.refl _ _))
   have HM3 := zh (show w.heap.size + 3 ≤ wr.heap.size ∧ wr.heap.size ≤ w3.heap.size from ⟨by have := HM2.o; omega, by have := HN.o; have := hlo3; omega⟩);replace HP := zC hb3 HP;replace HZ := zC hb3 HZ;replace HO := zC hb3 HO;replace HB := zh (HB.o.trans (Below.mono hb3 HB.o.size));replace HR0 := zh (HR0.o.later Zg.is hb3);replace HR1 := zh (HR1.o.later Zf.is hb3);replace HR2 := zh (HR2.o.later Zq.is hb3);replace HN : Hd (w3.heap.size ≤ w3.heap.size) := zh (Nat.le_refl _);clear hr3 hb3 hlo3;have o3 := cq HO.o 3;have fo3 := fz HO.o;simp only [nD, nE, nF] at o3;go_upto_region 11 with (fail);clear o3 fo3;replace HO := zh (Zax (o := 3) HO.o (.slice A3 r.globals.length c3));simp only [List.setIfInBounds_toArray, List.set_cons_zero, List.set_cons_succ] at HO;replace HP := zh ((Below.heap_setCell _ ⟨w.heap.size + 2, 3, none⟩ (.slice A3 r.globals.length c3) _ hne1).trans HP.o);replace HZ := zh ((Below.heap_setCell _ ⟨w.heap.size + 2, 3, none⟩ (.slice A3 r.globals.length c3) _ hne2).trans HZ.o);replace HB := zh (HB.o.setCell (p := ⟨w.heap.size + 2, 3, none⟩) (by simp) (.slice A3 r.globals.length c3));replace HR0 := zh (HR0.o.keep Zg.is (fun _ h => h) ((Zc.refl _ _).set (B := w.heap.size + 2) (by have := HM0.o; omega) 3 (.slice A3 r.globals.length c3)));replace HR1 := zh (HR1.o.keep Zf.is (fun _ h => h) ((Zc.refl _ _).set (B := w.heap.size + 2) (by have := HM1.o; omega) 3 (.slice A3 r.globals.length c3)));replace HR2 := zh (HR2.o.keep Zq.is (fun _ h => h) ((Zc.refl _ _).set (B := w.heap.size + 2) (by have := HM2.o; omega) 3 (.slice A3 r.globals.length c3)))
   replace HR3 := zh (HR3.o.keep Zn.is (fun _ h => h) ((Zc.refl _ _).set (B := w.heap.size + 2) (by have := HM3.o; omega) 3 (.slice A3 r.globals.length c3)));replace HN := zh (show _ ≤ _ from Nat.le_trans HN.o ((Zc.refl (fun _ => False) _).set (B := w.heap.size + 2) (fun h => h) 3 (.slice A3 r.globals.length c3)).size);obtain ⟨x4, hx⟩ : ∃ x, x = w3.setCell ⟨w.heap.size + 2, 3, none⟩ (.slice A3 r.globals.length c3) := ⟨_, rfl⟩;rw [← hx] at HP HZ HO HB HN HR0 HR1 HR2 HR3 ⊢;clear hx;have p6 := cq HP.o 6;have o6 := cq HO.o 6;have fo6 := fz HO.o;simp only [nD, nE, nF] at p6 o6;have pa6 := (((Za.refl x4).alloc (.cells #[] 9)).cell ⟨w.heap.size, 6, none⟩ (Zd HP.o)).trans p6;have HS := zh (Houtput.o.keep Z4 (fun _ h => h) (Zc.later (HB.o.trans (Below.mono ((Za.refl x4).alloc (.cells #[] 9)) HB.o.size))))
   go_upto_region 12 with (at_builtin; refine Zao Zdf (by decide) rfl _ _ 24 rfl 9 iStringS (.string ⟨#[]⟩) 16 Tryz.underlying24 hiStringS hzStringS0 hzStringS1 hzStringS2 rfl rfl (Zy (by simp)) rfl HS.o (by omega) (by decide) ?_; intro v6 w6 hr6 hl6; obtain ⟨A6, c6, rfl, _⟩ := id hr6; have hlx := ((Za.refl x4).alloc (.cells #[] 9)).trans hl6; have o6x := (hlx.cell _ (Zd HO.o)).trans o6; have fo6x := frozen_of_row _ (w.heap.size + 2) 6 _ _ ((hlx.block _ (Zd HO.o)).trans HO.o); clear o6 fo6)
   clear pa6 p6 HS o6x fo6x;have hlo6 := hlx.size;have hbs6 : x4.heap.size + 1 ≤ w6.heap.size := by have := hl6.size; simpa using this
   have HR6 := zh ((hr6.trim Zg).keep Zg.is (G := fun b => w3.heap.size ≤ b ∧ b < w6.heap.size) (fun b h => ⟨by have := h.1; have := HN.o; have : x4.heap.size ≤ (x4.alloc (.cells #[] 9)).heap.size := (by simp); have := hbs6; omega, h.2⟩) (Zc.refl _ _));have HM6 := zh (show w.heap.size + 3 ≤ w3.heap.size ∧ w3.heap.size ≤ w6.heap.size from ⟨by have := HM3.o; omega, by have := HN.o; have : x4.heap.size ≤ (x4.alloc (.cells #[] 9)).heap.size := (by simp); have := hbs6; omega⟩);replace HP := zC hlx HP;replace HZ := zC hlx HZ;replace HO := zC hlx HO;replace HB := zh (HB.o.trans (Below.mono hlx HB.o.size));replace HR0 := zh (HR0.o.later Zg.is hlx);replace HR1 := zh (HR1.o.later Zf.is hlx);replace HR2 := zh (HR2.o.later Zq.is hlx);replace HR3 := zh (HR3.o.later Zn.is hlx);replace HN : Hd (w6.heap.size ≤ w6.heap.size) := zh (Nat.le_refl _);clear hr6 hl6 hlx hlo6 hbs6;replace HO := zh (Zax (o := 6) HO.o (.slice A6 r.output.length c6));simp only [List.setIfInBounds_toArray, List.set_cons_zero, List.set_cons_succ] at HO;replace HP := zh ((Below.heap_setCell _ ⟨w.heap.size + 2, 6, none⟩ (.slice A6 r.output.length c6) _ hne1).trans HP.o);replace HZ := zh ((Below.heap_setCell _ ⟨w.heap.size + 2, 6, none⟩ (.slice A6 r.output.length c6) _ hne2).trans HZ.o);replace HB := zh (HB.o.setCell (p := ⟨w.heap.size + 2, 6, none⟩) (by simp) (.slice A6 r.output.length c6));replace HR0 := zh (HR0.o.keep Zg.is (fun _ h => h) ((Zc.refl _ _).set (B := w.heap.size + 2) (by have := HM0.o; omega) 6 (.slice A6 r.output.length c6)))
   replace HR1 := zh (HR1.o.keep Zf.is (fun _ h => h) ((Zc.refl _ _).set (B := w.heap.size + 2) (by have := HM1.o; omega) 6 (.slice A6 r.output.length c6)));replace HR2 := zh (HR2.o.keep Zq.is (fun _ h => h) ((Zc.refl _ _).set (B := w.heap.size + 2) (by have := HM2.o; omega) 6 (.slice A6 r.output.length c6)));replace HR3 := zh (HR3.o.keep Zn.is (fun _ h => h) ((Zc.refl _ _).set (B := w.heap.size + 2) (by have := HM3.o; omega) 6 (.slice A6 r.output.length c6)));replace HR6 := zh (HR6.o.keep Zg.is (fun _ h => h) ((Zc.refl _ _).set (B := w.heap.size + 2) (by have := HM6.o; omega) 6 (.slice A6 r.output.length c6)));replace HN := zh (show _ ≤ _ from Nat.le_trans HN.o ((Zc.refl (fun _ => False) _).set (B := w.heap.size + 2) (fun h => h) 6 (.slice A6 r.output.length c6)).size);obtain ⟨x5, hx⟩ : ∃ x, x = w6.setCell ⟨w.heap.size + 2, 6, none⟩ (.slice A6 r.output.length c6) := ⟨_, rfl⟩;rw [← hx] at HP HZ HO HB HN HR0 HR1 HR2 HR3 HR6 ⊢;clear hx;have p7 := cq HP.o 7;have o7 := cq HO.o 7;have fo7 := fz HO.o;simp only [nD, nE, nF] at p7 o7;have pa7 := (((Za.refl x5).alloc (.cells #[] 9)).cell ⟨w.heap.size, 7, none⟩ (Zd HP.o)).trans p7;have HS := zh (Htrace.o.keep Z4 (fun _ h => h) (Zc.later (HB.o.trans (Below.mono ((Za.refl x5).alloc (.cells #[] 9)) HB.o.size))))
   go_upto_region 13 with (at_builtin; refine Zao Zdf (by decide) rfl _ _ 24 rfl 9 iStringS (.string ⟨#[]⟩) 16 Tryz.underlying24 hiStringS hzStringS0 hzStringS1 hzStringS2 rfl rfl (Zy (by simp)) rfl HS.o (by omega) (by decide) ?_; intro v7 w7 hr7 hl7; obtain ⟨A7, c7, rfl, _⟩ := id hr7; have hlx := ((Za.refl x5).alloc (.cells #[] 9)).trans hl7; have o7x := (hlx.cell _ (Zd HO.o)).trans o7; have fo7x := frozen_of_row _ (w.heap.size + 2) 7 _ _ ((hlx.block _ (Zd HO.o)).trans HO.o); clear o7 fo7)
   clear pa7 p7 HS o7x fo7x;have hlo7 := hlx.size;have hbs7 : x5.heap.size + 1 ≤ w7.heap.size := by have := hl7.size; simpa using this
   have HR7 := zh ((hr7.trim Zg).keep Zg.is (G := fun b => w6.heap.size ≤ b ∧ b < w7.heap.size) (fun b h => ⟨by have := h.1; have := HN.o; have : x5.heap.size ≤ (x5.alloc (.cells #[] 9)).heap.size := (by simp); have := hbs7; omega, h.2⟩) (Zc.refl _ _));have HM7 := zh (show w.heap.size + 3 ≤ w6.heap.size ∧ w6.heap.size ≤ w7.heap.size from ⟨by have := HM6.o; omega, by have := HN.o; have : x5.heap.size ≤ (x5.alloc (.cells #[] 9)).heap.size := (by simp); have := hbs7; omega⟩);replace HP := zC hlx HP;replace HZ := zC hlx HZ;replace HO := zC hlx HO;replace HB := zh (HB.o.trans (Below.mono hlx HB.o.size));replace HR0 := zh (HR0.o.later Zg.is hlx);replace HR1 := zh (HR1.o.later Zf.is hlx);replace HR2 := zh (HR2.o.later Zq.is hlx);replace HR3 := zh (HR3.o.later Zn.is hlx);replace HR6 := zh (HR6.o.later Zg.is hlx);replace HN : Hd (w7.heap.size ≤ w7.heap.size) := zh (Nat.le_refl _);clear hr7 hl7 hlx hlo7 hbs7;replace HO := zh (Zax (o := 7) HO.o (.slice A7 r.trace.length c7));simp only [List.setIfInBounds_toArray, List.set_cons_zero, List.set_cons_succ] at HO;replace HP := zh ((Below.heap_setCell _ ⟨w.heap.size + 2, 7, none⟩ (.slice A7 r.trace.length c7) _ hne1).trans HP.o);replace HZ := zh ((Below.heap_setCell _ ⟨w.heap.size + 2, 7, none⟩ (.slice A7 r.trace.length c7) _ hne2).trans HZ.o);replace HB := zh (HB.o.setCell (p := ⟨w.heap.size + 2, 7, none⟩) (by simp) (.slice A7 r.trace.length c7));replace HR0 := zh (HR0.o.keep Zg.is (fun _ h => h) ((Zc.refl _ _).set (B := w.heap.size + 2) (by have := HM0.o; omega) 7 (.slice A7 r.trace.length c7)))
   replace HR1 := zh (HR1.o.keep Zf.is (fun _ h => h) ((Zc.refl _ _).set (B := w.heap.size + 2) (by have := HM1.o; omega) 7 (.slice A7 r.trace.length c7)));replace HR2 := zh (HR2.o.keep Zq.is (fun _ h => h) ((Zc.refl _ _).set (B := w.heap.size + 2) (by have := HM2.o; omega) 7 (.slice A7 r.trace.length c7)));replace HR3 := zh (HR3.o.keep Zn.is (fun _ h => h) ((Zc.refl _ _).set (B := w.heap.size + 2) (by have := HM3.o; omega) 7 (.slice A7 r.trace.length c7)));replace HR6 := zh (HR6.o.keep Zg.is (fun _ h => h) ((Zc.refl _ _).set (B := w.heap.size + 2) (by have := HM6.o; omega) 7 (.slice A7 r.trace.length c7)));replace HR7 := zh (HR7.o.keep Zg.is (fun _ h => h) ((Zc.refl _ _).set (B := w.heap.size + 2) (by have := HM7.o; omega) 7 (.slice A7 r.trace.length c7)));replace HN := zh (show _ ≤ _ from Nat.le_trans HN.o ((Zc.refl (fun _ => False) _).set (B := w.heap.size + 2) (fun h => h) 7 (.slice A7 r.trace.length c7)).size);obtain ⟨x6, hx⟩ : ∃ x, x = w7.setCell ⟨w.heap.size + 2, 7, none⟩ (.slice A7 r.trace.length c7) := ⟨_, rfl⟩;rw [← hx] at HP HZ HO HB HN HR0 HR1 HR2 HR3 HR6 HR7 ⊢;clear hx;have p8 := cq HP.o 8;have o8 := cq HO.o 8;have fo8 := fz HO.o;simp only [nD, nE, nF] at p8 o8;have pa8 := (((Za.refl x6).alloc (.cells #[] 89)).cell ⟨w.heap.size, 8, none⟩ (Zd HP.o)).trans p8;have HS := zh (Hactives.o.keep Zba (fun _ h => h) (Zc.later (HB.o.trans (Below.mono ((Za.refl x6).alloc (.cells #[] 89)) HB.o.size))))
   go_upto_region 14 with (at_builtin; refine Zao Zhk (by decide) rfl _ _ 28 rfl 89 iActiveS (.agg #[.int .i64 0, .int .i64 0]) 16 Tryz.underlying28 hiActiveS hzActiveS0 hzActiveS1 hzActiveS2 rfl rfl (Zy (by simp)) rfl HS.o (by omega) (by decide) ?_; intro v8 w8 hr8 hl8; obtain ⟨A8, c8, rfl, _⟩ := id hr8; have hlx := ((Za.refl x6).alloc (.cells #[] 89)).trans hl8; have o8x := (hlx.cell _ (Zd HO.o)).trans o8; have fo8x := frozen_of_row _ (w.heap.size + 2) 8 _ _ ((hlx.block _ (Zd HO.o)).trans HO.o); clear o8 fo8)
   clear pa8 p8 HS o8x fo8x;have hlo8 := hlx.size;have hbs8 : x6.heap.size + 1 ≤ w8.heap.size := by have := hl8.size; simpa using this
   have HR8 := zh ((hr8.trim Zah).keep Zah.is (G := fun b => w7.heap.size ≤ b ∧ b < w8.heap.size) (fun b h => ⟨by have := h.1; have := HN.o; have : x6.heap.size ≤ (x6.alloc (.cells #[] 89)).heap.size := (by simp); have := hbs8; omega, h.2⟩) (Zc.refl _ _));have HM8 := zh (show w.heap.size + 3 ≤ w7.heap.size ∧ w7.heap.size ≤ w8.heap.size from ⟨by have := HM7.o; omega, by have := HN.o; have : x6.heap.size ≤ (x6.alloc (.cells #[] 89)).heap.size := (by simp); have := hbs8; omega⟩);replace HP := zC hlx HP;replace HZ := zC hlx HZ;replace HO := zC hlx HO;replace HB := zh (HB.o.trans (Below.mono hlx HB.o.size));replace HR0 := zh (HR0.o.later Zg.is hlx);replace HR1 := zh (HR1.o.later Zf.is hlx);replace HR2 := zh (HR2.o.later Zq.is hlx);replace HR3 := zh (HR3.o.later Zn.is hlx);replace HR6 := zh (HR6.o.later Zg.is hlx);replace HR7 := zh (HR7.o.later Zg.is hlx);replace HN : Hd (w8.heap.size ≤ w8.heap.size) := zh (Nat.le_refl _);clear hr8 hl8 hlx hlo8 hbs8;replace HO := zh (Zax (o := 8) HO.o (.slice A8 r.aE.length c8));simp only [List.setIfInBounds_toArray, List.set_cons_zero, List.set_cons_succ] at HO;replace HP := zh ((Below.heap_setCell _ ⟨w.heap.size + 2, 8, none⟩ (.slice A8 r.aE.length c8) _ hne1).trans HP.o);replace HZ := zh ((Below.heap_setCell _ ⟨w.heap.size + 2, 8, none⟩ (.slice A8 r.aE.length c8) _ hne2).trans HZ.o);replace HB := zh (HB.o.setCell (p := ⟨w.heap.size + 2, 8, none⟩) (by simp) (.slice A8 r.aE.length c8))
   replace HR0 := zh (HR0.o.keep Zg.is (fun _ h => h) ((Zc.refl _ _).set (B := w.heap.size + 2) (by have := HM0.o; omega) 8 (.slice A8 r.aE.length c8)));replace HR1 := zh (HR1.o.keep Zf.is (fun _ h => h) ((Zc.refl _ _).set (B := w.heap.size + 2) (by have := HM1.o; omega) 8 (.slice A8 r.aE.length c8)));replace HR2 := zh (HR2.o.keep Zq.is (fun _ h => h) ((Zc.refl _ _).set (B := w.heap.size + 2) (by have := HM2.o; omega) 8 (.slice A8 r.aE.length c8)));replace HR3 := zh (HR3.o.keep Zn.is (fun _ h => h) ((Zc.refl _ _).set (B := w.heap.size + 2) (by have := HM3.o; omega) 8 (.slice A8 r.aE.length c8)));replace HR6 := zh (HR6.o.keep Zg.is (fun _ h => h) ((Zc.refl _ _).set (B := w.heap.size + 2) (by have := HM6.o; omega) 8 (.slice A8 r.aE.length c8)));replace HR7 := zh (HR7.o.keep Zg.is (fun _ h => h) ((Zc.refl _ _).set (B := w.heap.size + 2) (by have := HM7.o; omega) 8 (.slice A8 r.aE.length c8)));replace HR8 := zh (HR8.o.keep Zah.is (fun _ h => h) ((Zc.refl _ _).set (B := w.heap.size + 2) (by have := HM8.o; omega) 8 (.slice A8 r.aE.length c8)));replace HN := zh (show _ ≤ _ from Nat.le_trans HN.o ((Zc.refl (fun _ => False) _).set (B := w.heap.size + 2) (fun h => h) 8 (.slice A8 r.aE.length c8)).size);obtain ⟨x7, hx⟩ : ∃ x, x = w8.setCell ⟨w.heap.size + 2, 8, none⟩ (.slice A8 r.aE.length c8) := ⟨_, rfl⟩;rw [← hx] at HP HZ HO HB HN HR0 HR1 HR2 HR3 HR6 HR7 HR8 ⊢
   clear hx;have z0 := Zae HZ.o;obtain ⟨o0, o1, o2, o3, o4, o5, o6, o7, o8, o9, o10, o11, o12⟩ := Zae HO.o;have fz0 := fz HZ.o;go_wp2_with fail;refine bodyPost_ret (v := .agg #[.slice A0 r.names.length c0, .slice A1 r.aB.length c1, .slice A2 r.aA.length c2, .slice A3 r.globals.length c3, .string r.aC, .int .i64 r.aD, .slice A6 r.output.length c6, .slice A7 r.trace.length c7, .slice A8 r.aE.length c8, .bool r.aF, .int .i64 r.ticks, .int .i64 r.aG, .int .i64 r.made]) (by simp [results, Tryz.results77, go_sem, z0, o0, fz0, o1, o2, o3, o4, o5, o6, o7, o8, o9, o10, o11, o12, hne3]) rfl ⟨[.slice A0 r.names.length c0, .slice A1 r.aB.length c1, .slice A2 r.aA.length c2, .slice A3 r.globals.length c3, .string r.aC, .int .i64 r.aD, .slice A6 r.output.length c6, .slice A7 r.trace.length c7, .slice A8 r.aE.length c8, .bool r.aF, .int .i64 r.ticks, .int .i64 r.aG, .int .i64 r.made], rfl, ?_, (((((((((((((HB.o.setCell (p := ⟨w.heap.size + 1, 0, none⟩) (by simp) _).setCell (p := ⟨w.heap.size + 1, 1, none⟩) (by simp) _).setCell (p := ⟨w.heap.size + 1, 2, none⟩) (by simp) _).setCell (p := ⟨w.heap.size + 1, 3, none⟩) (by simp) _).setCell (p := ⟨w.heap.size + 1, 4, none⟩) (by simp) _).setCell (p := ⟨w.heap.size + 1, 5, none⟩) (by simp) _).setCell (p := ⟨w.heap.size + 1, 6, none⟩) (by simp) _).setCell (p := ⟨w.heap.size + 1, 7, none⟩) (by simp) _).setCell (p := ⟨w.heap.size + 1, 8, none⟩) (by simp) _).setCell (p := ⟨w.heap.size + 1, 9, none⟩) (by simp) _).setCell (p := ⟨w.heap.size + 1, 10, none⟩) (by simp) _).setCell (p := ⟨w.heap.size + 1, 11, none⟩) (by simp) _).setCell (p := ⟨w.heap.size + 1, 12, none⟩) (by simp) _)⟩
   have := HM0.o; have := HM1.o; have := HM2.o; have := HM3.o; have := HM6.o; have := HM7.o; have := HM8.o;have kk := Z5 (F := fun y => y ≠ w.heap.size + 1) (fun h => h rfl) [.slice A0 r.names.length c0, .slice A1 r.aB.length c1, .slice A2 r.aA.length c2, .slice A3 r.globals.length c3, .string r.aC, .int .i64 r.aD, .slice A6 r.output.length c6, .slice A7 r.trace.length c7, .slice A8 r.aE.length c8, .bool r.aF, .int .i64 r.ticks, .int .i64 r.aG, .int .i64 r.made] x7 0 (Zc.refl _ _);simp only [Zp, Nat.zero_add, Nat.reduceAdd] at kk;exact ⟨(fun y => if y < w0.heap.size then 0 else if y < w1.heap.size then 1 else if y < wr.heap.size then 2 else if y < w3.heap.size then 3 else if y < w6.heap.size then 4 else if y < w7.heap.size then 5 else (6 : Nat)), _, _, _, _, _, _, _, rfl, HR0.o.keep Zg.is (fun b h => ⟨by have := h.1; omega, by have := h.1; have := h.2; dsimp only; (repeat' split) <;> omega⟩) (kk.mono fun b h => by have := h.1; have := h.2; omega), HR1.o.keep Zf.is (fun b h => ⟨by have := h.1; omega, by have := h.1; have := h.2; dsimp only; (repeat' split) <;> omega⟩) (kk.mono fun b h => by have := h.1; have := h.2; omega), HR2.o.keep Zq.is (fun b h => ⟨by have := h.1; omega, by have := h.1; have := h.2; dsimp only; (repeat' split) <;> omega⟩) (kk.mono fun b h => by have := h.1; have := h.2; omega), HR3.o.keep Zn.is (fun b h => ⟨by have := h.1; omega, by have := h.1; have := h.2; dsimp only; (repeat' split) <;> omega⟩) (kk.mono fun b h => by have := h.1; have := h.2; omega), Hsubject.o, Hposition.o, HR6.o.keep Zg.is (fun b h => ⟨by have := h.1; omega, by have := h.1; have := h.2; dsimp only; (repeat' split) <;> omega⟩) (kk.mono fun b h => by have := h.1; have := h.2; omega), HR7.o.keep Zg.is (fun b h => ⟨by have := h.1; omega, by have := h.1; have := h.2; dsimp only; (repeat' split) <;> omega⟩) (kk.mono fun b h => by have := h.1; have := h.2; omega), HR8.o.keep Zah.is (fun b h => ⟨by have := h.1; omega, by have := h.1; have := h.2; dsimp only; (repeat' split) <;> omega⟩) (kk.mono fun b h => by have := h.1; have := h.2; omega), Hticks.o, Hbudget.o, Hmade.o⟩
/-! ### The text of a mark -/
def dch (z : Int) : ByteArray := ⟨[UInt8.ofNat (48 + z % 10).toNat].toArray⟩
def Zi1 : Nat → Int → ByteArray → ByteArray
 | 0, _, t => t
 | f + 1, z, t => if z = 0 then t else Zi1 f (z / 10) (dch z ++ t)
def Zcp (k : Int) : ByteArray := ⟨#[109]⟩ ++ Zi1 k.toNat k ⟨#[]⟩
theorem Zqf {f : Nat} {z : Int} {t : ByteArray} (hz : 0 < z) (hf : z ≤ f) : Zi1 f z t = Zi1 (f - 1) (z / 10) (dch z ++ t) := by
 cases f with
 | zero => omega
 | succ f => simp only [Zi1]; rw [if_neg (by omega)]; rfl
theorem Zqg (f : Nat) (t : ByteArray) : Zi1 f 0 t = t := by cases f <;> simp [Zi1]
theorem Zld : ∀ (f : Nat) (z : Int) (t : ByteArray), 0 ≤ z → (z ≤ f) → ((Zi1 f z t).size : Int) ≤ t.size + z
 | 0, z, t, h0, hf => by simp only [Zi1]; omega
 | f + 1, z, t, h0, hf => by
  simp only [Zi1]
  split
  ·omega
  ·have := Zld f (z / 10) (dch z ++ t) (by omega) (by omega);have h1 : (dch z).size = 1 := rfl;rw [ByteArray.size_append, h1] at this
   push_cast at this
   omega
theorem Zhs {k : Int} (h : 1 ≤ k) : ((Zcp k).size : Int) ≤ k + 1 := by
 unfold Zcp;have := Zld k.toNat k ⟨#[]⟩ (by omega) (by omega);have h0 : (⟨#[]⟩ : ByteArray).size = 0 := rfl;have h1 : (⟨#[109]⟩ : ByteArray).size = 1 := rfl;rw [ByteArray.size_append, h1]
 push_cast
 omega
theorem Zsf (x : Int) (h0 : 0 ≤ x) (h1 : x < 256) (w : World) : (convert 22 9 (.slice (some ⟨w.heap.size, 0, none⟩) 1 1)).run Tryz.prog (w.alloc (.cells #[.int .u8 x] 5)) = .ok (.string ⟨[UInt8.ofNat x.toNat].toArray⟩) (w.alloc (.cells #[.int .u8 x] 5)) := by
 have hx : (((UInt8.ofNat x.toNat).toNat : Nat) : Int) = x := by
  rw [UInt8.toNat_ofNat', Nat.mod_eq_of_lt (by omega)]; omega
 exact run_convert_bytes_back (w.alloc (.cells #[.int .u8 x] 5)) 22 9 5 ⟨w.heap.size, 0, none⟩ 1 [UInt8.ofNat x.toNat] Tryz.underlying22 Tryz.underlying5 Tryz.underlying9 (fun j hj => by
  obtain rfl : j = 0 := by simp at hj; omega
  simp [Addr.add]
  omega)
theorem Zdk (k : Int) (w : World) (hk : 1 ≤ k) (hk1 : k ≤ 1099511627776) :
  Calls Tryz.prog 76 #[.int .i64 k] w fun e w' => e = .returned (.string (Zcp k)) ∧ Below w.heap.size w w' := by
 have t1 : decide (k ≤ 0) = false := by simp; omega
 go_enter Tryz.func76, Tryz.ntmps76;go_wp2_with fail
 go_loopw [0, 3] (fun kv out wr => ∃ (z : Int) (t : ByteArray) (f : Nat), kv = .int .i64 z ∧ out = .string t ∧ 0 ≤ z ∧ (t.size : Int) + z ≤ k ∧ z ≤ f ∧ Zi1 f z t = Zi1 k.toNat k ⟨#[]⟩ ∧ Below w.heap.size w wr) (fun kv _ _ => (intOf kv).toNat)
 case atStart => exact ⟨k, ⟨#[]⟩, k.toNat, rfl, rfl, by omega, by show ((0 : Nat) : Int) + k ≤ k; omega, by omega, rfl, Below.refl _ _⟩
 case round =>
  obtain ⟨z, t, f, rfl, rfl, hz, ht, hf, hd, hbel⟩ := hrel;have hsz := hbel.size;have HD := zh hd;clear hd
  by_cases hlt : 0 < z
  ·have hcv := Zsf (48 + z % 10) (by omega) (by omega) wr;obtain ⟨s, hs⟩ : ∃ s : ByteArray, ⟨[UInt8.ofNat (48 + z % 10).toNat].toArray⟩ = s := ⟨_, rfl⟩;have hs1 : s.size = 1 := by rw [← hs]; rfl
   rw [hs] at hcv;have HS := zh hs;have HS1 := zh hs1;have hcat : ¬ (9223372036854775807 : Int) < (s.size : Int) + (t.size : Int) := by omega
   clear hs hs1;go_wp2_with fail
   go_roundw
   case rel => exact ⟨z / 10, s ++ t, f - 1, rfl, rfl, by omega, by rw [ByteArray.size_append, HS1.o]; omega, by omega, by rw [← HD.o, Zqf hlt hf, ← HS.o]; rfl, hbel.alloc hsz _⟩
   case measure => simp [intOf]; omega
  ·obtain rfl : z = 0 := by omega
   have hcat : ¬ (9223372036854775807 : Int) < 1 + (t.size : Int) := by omega
   have HT : Hd (t = Zi1 k.toNat k ⟨#[]⟩) := zh (by rw [← HD.o, Zqg]);go_wp2_with fail;go_ret;exact ⟨by rw [HT.o]; rfl, hbel⟩
def Zfe (_ : ByteArray) (k : Int) : ByteArray := Zcp k
def Zci (r : Zaw) (k : Int) : Zaw := { name := Zcp (k), fields := Zb7 Zfe (fun _ => 1) r.fields (k + 1), line := (k + 1 + (Zm (fun _ => 1) r.fields : Nat)) }
def Zx (r : Zaw) : Nat := 2 + (Zm (fun _ => 1) r.fields)
def Zcw (_ : Zj) (k : Int) : Zj := { kind := k, aH := k + 1, index := k + 2, text := Zcp (k + 3), set_ := { low := k + 4, high := k + 5 } }
def Z3 (_ : Zj) : Nat := 6
def Zdv (r : Zay) (k : Int) : Zay := { kind := k, tag := k + 1, aI := k + 2, aJ := Zb7 Zcw Z3 r.aJ (k + 3), aK := Zb7 Zcw Z3 r.aK ((k + 3 + (Zm Z3 r.aJ : Nat))) }
def Zab (r : Zay) : Nat := 3 + (Zm Z3 r.aJ + (Zm Z3 r.aK))
def Zdw (_ : Zdd) (k : Int) : Zdd := { routine := k, frame := k + 1 }
def Zal (_ : Zdd) : Nat := 2
def Zle (r : Zh) (k : Int) : Zh := { r with names := Zb7 Zfe (fun _ => 1) r.names (k), aB := Zb7 Zci Zx r.aB (k + (Zm (fun _ => 1) r.names : Nat)), aA := Zb7 Zdv Zab r.aA (k + (Zm (fun _ => 1) r.names : Nat) + (Zm Zx r.aB : Nat)), globals := Zb7 Zcw Z3 r.globals (k + (Zm (fun _ => 1) r.names : Nat) + (Zm Zx r.aB : Nat) + (Zm Zab r.aA : Nat)), output := Zb7 Zfe (fun _ => 1) r.output (k + (Zm (fun _ => 1) r.names : Nat) + (Zm Zx r.aB : Nat) + (Zm Zab r.aA : Nat) + (Zm Z3 r.globals : Nat)), trace := Zb7 Zfe (fun _ => 1) r.trace (k + (Zm (fun _ => 1) r.names : Nat) + (Zm Zx r.aB : Nat) + (Zm Zab r.aA : Nat) + (Zm Z3 r.globals : Nat) + (Zm (fun _ => 1) r.output : Nat)), aE := Zb7 Zdw Zal r.aE (k + (Zm (fun _ => 1) r.names : Nat) + (Zm Zx r.aB : Nat) + (Zm Zab r.aA : Nat) + (Zm Z3 r.globals : Nat) + (Zm (fun _ => 1) r.output : Nat) + (Zm (fun _ => 1) r.trace : Nat)) }
def Zap (r : Zh) : Nat := Zm (fun _ => 1) r.names + Zm Zx r.aB + Zm Zab r.aA + Zm Z3 r.globals + Zm (fun _ => 1) r.output + Zm (fun _ => 1) r.trace + Zm Zal r.aE
theorem Zdo (l : List ByteArray) (v : Value) (F : Nat → Prop) (w : World) (k : Int) (hk : 1 ≤ k) (hk1 : k + (Zm (fun _ => 1) l : Nat) ≤ 1099511627776) (hr : Zbo Zbp 1 9 F w l v) :
  Calls Tryz.prog 72 #[v, .int .i64 k] w fun e w' => e = .returned (.int .i64 (k + (Zm (fun _ => 1) l : Nat))) ∧ Zbo Zbp 1 9 F w' (Zb7 Zfe (fun _ => 1) l k) v ∧ Zc (fun y => ¬ F y) w w' ∧ Below 0 w w' := by
 have hr0 := hr;obtain ⟨A, cp, rfl, hc, hcm, hel⟩ := hr;have HCM := zh hcm;unfold maxLen at hcm
 by_cases h0 : l.length = 0
 ·obtain rfl : l = [] := List.eq_nil_of_length_eq_zero h0;have HR := zh hr0;clear hel hr0;go_enter Tryz.func72, Tryz.ntmps72;go_wp2_with fail;refine wp_loop_rounds 1 ?_;rw [rounds_succ];go_wp2_with fail;go_ret;exact ⟨by simp [Zm], HR.o, Zc.refl _ _, Below.refl _ _⟩
 clear hr0;obtain ⟨b, o, cur0, tag, rfl, hFb, hb0, hcp, hall⟩ := hel (by omega);have HS0 : Hd (SAt Zbp 1 9 F b o (o + cp * 1) tag w (Ze0 Zfe (fun _ => 1) l k 0)) := zh (by rw [Ze3]; exact ⟨cur0, hb0, hcp.2, hall⟩);have HO0 := zh hcp.1;have HK1 := zh hk1;clear hel hb0 hcp hall hk1;have HFB := zh hFb;go_enter Tryz.func72, Tryz.ntmps72;go_wp2_with fail
 go_loopw [1, 5] (fun kv i wr => ∃ j : Nat, j ≤ l.length ∧ i = .int .i64 j ∧ kv = .int .i64 (k + (Zm (fun _ => 1) (l.take j) : Nat)) ∧ SAt Zbp 1 9 F b o (o + cp * 1) tag wr (Ze0 Zfe (fun _ => 1) l k j) ∧ Zc (fun y => ¬ F y) w wr ∧ Below 0 w wr) (fun _ i _ => l.length - (intOf i).toNat)
 case atStart => exact ⟨0, Nat.zero_le _, rfl, by simp [Zm], HS0.o, Zc.refl _ _, Below.refl _ _⟩
 case round =>
  obtain ⟨j, hj, rfl, rfl, hat, hkw, hk0⟩ := hrel;have HAT := zh hat;have HKW := zh hkw;have HK0W := zh hk0;have HLE := zh (Zbk (fun _ => 1) l j);obtain ⟨y, hy⟩ : ∃ y : Int, k + (Zm (fun _ => 1) (l.take j) : Nat) = y := ⟨_, rfl⟩;have hy1 : 1 ≤ y := by omega
  have hy2 : y ≤ 1099511627776 := by have := HK1.o; have := HLE.o; omega
  rw [hy];have HY := zh hy;clear hy hat hkw hk0 HLE
  by_cases hlt : j < l.length
  ·have hlt' : (j : Int) < l.length := by omega
   have HCT := zh (Zb8 (fun _ => 1) l j hlt);have HCL := zh (Zbk (fun _ => 1) l (j + 1));obtain ⟨cur, cs, hb, hs, hst⟩ := HAT.o.open_ Zg.is (i := j) (by rw [Zar]; exact hlt);rw [Zg1 Zfe (fun _ => 1) l k j hlt] at hs;have HB := zh hb;have HST := zh (hst (by decide));obtain ⟨rfl, _⟩ := hs;clear hst hb;have HK : Hd (Zc (fun y => y ≠ b ∧ ¬ ((F y ∧ y ≠ b) ∧ tag y = j)) wr wr) := zh (Zc.refl _ _);have HK0 : Hd (Below 0 wr wr) := zh (Below.refl _ _);have HCE := zh (show (fun _ : ByteArray => (1 : Nat)) l[j] = 1 from rfl);have n0_1 : y + 1 + 1 = y + 2 := by omega
   go_wp2_with fail;clear  n0_1;refine (Zdk (y) _ (by omega) (by have := HCE.o; have := HCT.o; have := HCL.o; have := HK1.o; have := HY.o; omega)).mono ?_;rintro e w1 ⟨rfl, hb1⟩;replace HST := zh (HST.o.keep (Below.block hb1 _ HST.o.lt));replace HK := zh (HK.o.trans (Zc.later hb1));replace HK0 := zh (HK0.o.trans (Below.mono hb1 (Nat.zero_le _)));clear hb1;have c0 := HST.o.cell (q := 0) rfl;have f0 := HST.o.frozen (o + j);simp only [Nat.add_zero, Nat.mul_one] at c0;have n1_1 : y + 1 + 1 = y + 2 := by omega
   have n1_2 : y + 2 + 1 = y + 3 := by omega
   replace HST := zh (HST.o.set 0 (by simp) (.string (Zcp (y))));simp only [List.set_cons_zero, List.set_cons_succ, Nat.add_zero, Nat.mul_one] at HST;replace HK := zh (HK.o.set (B := b) (fun h => h.1 rfl) (o + j) (.string (Zcp (y))));replace HK0 := zh (HK0.o.setCell (p := ⟨b, o + j, none⟩) (Nat.zero_le _) (.string (Zcp (y))));go_wp2_with fail
   go_roundw
   case rel =>
    refine ⟨j + 1, by omega, by go_num, by have := HCE.o; have := HCT.o; have := HCL.o; have := HK1.o; have := HY.o; congr 1; omega, ?_, HKW.o.trans (HK.o.mono fun z h => ⟨fun e => h (by rw [e]; exact HFB.o), fun h2 => h h2.1.1⟩), HK0W.o.trans HK0.o⟩;rw [Ze4 _ _ _ _ _ hlt, HY.o];exact SAt.put Zg.is HAT.o (i := j) (by rw [Zar]; exact hlt) HB.o (show St _ b (o + j * 1) cur _ _ from by rw [Nat.mul_one]; exact HST.o) (HK.o.mono fun z h => ⟨h.1.2, fun h2 => h.2 h2.2⟩) ⟨rfl, (show (Zcp (y)).size ≤ maxLen by have := HCE.o; have := HCT.o; have := HCL.o; have := HK1.o; have := HY.o; have := Zhs (k := y) (by omega); unfold maxLen; omega)⟩
   case measure => simp [intOf]; omega
  ·have hjl : j = l.length := by omega
   go_wp2_with fail;go_ret;subst hjl;have hrow := HAT.o.row HFB.o (c := cp) (by rw [Zar]; exact hc) HCM.o ⟨HO0.o, Nat.le_refl _⟩;rw [Zar] at hrow;refine ⟨Zat ?_, hrow, HKW.o, HK0W.o⟩;have := HY.o;rw [List.take_length] at this;exact this.symm
theorem Zhf (l : List Zaw) (v : Value) (F : Nat → Prop) (w : World) (k : Int) (hk : 1 ≤ k) (hk1 : k + (Zm Zx l : Nat) ≤ 1099511627776) (hr : Zbo Za0 3 136 F w l v) :
  Calls Tryz.prog 73 #[v, .int .i64 k] w fun e w' => e = .returned (.int .i64 (k + (Zm Zx l : Nat))) ∧ Zbo Za0 3 136 F w' (Zb7 Zci Zx l k) v ∧ Zc (fun y => ¬ F y) w w' ∧ Below 0 w w' := by
 have hr0 := hr;obtain ⟨A, cp, rfl, hc, hcm, hel⟩ := hr;have HCM := zh hcm;unfold maxLen at hcm
 by_cases h0 : l.length = 0
 ·obtain rfl : l = [] := List.eq_nil_of_length_eq_zero h0;have HR := zh hr0;clear hel hr0;go_enter Tryz.func73, Tryz.ntmps73;go_wp2_with fail;refine wp_loop_rounds 1 ?_;rw [rounds_succ];go_wp2_with fail;go_ret;exact ⟨by simp [Zm], HR.o, Zc.refl _ _, Below.refl _ _⟩
 clear hr0;obtain ⟨b, o, cur0, tag, rfl, hFb, hb0, hcp, hall⟩ := hel (by omega);have HS0 : Hd (SAt Za0 3 136 F b o (o + cp * 3) tag w (Ze0 Zci Zx l k 0)) := zh (by rw [Ze3]; exact ⟨cur0, hb0, hcp.2, hall⟩);have HO0 := zh hcp.1;have HK1 := zh hk1;clear hel hb0 hcp hall hk1;have HFB := zh hFb;go_enter Tryz.func73, Tryz.ntmps73;go_wp2_with fail
 go_loopw [1, 5] (fun kv i wr => ∃ j : Nat, j ≤ l.length ∧ i = .int .i64 j ∧ kv = .int .i64 (k + (Zm Zx (l.take j) : Nat)) ∧ SAt Za0 3 136 F b o (o + cp * 3) tag wr (Ze0 Zci Zx l k j) ∧ Zc (fun y => ¬ F y) w wr ∧ Below 0 w wr) (fun _ i _ => l.length - (intOf i).toNat)
 case atStart => exact ⟨0, Nat.zero_le _, rfl, by simp [Zm], HS0.o, Zc.refl _ _, Below.refl _ _⟩
 case round =>
  obtain ⟨j, hj, rfl, rfl, hat, hkw, hk0⟩ := hrel;have HAT := zh hat;have HKW := zh hkw;have HK0W := zh hk0;have HLE := zh (Zbk Zx l j);obtain ⟨y, hy⟩ : ∃ y : Int, k + (Zm Zx (l.take j) : Nat) = y := ⟨_, rfl⟩;have hy1 : 1 ≤ y := by omega
  have hy2 : y ≤ 1099511627776 := by have := HK1.o; have := HLE.o; omega
  rw [hy];have HY := zh hy;clear hy hat hkw hk0 HLE
  by_cases hlt : j < l.length
  ·have hlt' : (j : Int) < l.length := by omega
   have HCT := zh (Zb8 Zx l j hlt);have HCL := zh (Zbk Zx l (j + 1));obtain ⟨cur, cs, hb, hs, hst⟩ := HAT.o.open_ Zf.is (i := j) (by rw [Zar]; exact hlt);rw [Zg1 Zci Zx l k j hlt] at hs;have HB := zh hb;have HST := zh (hst (by decide));obtain ⟨tg, aU, rfl, bR, bS, bT⟩ := hs;have Rfields := zh bS;clear bR bS bT;clear hst hb;have HK : Hd (Zc (fun y => y ≠ b ∧ ¬ ((F y ∧ y ≠ b) ∧ tag y = j)) wr wr) := zh (Zc.refl _ _);have HK0 : Hd (Below 0 wr wr) := zh (Below.refl _ _);have HCE := zh (show Zx l[j] = 2 + (Zm (fun _ => 1) l[j].fields) from rfl);have n0_1 : y + 1 + 1 = y + 2 := by omega
   go_wp2_with fail;clear  n0_1;refine (Zdk (y) _ (by omega) (by have := HCE.o; have := HCT.o; have := HCL.o; have := HK1.o; have := HY.o; omega)).mono ?_;rintro e w1 ⟨rfl, hb1⟩;replace HST := zh (HST.o.keep (Below.block hb1 _ HST.o.lt));replace Rfields := zh (Rfields.o.keep Zg.is (fun _ h => h) (Zc.later hb1));replace HK := zh (HK.o.trans (Zc.later hb1));replace HK0 := zh (HK0.o.trans (Below.mono hb1 (Nat.zero_le _)));clear hb1;have c0 := HST.o.cell (q := 0) rfl;have f0 := HST.o.frozen (o + j * 3);have c1 := HST.o.cell (q := 1) rfl;simp only [Nat.add_zero] at c0;have n1_1 : y + 1 + 1 = y + 2 := by omega
   have n1_2 : y + 2 + 1 = y + 3 := by omega
   go_wp2_with fail;clear c0 f0 c1 n1_1 n1_2;replace HST := zh (HST.o.set 0 (by simp) (.string (Zcp (y))));simp only [List.set_cons_zero, List.set_cons_succ, Nat.add_zero] at HST;replace Rfields := zh (Rfields.o.keep Zg.is (fun _ h => h) ((Zc.refl _ w1).set (B := b) (fun h => h.1.1.2 rfl) (o + j * 3) (.string (Zcp (y)))));replace HK := zh (HK.o.set (B := b) (fun h => h.1 rfl) (o + j * 3) (.string (Zcp (y))));replace HK0 := zh (HK0.o.setCell (p := ⟨b, o + j * 3, none⟩) (Nat.zero_le _) (.string (Zcp (y))));refine (Zdo l[j].fields aU _ _ (y + 1) (by omega) (by have := HCE.o; have := HCT.o; have := HCL.o; have := HK1.o; have := HY.o; omega) Rfields.o).mono ?_;rintro e w2 ⟨rfl, hr2, hk2, hz2⟩;replace HST := zh (HST.o.keep (hk2.same b (fun h => h.1.1.2 rfl) HST.o.lt));replace Rfields := zh hr2;replace HK := zh (HK.o.trans (hk2.mono fun y h h2 => h.2 h2.1));replace HK0 := zh (HK0.o.trans hz2);clear hr2 hk2 hz2;obtain ⟨y2, hy2⟩ : ∃ z : Int, y + 1 + (Zm (fun _ => 1) l[j].fields : Nat) = z := ⟨_, rfl⟩;rw [hy2];have HY2 := zh hy2;have hl2 : 1 ≤ y2 := by omega
   have hu2 : y2 ≤ 1099511627776 := by have := HCE.o; have := HCT.o; have := HCL.o; have := HK1.o; have := HY.o; omega
   clear hy2;have c2 := HST.o.cell (q := 2) rfl;have f2 := HST.o.frozen (o + j * 3 + 2);have n2_1 : y2 + 1 + 1 = y2 + 2 := by omega
   have n2_2 : y2 + 2 + 1 = y2 + 3 := by omega
   replace HST := zh (HST.o.set 2 (by simp) (.int .i64 (y2)));simp only [List.set_cons_zero, List.set_cons_succ] at HST;replace Rfields := zh (Rfields.o.keep Zg.is (fun _ h => h) ((Zc.refl _ w2).set (B := b) (fun h => h.1.1.2 rfl) (o + j * 3 + 2) (.int .i64 (y2))));replace HK := zh (HK.o.set (B := b) (fun h => h.1 rfl) (o + j * 3 + 2) (.int .i64 (y2)));replace HK0 := zh (HK0.o.setCell (p := ⟨b, o + j * 3 + 2, none⟩) (Nat.zero_le _) (.int .i64 (y2)));go_wp2_with fail
   go_roundw
   case rel =>
    refine ⟨j + 1, by omega, by go_num, by have := HCE.o; have := HCT.o; have := HCL.o; have := HK1.o; have := HY.o; have := HY2.o; congr 1; omega, ?_, HKW.o.trans (HK.o.mono fun z h => ⟨fun e => h (by rw [e]; exact HFB.o), fun h2 => h h2.1.1⟩), HK0W.o.trans HK0.o⟩;rw [Ze4 _ _ _ _ _ hlt, HY.o];exact SAt.put Zf.is HAT.o (i := j) (by rw [Zar]; exact hlt) HB.o HST.o (HK.o.mono fun z h => ⟨h.1.2, fun h2 => h.2 h2.2⟩) ⟨tg, _, by have eHY2 := HY2.o; subst eHY2; rfl, (show (Zcp (y)).size ≤ maxLen by have := HCE.o; have := HCT.o; have := HCL.o; have := HK1.o; have := HY.o; have := HY2.o; have := Zhs (k := y) (by omega); unfold maxLen; omega), (by have eHY2 := HY2.o; subst eHY2; exact Rfields.o), (show Zac ((y + 1 + (Zm (fun _ => 1) l[j].fields : Nat))) by have := HCE.o; have := HCT.o; have := HCL.o; have := HK1.o; have := HY.o; have := HY2.o; unfold Zac; omega)⟩
   case measure => simp [intOf]; omega
  ·have hjl : j = l.length := by omega
   go_wp2_with fail;go_ret;subst hjl;have hrow := HAT.o.row HFB.o (c := cp) (by rw [Zar]; exact hc) HCM.o ⟨HO0.o, Nat.le_refl _⟩;rw [Zar] at hrow;refine ⟨Zat ?_, hrow, HKW.o, HK0W.o⟩;have := HY.o;rw [List.take_length] at this;exact this.symm
theorem Zff (l : List Zj) (v : Value) (F : Nat → Prop) (w : World) (k : Int) (hk : 1 ≤ k) (hk1 : k + (Zm Z3 l : Nat) ≤ 1099511627776) (hr : Zbo Ze 6 34 F w l v) :
  Calls Tryz.prog 28 #[v, .int .i64 k] w fun e w' => e = .returned (.int .i64 (k + (Zm Z3 l : Nat))) ∧ Zbo Ze 6 34 F w' (Zb7 Zcw Z3 l k) v ∧ Zc (fun y => ¬ F y) w w' ∧ Below 0 w w' := by
 have hr0 := hr;obtain ⟨A, cp, rfl, hc, hcm, hel⟩ := hr;have HCM := zh hcm;unfold maxLen at hcm
 by_cases h0 : l.length = 0
 ·obtain rfl : l = [] := List.eq_nil_of_length_eq_zero h0;have HR := zh hr0;clear hel hr0;go_enter Tryz.func28, Tryz.ntmps28;go_wp2_with fail;refine wp_loop_rounds 1 ?_;rw [rounds_succ];go_wp2_with fail;go_ret;exact ⟨by simp [Zm], HR.o, Zc.refl _ _, Below.refl _ _⟩
 clear hr0;obtain ⟨b, o, cur0, tag, rfl, hFb, hb0, hcp, hall⟩ := hel (by omega);have HS0 : Hd (SAt Ze 6 34 F b o (o + cp * 6) tag w (Ze0 Zcw Z3 l k 0)) := zh (by rw [Ze3]; exact ⟨cur0, hb0, hcp.2, hall⟩);have HO0 := zh hcp.1;have HK1 := zh hk1;clear hel hb0 hcp hall hk1;have HFB := zh hFb;go_enter Tryz.func28, Tryz.ntmps28;go_wp2_with fail
 go_loopw [1, 5] (fun kv i wr => ∃ j : Nat, j ≤ l.length ∧ i = .int .i64 j ∧ kv = .int .i64 (k + (Zm Z3 (l.take j) : Nat)) ∧ SAt Ze 6 34 F b o (o + cp * 6) tag wr (Ze0 Zcw Z3 l k j) ∧ Zc (fun y => ¬ F y) w wr ∧ Below 0 w wr) (fun _ i _ => l.length - (intOf i).toNat)
 case atStart => exact ⟨0, Nat.zero_le _, rfl, by simp [Zm], HS0.o, Zc.refl _ _, Below.refl _ _⟩
 case round =>
  obtain ⟨j, hj, rfl, rfl, hat, hkw, hk0⟩ := hrel;have HAT := zh hat;have HKW := zh hkw;have HK0W := zh hk0;have HLE := zh (Zbk Z3 l j);obtain ⟨y, hy⟩ : ∃ y : Int, k + (Zm Z3 (l.take j) : Nat) = y := ⟨_, rfl⟩;have hy1 : 1 ≤ y := by omega
  have hy2 : y ≤ 1099511627776 := by have := HK1.o; have := HLE.o; omega
  rw [hy];have HY := zh hy;clear hy hat hkw hk0 HLE
  by_cases hlt : j < l.length
  ·have hlt' : (j : Int) < l.length := by omega
   have HCT := zh (Zb8 Z3 l j hlt);have HCL := zh (Zbk Z3 l (j + 1));obtain ⟨cur, cs, hb, hs, hst⟩ := HAT.o.open_ Zn.is (i := j) (by rw [Zar]; exact hlt);rw [Zg1 Zcw Z3 l k j hlt] at hs;have HB := zh hb;have HST := zh (hst (by decide));obtain ⟨rfl, bH, bI, bJ, bK, bL, bM⟩ := hs;clear bH bI bJ bK bL bM;clear hst hb;have HK : Hd (Zc (fun y => y ≠ b ∧ ¬ ((F y ∧ y ≠ b) ∧ tag y = j)) wr wr) := zh (Zc.refl _ _);have HK0 : Hd (Below 0 wr wr) := zh (Below.refl _ _);have HCE := zh (show Z3 l[j] = 6 from rfl);have c0 := HST.o.cell (q := 0) rfl;have f0 := HST.o.frozen (o + j * 6);have c1 := HST.o.cell (q := 1) rfl;have f1 := HST.o.frozen (o + j * 6 + 1);have c2 := HST.o.cell (q := 2) rfl;have f2 := HST.o.frozen (o + j * 6 + 2);simp only [Nat.add_zero] at c0;have n0_1 : y + 1 + 1 = y + 2 := by omega
   have n0_2 : y + 2 + 1 = y + 3 := by omega
   have n0_3 : y + 3 + 1 = y + 4 := by omega
   have n0_4 : y + 4 + 1 = y + 5 := by omega
   go_wp2_with fail;clear c0 f0 c1 f1 c2 f2 n0_1 n0_2 n0_3 n0_4;replace HST := zh (((HST.o.set 0 (by simp) (.int .i64 (y))).set 1 (by simp) (.int .i64 (y + 1))).set 2 (by simp) (.int .i64 (y + 2)));simp only [List.set_cons_zero, List.set_cons_succ, Nat.add_zero] at HST;replace HK := zh (((HK.o.set (B := b) (fun h => h.1 rfl) (o + j * 6) (.int .i64 (y))).set (B := b) (fun h => h.1 rfl) (o + j * 6 + 1) (.int .i64 (y + 1))).set (B := b) (fun h => h.1 rfl) (o + j * 6 + 2) (.int .i64 (y + 2)));replace HK0 := zh (((HK0.o.setCell (p := ⟨b, o + j * 6, none⟩) (Nat.zero_le _) (.int .i64 (y))).setCell (p := ⟨b, o + j * 6 + 1, none⟩) (Nat.zero_le _) (.int .i64 (y + 1))).setCell (p := ⟨b, o + j * 6 + 2, none⟩) (Nat.zero_le _) (.int .i64 (y + 2)));refine (Zdk (y + 3) _ (by omega) (by have := HCE.o; have := HCT.o; have := HCL.o; have := HK1.o; have := HY.o; omega)).mono ?_;rintro e w1 ⟨rfl, hb1⟩;replace HST := zh (HST.o.keep (Below.block hb1 _ HST.o.lt));replace HK := zh (HK.o.trans (Zc.later hb1));replace HK0 := zh (HK0.o.trans (Below.mono hb1 (Nat.zero_le _)));clear hb1;have c3 := HST.o.cell (q := 3) rfl;have f3 := HST.o.frozen (o + j * 6 + 3);have c4 := HST.o.cell (q := 4) rfl;have f4 := HST.o.frozen (o + j * 6 + 4);have c5 := HST.o.cell (q := 5) rfl;have f5 := HST.o.frozen (o + j * 6 + 5);have n1_1 : y + 1 + 1 = y + 2 := by omega
   have n1_2 : y + 2 + 1 = y + 3 := by omega
   have n1_3 : y + 3 + 1 = y + 4 := by omega
   have n1_4 : y + 4 + 1 = y + 5 := by omega
   have n1_5 : y + 5 + 1 = y + 6 := by omega
   have n1_6 : y + 6 + 1 = y + 7 := by omega
   have n1_7 : y + 7 + 1 = y + 8 := by omega
   replace HST := zh (((HST.o.set 3 (by simp) (.string (Zcp (y + 3)))).set 4 (by simp) (.int .i64 (y + 4))).set 5 (by simp) (.int .i64 (y + 5)));simp only [List.set_cons_zero, List.set_cons_succ] at HST;replace HK := zh (((HK.o.set (B := b) (fun h => h.1 rfl) (o + j * 6 + 3) (.string (Zcp (y + 3)))).set (B := b) (fun h => h.1 rfl) (o + j * 6 + 4) (.int .i64 (y + 4))).set (B := b) (fun h => h.1 rfl) (o + j * 6 + 5) (.int .i64 (y + 5)));replace HK0 := zh (((HK0.o.setCell (p := ⟨b, o + j * 6 + 3, none⟩) (Nat.zero_le _) (.string (Zcp (y + 3)))).setCell (p := ⟨b, o + j * 6 + 4, none⟩) (Nat.zero_le _) (.int .i64 (y + 4))).setCell (p := ⟨b, o + j * 6 + 5, none⟩) (Nat.zero_le _) (.int .i64 (y + 5)));go_wp2_with fail
   go_roundw
   case rel =>
    refine ⟨j + 1, by omega, by go_num, by have := HCE.o; have := HCT.o; have := HCL.o; have := HK1.o; have := HY.o; congr 1; omega, ?_, HKW.o.trans (HK.o.mono fun z h => ⟨fun e => h (by rw [e]; exact HFB.o), fun h2 => h h2.1.1⟩), HK0W.o.trans HK0.o⟩;rw [Ze4 _ _ _ _ _ hlt, HY.o];exact SAt.put Zn.is HAT.o (i := j) (by rw [Zar]; exact hlt) HB.o HST.o (HK.o.mono fun z h => ⟨h.1.2, fun h2 => h.2 h2.2⟩) ⟨rfl, (show Zac (y) by have := HCE.o; have := HCT.o; have := HCL.o; have := HK1.o; have := HY.o; unfold Zac; omega), (show Zac (y + 1) by have := HCE.o; have := HCT.o; have := HCL.o; have := HK1.o; have := HY.o; unfold Zac; omega), (show Zac (y + 2) by have := HCE.o; have := HCT.o; have := HCL.o; have := HK1.o; have := HY.o; unfold Zac; omega), (show (Zcp (y + 3)).size ≤ maxLen by have := HCE.o; have := HCT.o; have := HCL.o; have := HK1.o; have := HY.o; have := Zhs (k := y + 3) (by omega); unfold maxLen; omega), (show Zac (y + 4) by have := HCE.o; have := HCT.o; have := HCL.o; have := HK1.o; have := HY.o; unfold Zac; omega), (show Zac (y + 5) by have := HCE.o; have := HCT.o; have := HCL.o; have := HK1.o; have := HY.o; unfold Zac; omega)⟩
   case measure => simp [intOf]; omega
  ·have hjl : j = l.length := by omega
   go_wp2_with fail;go_ret;subst hjl;have hrow := HAT.o.row HFB.o (c := cp) (by rw [Zar]; exact hc) HCM.o ⟨HO0.o, Nat.le_refl _⟩;rw [Zar] at hrow;refine ⟨Zat ?_, hrow, HKW.o, HK0W.o⟩;have := HY.o;rw [List.take_length] at this;exact this.symm
theorem Zjm (l : List Zay) (v : Value) (F : Nat → Prop) (w : World) (k : Int) (hk : 1 ≤ k) (hk1 : k + (Zm Zab l : Nat) ≤ 1099511627776) (hr : Zbo Zbx 5 94 F w l v) :
  Calls Tryz.prog 74 #[v, .int .i64 k] w fun e w' => e = .returned (.int .i64 (k + (Zm Zab l : Nat))) ∧ Zbo Zbx 5 94 F w' (Zb7 Zdv Zab l k) v ∧ Zc (fun y => ¬ F y) w w' ∧ Below 0 w w' := by
 have hr0 := hr;obtain ⟨A, cp, rfl, hc, hcm, hel⟩ := hr;have HCM := zh hcm;unfold maxLen at hcm
 by_cases h0 : l.length = 0
 ·obtain rfl : l = [] := List.eq_nil_of_length_eq_zero h0;have HR := zh hr0;clear hel hr0;go_enter Tryz.func74, Tryz.ntmps74;go_wp2_with fail;refine wp_loop_rounds 1 ?_;rw [rounds_succ];go_wp2_with fail;go_ret;exact ⟨by simp [Zm], HR.o, Zc.refl _ _, Below.refl _ _⟩
 clear hr0;obtain ⟨b, o, cur0, tag, rfl, hFb, hb0, hcp, hall⟩ := hel (by omega);have HS0 : Hd (SAt Zbx 5 94 F b o (o + cp * 5) tag w (Ze0 Zdv Zab l k 0)) := zh (by rw [Ze3]; exact ⟨cur0, hb0, hcp.2, hall⟩);have HO0 := zh hcp.1;have HK1 := zh hk1;clear hel hb0 hcp hall hk1;have HFB := zh hFb;go_enter Tryz.func74, Tryz.ntmps74;go_wp2_with fail
 go_loopw [1, 5] (fun kv i wr => ∃ j : Nat, j ≤ l.length ∧ i = .int .i64 j ∧ kv = .int .i64 (k + (Zm Zab (l.take j) : Nat)) ∧ SAt Zbx 5 94 F b o (o + cp * 5) tag wr (Ze0 Zdv Zab l k j) ∧ Zc (fun y => ¬ F y) w wr ∧ Below 0 w wr) (fun _ i _ => l.length - (intOf i).toNat)
 case atStart => exact ⟨0, Nat.zero_le _, rfl, by simp [Zm], HS0.o, Zc.refl _ _, Below.refl _ _⟩
 case round =>
  obtain ⟨j, hj, rfl, rfl, hat, hkw, hk0⟩ := hrel;have HAT := zh hat;have HKW := zh hkw;have HK0W := zh hk0;have HLE := zh (Zbk Zab l j);obtain ⟨y, hy⟩ : ∃ y : Int, k + (Zm Zab (l.take j) : Nat) = y := ⟨_, rfl⟩;have hy1 : 1 ≤ y := by omega
  have hy2 : y ≤ 1099511627776 := by have := HK1.o; have := HLE.o; omega
  rw [hy];have HY := zh hy;clear hy hat hkw hk0 HLE
  by_cases hlt : j < l.length
  ·have hlt' : (j : Int) < l.length := by omega
   have HCT := zh (Zb8 Zab l j hlt);have HCL := zh (Zbk Zab l (j + 1));obtain ⟨cur, cs, hb, hs, hst⟩ := HAT.o.open_ Zq.is (i := j) (by rw [Zar]; exact hlt);rw [Zg1 Zdv Zab l k j hlt] at hs;have HB := zh hb;have HST := zh (hst (by decide));obtain ⟨tg, aS, aT, rfl, bH, bN, bO, bP, bQ⟩ := hs;have Ritems := zh bP;have Rkeys := zh bQ;clear bH bN bO bP bQ;clear hst hb;have HK : Hd (Zc (fun y => y ≠ b ∧ ¬ ((F y ∧ y ≠ b) ∧ tag y = j)) wr wr) := zh (Zc.refl _ _);have HK0 : Hd (Below 0 wr wr) := zh (Below.refl _ _);have HCE := zh (show Zab l[j] = 3 + (Zm Z3 l[j].aJ + (Zm Z3 l[j].aK)) from rfl);have c0 := HST.o.cell (q := 0) rfl;have f0 := HST.o.frozen (o + j * 5);have c1 := HST.o.cell (q := 1) rfl;have f1 := HST.o.frozen (o + j * 5 + 1);have c2 := HST.o.cell (q := 2) rfl;have f2 := HST.o.frozen (o + j * 5 + 2);have c3 := HST.o.cell (q := 3) rfl;simp only [Nat.add_zero] at c0;have n0_1 : y + 1 + 1 = y + 2 := by omega
   have n0_2 : y + 2 + 1 = y + 3 := by omega
   have n0_3 : y + 3 + 1 = y + 4 := by omega
   have n0_4 : y + 4 + 1 = y + 5 := by omega
   go_wp2_with fail;clear c0 f0 c1 f1 c2 f2 c3 n0_1 n0_2 n0_3 n0_4;replace HST := zh (((HST.o.set 0 (by simp) (.int .i64 (y))).set 1 (by simp) (.int .i64 (y + 1))).set 2 (by simp) (.int .i64 (y + 2)));simp only [List.set_cons_zero, List.set_cons_succ, Nat.add_zero] at HST;replace Ritems := zh (Ritems.o.keep Zn.is (fun _ h => h) ((((Zc.refl _ wr).set (B := b) (fun h => h.1.1.2 rfl) (o + j * 5) (.int .i64 (y))).set (B := b) (fun h => h.1.1.2 rfl) (o + j * 5 + 1) (.int .i64 (y + 1))).set (B := b) (fun h => h.1.1.2 rfl) (o + j * 5 + 2) (.int .i64 (y + 2))));replace Rkeys := zh (Rkeys.o.keep Zn.is (fun _ h => h) ((((Zc.refl _ wr).set (B := b) (fun h => h.1.1.2 rfl) (o + j * 5) (.int .i64 (y))).set (B := b) (fun h => h.1.1.2 rfl) (o + j * 5 + 1) (.int .i64 (y + 1))).set (B := b) (fun h => h.1.1.2 rfl) (o + j * 5 + 2) (.int .i64 (y + 2))));replace HK := zh (((HK.o.set (B := b) (fun h => h.1 rfl) (o + j * 5) (.int .i64 (y))).set (B := b) (fun h => h.1 rfl) (o + j * 5 + 1) (.int .i64 (y + 1))).set (B := b) (fun h => h.1 rfl) (o + j * 5 + 2) (.int .i64 (y + 2)));replace HK0 := zh (((HK0.o.setCell (p := ⟨b, o + j * 5, none⟩) (Nat.zero_le _) (.int .i64 (y))).setCell (p := ⟨b, o + j * 5 + 1, none⟩) (Nat.zero_le _) (.int .i64 (y + 1))).setCell (p := ⟨b, o + j * 5 + 2, none⟩) (Nat.zero_le _) (.int .i64 (y + 2)));refine (Zff l[j].aJ aS _ _ (y + 3) (by omega) (by have := HCE.o; have := HCT.o; have := HCL.o; have := HK1.o; have := HY.o; omega) Ritems.o).mono ?_
   rintro e w1 ⟨rfl, hr1, hk1, hz1⟩;replace HST := zh (HST.o.keep (hk1.same b (fun h => h.1.1.2 rfl) HST.o.lt));replace Ritems := zh hr1;replace Rkeys := zh (Rkeys.o.keep Zn.is (fun _ h => h) (hk1.mono fun y h h2 => absurd (h.2.symm.trans h2.2) (by decide)));replace HK := zh (HK.o.trans (hk1.mono fun y h h2 => h.2 h2.1));replace HK0 := zh (HK0.o.trans hz1);clear hr1 hk1 hz1;obtain ⟨y1, hy1⟩ : ∃ z : Int, y + 3 + (Zm Z3 l[j].aJ : Nat) = z := ⟨_, rfl⟩;rw [hy1];have HY1 := zh hy1;have hl1 : 1 ≤ y1 := by omega
   have hu1 : y1 ≤ 1099511627776 := by have := HCE.o; have := HCT.o; have := HCL.o; have := HK1.o; have := HY.o; omega
   clear hy1;have c4 := HST.o.cell (q := 4) rfl;have n1_1 : y1 + 1 + 1 = y1 + 2 := by omega
   go_wp2_with fail;clear c4 n1_1;refine (Zff l[j].aK aT _ _ (y1) (by omega) (by have := HCE.o; have := HCT.o; have := HCL.o; have := HK1.o; have := HY.o; have := HY1.o; omega) Rkeys.o).mono ?_;rintro e w2 ⟨rfl, hr2, hk2, hz2⟩;replace HST := zh (HST.o.keep (hk2.same b (fun h => h.1.1.2 rfl) HST.o.lt));replace Rkeys := zh hr2;replace Ritems := zh (Ritems.o.keep Zn.is (fun _ h => h) (hk2.mono fun y h h2 => absurd (h.2.symm.trans h2.2) (by decide)));replace HK := zh (HK.o.trans (hk2.mono fun y h h2 => h.2 h2.1));replace HK0 := zh (HK0.o.trans hz2);clear hr2 hk2 hz2;obtain ⟨y2, hy2⟩ : ∃ z : Int, y1 + (Zm Z3 l[j].aK : Nat) = z := ⟨_, rfl⟩;rw [hy2];have HY2 := zh hy2;have hl2 : 1 ≤ y2 := by omega
   have hu2 : y2 ≤ 1099511627776 := by have := HCE.o; have := HCT.o; have := HCL.o; have := HK1.o; have := HY.o; have := HY1.o; omega
   clear hy2;go_wp2_with fail
   go_roundw
   case rel =>
    refine ⟨j + 1, by omega, by go_num, by have := HCE.o; have := HCT.o; have := HCL.o; have := HK1.o; have := HY.o; have := HY1.o; have := HY2.o; congr 1; omega, ?_, HKW.o.trans (HK.o.mono fun z h => ⟨fun e => h (by rw [e]; exact HFB.o), fun h2 => h h2.1.1⟩), HK0W.o.trans HK0.o⟩;rw [Ze4 _ _ _ _ _ hlt, HY.o];exact SAt.put Zq.is HAT.o (i := j) (by rw [Zar]; exact hlt) HB.o HST.o (HK.o.mono fun z h => ⟨h.1.2, fun h2 => h.2 h2.2⟩) ⟨tg, _, _, by have eHY1 := HY1.o; subst eHY1; have eHY2 := HY2.o; subst eHY2; rfl, (show Zac (y) by have := HCE.o; have := HCT.o; have := HCL.o; have := HK1.o; have := HY.o; have := HY1.o; have := HY2.o; unfold Zac; omega), (show Zac (y + 1) by have := HCE.o; have := HCT.o; have := HCL.o; have := HK1.o; have := HY.o; have := HY1.o; have := HY2.o; unfold Zac; omega), (show Zac (y + 2) by have := HCE.o; have := HCT.o; have := HCL.o; have := HK1.o; have := HY.o; have := HY1.o; have := HY2.o; unfold Zac; omega), (by have eHY1 := HY1.o; subst eHY1; have eHY2 := HY2.o; subst eHY2; exact Ritems.o), (by have eHY1 := HY1.o; subst eHY1; have eHY2 := HY2.o; subst eHY2; exact Rkeys.o)⟩
   case measure => simp [intOf]; omega
  ·have hjl : j = l.length := by omega
   go_wp2_with fail;go_ret;subst hjl;have hrow := HAT.o.row HFB.o (c := cp) (by rw [Zar]; exact hc) HCM.o ⟨HO0.o, Nat.le_refl _⟩;rw [Zar] at hrow;refine ⟨Zat ?_, hrow, HKW.o, HK0W.o⟩;have := HY.o;rw [List.take_length] at this;exact this.symm
theorem Zjn (l : List Zdd) (v : Value) (F : Nat → Prop) (w : World) (k : Int) (hk : 1 ≤ k) (hk1 : k + (Zm Zal l : Nat) ≤ 1099511627776) (hr : Zbo Zbf 2 89 F w l v) :
  Calls Tryz.prog 75 #[v, .int .i64 k] w fun e w' => e = .returned (.int .i64 (k + (Zm Zal l : Nat))) ∧ Zbo Zbf 2 89 F w' (Zb7 Zdw Zal l k) v ∧ Zc (fun y => ¬ F y) w w' ∧ Below 0 w w' := by
 have hr0 := hr;obtain ⟨A, cp, rfl, hc, hcm, hel⟩ := hr;have HCM := zh hcm;unfold maxLen at hcm
 by_cases h0 : l.length = 0
 ·obtain rfl : l = [] := List.eq_nil_of_length_eq_zero h0;have HR := zh hr0;clear hel hr0;go_enter Tryz.func75, Tryz.ntmps75;go_wp2_with fail;refine wp_loop_rounds 1 ?_;rw [rounds_succ];go_wp2_with fail;go_ret;exact ⟨by simp [Zm], HR.o, Zc.refl _ _, Below.refl _ _⟩
 clear hr0;obtain ⟨b, o, cur0, tag, rfl, hFb, hb0, hcp, hall⟩ := hel (by omega);have HS0 : Hd (SAt Zbf 2 89 F b o (o + cp * 2) tag w (Ze0 Zdw Zal l k 0)) := zh (by rw [Ze3]; exact ⟨cur0, hb0, hcp.2, hall⟩);have HO0 := zh hcp.1;have HK1 := zh hk1;clear hel hb0 hcp hall hk1;have HFB := zh hFb;go_enter Tryz.func75, Tryz.ntmps75;go_wp2_with fail
 go_loopw [1, 5] (fun kv i wr => ∃ j : Nat, j ≤ l.length ∧ i = .int .i64 j ∧ kv = .int .i64 (k + (Zm Zal (l.take j) : Nat)) ∧ SAt Zbf 2 89 F b o (o + cp * 2) tag wr (Ze0 Zdw Zal l k j) ∧ Zc (fun y => ¬ F y) w wr ∧ Below 0 w wr) (fun _ i _ => l.length - (intOf i).toNat)
 case atStart => exact ⟨0, Nat.zero_le _, rfl, by simp [Zm], HS0.o, Zc.refl _ _, Below.refl _ _⟩
 case round =>
  obtain ⟨j, hj, rfl, rfl, hat, hkw, hk0⟩ := hrel;have HAT := zh hat;have HKW := zh hkw;have HK0W := zh hk0;have HLE := zh (Zbk Zal l j);obtain ⟨y, hy⟩ : ∃ y : Int, k + (Zm Zal (l.take j) : Nat) = y := ⟨_, rfl⟩;have hy1 : 1 ≤ y := by omega
  have hy2 : y ≤ 1099511627776 := by have := HK1.o; have := HLE.o; omega
  rw [hy];have HY := zh hy;clear hy hat hkw hk0 HLE
  by_cases hlt : j < l.length
  ·have hlt' : (j : Int) < l.length := by omega
   have HCT := zh (Zb8 Zal l j hlt);have HCL := zh (Zbk Zal l (j + 1));obtain ⟨cur, cs, hb, hs, hst⟩ := HAT.o.open_ Zah.is (i := j) (by rw [Zar]; exact hlt);rw [Zg1 Zdw Zal l k j hlt] at hs;have HB := zh hb;have HST := zh (hst (by decide));obtain ⟨rfl, hroutine, hframe⟩ := hs;clear hroutine hframe;clear hst hb;have HK : Hd (Zc (fun y => y ≠ b ∧ ¬ ((F y ∧ y ≠ b) ∧ tag y = j)) wr wr) := zh (Zc.refl _ _);have HK0 : Hd (Below 0 wr wr) := zh (Below.refl _ _);have HCE := zh (show Zal l[j] = 2 from rfl);have c0 := HST.o.cell (q := 0) rfl;have f0 := HST.o.frozen (o + j * 2);have c1 := HST.o.cell (q := 1) rfl;have f1 := HST.o.frozen (o + j * 2 + 1);simp only [Nat.add_zero] at c0;have n0_1 : y + 1 + 1 = y + 2 := by omega
   have n0_2 : y + 2 + 1 = y + 3 := by omega
   have n0_3 : y + 3 + 1 = y + 4 := by omega
   replace HST := zh ((HST.o.set 0 (by simp) (.int .i64 (y))).set 1 (by simp) (.int .i64 (y + 1)));simp only [List.set_cons_zero, List.set_cons_succ, Nat.add_zero] at HST;replace HK := zh ((HK.o.set (B := b) (fun h => h.1 rfl) (o + j * 2) (.int .i64 (y))).set (B := b) (fun h => h.1 rfl) (o + j * 2 + 1) (.int .i64 (y + 1)));replace HK0 := zh ((HK0.o.setCell (p := ⟨b, o + j * 2, none⟩) (Nat.zero_le _) (.int .i64 (y))).setCell (p := ⟨b, o + j * 2 + 1, none⟩) (Nat.zero_le _) (.int .i64 (y + 1)));go_wp2_with fail
   go_roundw
   case rel =>
    refine ⟨j + 1, by omega, by go_num, by have := HCE.o; have := HCT.o; have := HCL.o; have := HK1.o; have := HY.o; congr 1; omega, ?_, HKW.o.trans (HK.o.mono fun z h => ⟨fun e => h (by rw [e]; exact HFB.o), fun h2 => h h2.1.1⟩), HK0W.o.trans HK0.o⟩;rw [Ze4 _ _ _ _ _ hlt, HY.o];exact SAt.put Zah.is HAT.o (i := j) (by rw [Zar]; exact hlt) HB.o HST.o (HK.o.mono fun z h => ⟨h.1.2, fun h2 => h.2 h2.2⟩) ⟨rfl, (show Zac (y) by have := HCE.o; have := HCT.o; have := HCL.o; have := HK1.o; have := HY.o; unfold Zac; omega), (show Zac (y + 1) by have := HCE.o; have := HCT.o; have := HCL.o; have := HK1.o; have := HY.o; unfold Zac; omega)⟩
   case measure => simp [intOf]; omega
  ·have hjl : j = l.length := by omega
   go_wp2_with fail;go_ret;subst hjl;have hrow := HAT.o.row HFB.o (c := cp) (by rw [Zar]; exact hc) HCM.o ⟨HO0.o, Nat.le_refl _⟩;rw [Zar] at hrow;refine ⟨Zat ?_, hrow, HKW.o, HK0W.o⟩;have := HY.o;rw [List.take_length] at this;exact this.symm
theorem Zem (r : Zh) (cs : List Value) (F : Nat → Prop) (w : World) (k : Int) (hk : 1 ≤ k) (hk1 : k + (Zap r : Nat) ≤ 1099511627776) (h : Zcz F w r cs) :
  Calls Tryz.prog 25 #[.agg cs.toArray, .int .i64 k] w fun e w' => e = .returned (.int .i64 (k + (Zap r : Nat))) ∧ Zcz F w' (Zle r k) cs ∧ Zc (fun y => ¬ F y) w w' ∧ Below 0 w w' := by
 obtain ⟨tag, aL, aM, aN, aO, aP, aQ, aR, rfl, aV, aW, aX, aY, aZ, bA, bB, bC, bD, bE, bF, bG⟩ := Zv.trim h;clear h;have HCE := zh (show Zap r = Zm (fun _ => 1) r.names + Zm Zx r.aB + Zm Zab r.aA + Zm Z3 r.globals + Zm (fun _ => 1) r.output + Zm (fun _ => 1) r.trace + Zm Zal r.aE from rfl);have HK1 := zh hk1;clear hk1;have HP := zh (heap_alloc_new w (.cells #[aL, aM, aN, aO, .string r.aC, .int .i64 r.aD, aP, aQ, aR, .bool r.aF, .int .i64 r.ticks, .int .i64 r.aG, .int .i64 r.made] 30));have HK := zh (Zc.later (F := fun y => ¬ (F y ∧ y < w.heap.size)) ((Za.refl w).alloc (.cells #[aL, aM, aN, aO, .string r.aC, .int .i64 r.aD, aP, aQ, aR, .bool r.aF, .int .i64 r.ticks, .int .i64 r.aG, .int .i64 r.made] 30)));have HK0 := zh ((Below.refl 0 w).alloc (Nat.zero_le _) (.cells #[aL, aM, aN, aO, .string r.aC, .int .i64 r.aD, aP, aQ, aR, .bool r.aF, .int .i64 r.ticks, .int .i64 r.aG, .int .i64 r.made] 30));have Rnames := zh (aV.later Zg.is ((Za.refl w).alloc (.cells #[aL, aM, aN, aO, .string r.aC, .int .i64 r.aD, aP, aQ, aR, .bool r.aF, .int .i64 r.ticks, .int .i64 r.aG, .int .i64 r.made] 30)))
 clear aV;have Rrecords := zh (aW.later Zf.is ((Za.refl w).alloc (.cells #[aL, aM, aN, aO, .string r.aC, .int .i64 r.aD, aP, aQ, aR, .bool r.aF, .int .i64 r.ticks, .int .i64 r.aG, .int .i64 r.made] 30)));clear aW;have Robjects := zh (aX.later Zq.is ((Za.refl w).alloc (.cells #[aL, aM, aN, aO, .string r.aC, .int .i64 r.aD, aP, aQ, aR, .bool r.aF, .int .i64 r.ticks, .int .i64 r.aG, .int .i64 r.made] 30)));clear aX;have Rglobals := zh (aY.later Zn.is ((Za.refl w).alloc (.cells #[aL, aM, aN, aO, .string r.aC, .int .i64 r.aD, aP, aQ, aR, .bool r.aF, .int .i64 r.ticks, .int .i64 r.aG, .int .i64 r.made] 30)));clear aY;have Hsubject := zh aZ;clear aZ;have Hposition := zh bA;clear bA;have Routput := zh (bB.later Zg.is ((Za.refl w).alloc (.cells #[aL, aM, aN, aO, .string r.aC, .int .i64 r.aD, aP, aQ, aR, .bool r.aF, .int .i64 r.ticks, .int .i64 r.aG, .int .i64 r.made] 30)));clear bB;have Rtrace := zh (bC.later Zg.is ((Za.refl w).alloc (.cells #[aL, aM, aN, aO, .string r.aC, .int .i64 r.aD, aP, aQ, aR, .bool r.aF, .int .i64 r.ticks, .int .i64 r.aG, .int .i64 r.made] 30)))
 clear bC;have Ractives := zh (bD.later Zah.is ((Za.refl w).alloc (.cells #[aL, aM, aN, aO, .string r.aC, .int .i64 r.aD, aP, aQ, aR, .bool r.aF, .int .i64 r.ticks, .int .i64 r.aG, .int .i64 r.made] 30)));clear bD;have Hticks := zh bE;clear bE;have Hbudget := zh bF;clear bF;have Hmade := zh bG;clear bG;go_enter Tryz.func25, Tryz.ntmps25;go_wp2_with fail;refine (Zdo r.names aL _ _ k (by omega) (by have := HCE.o; have := HK1.o; omega) Rnames.o).mono ?_;rintro e w0 ⟨rfl, hr0, hk0, hz0⟩;replace HP := zh ((hk0.same _ (fun h => Nat.lt_irrefl _ h.1.2) (Zd HP.o)).trans HP.o);replace Rnames := zh hr0;replace Rrecords := zh (Rrecords.o.keep Zf.is (fun _ h => h) (hk0.mono fun y h h2 => absurd (h.2.symm.trans h2.2) (by decide)));replace Robjects := zh (Robjects.o.keep Zq.is (fun _ h => h) (hk0.mono fun y h h2 => absurd (h.2.symm.trans h2.2) (by decide)));replace Rglobals := zh (Rglobals.o.keep Zn.is (fun _ h => h) (hk0.mono fun y h h2 => absurd (h.2.symm.trans h2.2) (by decide)));replace Routput := zh (Routput.o.keep Zg.is (fun _ h => h) (hk0.mono fun y h h2 => absurd (h.2.symm.trans h2.2) (by decide)));replace Rtrace := zh (Rtrace.o.keep Zg.is (fun _ h => h) (hk0.mono fun y h h2 => absurd (h.2.symm.trans h2.2) (by decide)));replace Ractives := zh (Ractives.o.keep Zah.is (fun _ h => h) (hk0.mono fun y h h2 => absurd (h.2.symm.trans h2.2) (by decide)))
 replace HK := zh (HK.o.trans (hk0.mono fun y h h2 => h h2.1));replace HK0 := zh (HK0.o.trans hz0);clear hr0 hk0 hz0;obtain ⟨y0, hy0⟩ : ∃ z : Int, k + (Zm (fun _ => 1) r.names : Nat) = z := ⟨_, rfl⟩;rw [hy0];have HY0 := zh hy0;have hl0 : 1 ≤ y0 := by omega
 have hu0 : y0 ≤ 1099511627776 := by have := HCE.o; have := HK1.o; omega
 clear hy0;have p1 := cq HP.o 1;simp only [nD, nE, nF] at p1;go_wp2_with fail;refine (Zhf r.aB aM _ _ y0 (by omega) (by have := HCE.o; have := HK1.o; have := HY0.o; omega) Rrecords.o).mono ?_;rintro e w1 ⟨rfl, hr1, hk1, hz1⟩;clear p1;replace HP := zh ((hk1.same _ (fun h => Nat.lt_irrefl _ h.1.2) (Zd HP.o)).trans HP.o);replace Rrecords := zh hr1;replace Rnames := zh (Rnames.o.keep Zg.is (fun _ h => h) (hk1.mono fun y h h2 => absurd (h.2.symm.trans h2.2) (by decide)));replace Robjects := zh (Robjects.o.keep Zq.is (fun _ h => h) (hk1.mono fun y h h2 => absurd (h.2.symm.trans h2.2) (by decide)));replace Rglobals := zh (Rglobals.o.keep Zn.is (fun _ h => h) (hk1.mono fun y h h2 => absurd (h.2.symm.trans h2.2) (by decide)));replace Routput := zh (Routput.o.keep Zg.is (fun _ h => h) (hk1.mono fun y h h2 => absurd (h.2.symm.trans h2.2) (by decide)));replace Rtrace := zh (Rtrace.o.keep Zg.is (fun _ h => h) (hk1.mono fun y h h2 => absurd (h.2.symm.trans h2.2) (by decide)));replace Ractives := zh (Ractives.o.keep Zah.is (fun _ h => h) (hk1.mono fun y h h2 => absurd (h.2.symm.trans h2.2) (by decide)));replace HK := zh (HK.o.trans (hk1.mono fun y h h2 => h h2.1));replace HK0 := zh (HK0.o.trans hz1);clear hr1 hk1 hz1;obtain ⟨y1, hy1⟩ : ∃ z : Int, y0 + (Zm Zx r.aB : Nat) = z := ⟨_, rfl⟩;rw [hy1];have HY1 := zh hy1;have hl1 : 1 ≤ y1 := by omega
 have hu1 : y1 ≤ 1099511627776 := by have := HCE.o; have := HK1.o; have := HY0.o; omega
 clear hy1;have p2 := cq HP.o 2;simp only [nD, nE, nF] at p2;go_wp2_with fail;refine (Zjm r.aA aN _ _ y1 (by omega) (by have := HCE.o; have := HK1.o; have := HY0.o; have := HY1.o; omega) Robjects.o).mono ?_;rintro e w2 ⟨rfl, hr2, hk2, hz2⟩;clear p2;replace HP := zh ((hk2.same _ (fun h => Nat.lt_irrefl _ h.1.2) (Zd HP.o)).trans HP.o);replace Robjects := zh hr2;replace Rnames := zh (Rnames.o.keep Zg.is (fun _ h => h) (hk2.mono fun y h h2 => absurd (h.2.symm.trans h2.2) (by decide)));replace Rrecords := zh (Rrecords.o.keep Zf.is (fun _ h => h) (hk2.mono fun y h h2 => absurd (h.2.symm.trans h2.2) (by decide)));replace Rglobals := zh (Rglobals.o.keep Zn.is (fun _ h => h) (hk2.mono fun y h h2 => absurd (h.2.symm.trans h2.2) (by decide)));replace Routput := zh (Routput.o.keep Zg.is (fun _ h => h) (hk2.mono fun y h h2 => absurd (h.2.symm.trans h2.2) (by decide)));replace Rtrace := zh (Rtrace.o.keep Zg.is (fun _ h => h) (hk2.mono fun y h h2 => absurd (h.2.symm.trans h2.2) (by decide)));replace Ractives := zh (Ractives.o.keep Zah.is (fun _ h => h) (hk2.mono fun y h h2 => absurd (h.2.symm.trans h2.2) (by decide)));replace HK := zh (HK.o.trans (hk2.mono fun y h h2 => h h2.1));replace HK0 := zh (HK0.o.trans hz2);clear hr2 hk2 hz2;obtain ⟨y2, hy2⟩ : ∃ z : Int, y1 + (Zm Zab r.aA : Nat) = z := ⟨_, rfl⟩;rw [hy2];have HY2 := zh hy2;have hl2 : 1 ≤ y2 := by omega
 have hu2 : y2 ≤ 1099511627776 := by have := HCE.o; have := HK1.o; have := HY0.o; have := HY1.o; omega
 clear hy2;have p3 := cq HP.o 3;simp only [nD, nE, nF] at p3;go_wp2_with fail;refine (Zff r.globals aO _ _ y2 (by omega) (by have := HCE.o; have := HK1.o; have := HY0.o; have := HY1.o; have := HY2.o; omega) Rglobals.o).mono ?_;rintro e w3 ⟨rfl, hr3, hk3, hz3⟩;clear p3;replace HP := zh ((hk3.same _ (fun h => Nat.lt_irrefl _ h.1.2) (Zd HP.o)).trans HP.o);replace Rglobals := zh hr3;replace Rnames := zh (Rnames.o.keep Zg.is (fun _ h => h) (hk3.mono fun y h h2 => absurd (h.2.symm.trans h2.2) (by decide)));replace Rrecords := zh (Rrecords.o.keep Zf.is (fun _ h => h) (hk3.mono fun y h h2 => absurd (h.2.symm.trans h2.2) (by decide)));replace Robjects := zh (Robjects.o.keep Zq.is (fun _ h => h) (hk3.mono fun y h h2 => absurd (h.2.symm.trans h2.2) (by decide)));replace Routput := zh (Routput.o.keep Zg.is (fun _ h => h) (hk3.mono fun y h h2 => absurd (h.2.symm.trans h2.2) (by decide)));replace Rtrace := zh (Rtrace.o.keep Zg.is (fun _ h => h) (hk3.mono fun y h h2 => absurd (h.2.symm.trans h2.2) (by decide)));replace Ractives := zh (Ractives.o.keep Zah.is (fun _ h => h) (hk3.mono fun y h h2 => absurd (h.2.symm.trans h2.2) (by decide)));replace HK := zh (HK.o.trans (hk3.mono fun y h h2 => h h2.1));replace HK0 := zh (HK0.o.trans hz3);clear hr3 hk3 hz3;obtain ⟨y3, hy3⟩ : ∃ z : Int, y2 + (Zm Z3 r.globals : Nat) = z := ⟨_, rfl⟩;rw [hy3];have HY3 := zh hy3;have hl3 : 1 ≤ y3 := by omega
 have hu3 : y3 ≤ 1099511627776 := by have := HCE.o; have := HK1.o; have := HY0.o; have := HY1.o; have := HY2.o; omega
 clear hy3;have p6 := cq HP.o 6;simp only [nD, nE, nF] at p6;go_wp2_with fail;refine (Zdo r.output aP _ _ y3 (by omega) (by have := HCE.o; have := HK1.o; have := HY0.o; have := HY1.o; have := HY2.o; have := HY3.o; omega) Routput.o).mono ?_;rintro e w4 ⟨rfl, hr4, hk4, hz4⟩;clear p6;replace HP := zh ((hk4.same _ (fun h => Nat.lt_irrefl _ h.1.2) (Zd HP.o)).trans HP.o);replace Routput := zh hr4;replace Rnames := zh (Rnames.o.keep Zg.is (fun _ h => h) (hk4.mono fun y h h2 => absurd (h.2.symm.trans h2.2) (by decide)));replace Rrecords := zh (Rrecords.o.keep Zf.is (fun _ h => h) (hk4.mono fun y h h2 => absurd (h.2.symm.trans h2.2) (by decide)));replace Robjects := zh (Robjects.o.keep Zq.is (fun _ h => h) (hk4.mono fun y h h2 => absurd (h.2.symm.trans h2.2) (by decide)));replace Rglobals := zh (Rglobals.o.keep Zn.is (fun _ h => h) (hk4.mono fun y h h2 => absurd (h.2.symm.trans h2.2) (by decide)));replace Rtrace := zh (Rtrace.o.keep Zg.is (fun _ h => h) (hk4.mono fun y h h2 => absurd (h.2.symm.trans h2.2) (by decide)));replace Ractives := zh (Ractives.o.keep Zah.is (fun _ h => h) (hk4.mono fun y h h2 => absurd (h.2.symm.trans h2.2) (by decide)));replace HK := zh (HK.o.trans (hk4.mono fun y h h2 => h h2.1));replace HK0 := zh (HK0.o.trans hz4);clear hr4 hk4 hz4;obtain ⟨y4, hy4⟩ : ∃ z : Int, y3 + (Zm (fun _ => 1) r.output : Nat) = z := ⟨_, rfl⟩;rw [hy4];have HY4 := zh hy4;have hl4 : 1 ≤ y4 := by omega
 have hu4 : y4 ≤ 1099511627776 := by have := HCE.o; have := HK1.o; have := HY0.o; have := HY1.o; have := HY2.o; have := HY3.o; omega
 clear hy4;have p7 := cq HP.o 7;simp only [nD, nE, nF] at p7;go_wp2_with fail;refine (Zdo r.trace aQ _ _ y4 (by omega) (by have := HCE.o; have := HK1.o; have := HY0.o; have := HY1.o; have := HY2.o; have := HY3.o; have := HY4.o; omega) Rtrace.o).mono ?_;rintro e w5 ⟨rfl, hr5, hk5, hz5⟩;clear p7;replace HP := zh ((hk5.same _ (fun h => Nat.lt_irrefl _ h.1.2) (Zd HP.o)).trans HP.o);replace Rtrace := zh hr5;replace Rnames := zh (Rnames.o.keep Zg.is (fun _ h => h) (hk5.mono fun y h h2 => absurd (h.2.symm.trans h2.2) (by decide)));replace Rrecords := zh (Rrecords.o.keep Zf.is (fun _ h => h) (hk5.mono fun y h h2 => absurd (h.2.symm.trans h2.2) (by decide)));replace Robjects := zh (Robjects.o.keep Zq.is (fun _ h => h) (hk5.mono fun y h h2 => absurd (h.2.symm.trans h2.2) (by decide)));replace Rglobals := zh (Rglobals.o.keep Zn.is (fun _ h => h) (hk5.mono fun y h h2 => absurd (h.2.symm.trans h2.2) (by decide)));replace Routput := zh (Routput.o.keep Zg.is (fun _ h => h) (hk5.mono fun y h h2 => absurd (h.2.symm.trans h2.2) (by decide)));replace Ractives := zh (Ractives.o.keep Zah.is (fun _ h => h) (hk5.mono fun y h h2 => absurd (h.2.symm.trans h2.2) (by decide)));replace HK := zh (HK.o.trans (hk5.mono fun y h h2 => h h2.1));replace HK0 := zh (HK0.o.trans hz5);clear hr5 hk5 hz5;obtain ⟨y5, hy5⟩ : ∃ z : Int, y4 + (Zm (fun _ => 1) r.trace : Nat) = z := ⟨_, rfl⟩;rw [hy5];have HY5 := zh hy5;have hl5 : 1 ≤ y5 := by omega
 have hu5 : y5 ≤ 1099511627776 := by have := HCE.o; have := HK1.o; have := HY0.o; have := HY1.o; have := HY2.o; have := HY3.o; have := HY4.o; omega
 clear hy5;have p8 := cq HP.o 8;simp only [nD, nE, nF] at p8;go_wp2_with fail;refine (Zjn r.aE aR _ _ y5 (by omega) (by have := HCE.o; have := HK1.o; have := HY0.o; have := HY1.o; have := HY2.o; have := HY3.o; have := HY4.o; have := HY5.o; omega) Ractives.o).mono ?_;rintro e w6 ⟨rfl, hr6, hk6, hz6⟩;clear p8;replace HP := zh ((hk6.same _ (fun h => Nat.lt_irrefl _ h.1.2) (Zd HP.o)).trans HP.o);replace Ractives := zh hr6;replace Rnames := zh (Rnames.o.keep Zg.is (fun _ h => h) (hk6.mono fun y h h2 => absurd (h.2.symm.trans h2.2) (by decide)));replace Rrecords := zh (Rrecords.o.keep Zf.is (fun _ h => h) (hk6.mono fun y h h2 => absurd (h.2.symm.trans h2.2) (by decide)));replace Robjects := zh (Robjects.o.keep Zq.is (fun _ h => h) (hk6.mono fun y h h2 => absurd (h.2.symm.trans h2.2) (by decide)));replace Rglobals := zh (Rglobals.o.keep Zn.is (fun _ h => h) (hk6.mono fun y h h2 => absurd (h.2.symm.trans h2.2) (by decide)));replace Routput := zh (Routput.o.keep Zg.is (fun _ h => h) (hk6.mono fun y h h2 => absurd (h.2.symm.trans h2.2) (by decide)));replace Rtrace := zh (Rtrace.o.keep Zg.is (fun _ h => h) (hk6.mono fun y h h2 => absurd (h.2.symm.trans h2.2) (by decide)));replace HK := zh (HK.o.trans (hk6.mono fun y h h2 => h h2.1));replace HK0 := zh (HK0.o.trans hz6);clear hr6 hk6 hz6;obtain ⟨y6, hy6⟩ : ∃ z : Int, y5 + (Zm Zal r.aE : Nat) = z := ⟨_, rfl⟩;rw [hy6];have HY6 := zh hy6;have hl6 : 1 ≤ y6 := by omega
 have hu6 : y6 ≤ 1099511627776 := by have := HCE.o; have := HK1.o; have := HY0.o; have := HY1.o; have := HY2.o; have := HY3.o; have := HY4.o; have := HY5.o; omega
 clear hy6;go_wp2_with fail;go_ret;refine ⟨Zat (by have := HCE.o; have := HK1.o; have := HY0.o; have := HY1.o; have := HY2.o; have := HY3.o; have := HY4.o; have := HY5.o; have := HY6.o; omega), ?_, HK.o.mono fun y h h2 => h h2.1, HK0.o⟩
 ·have eHY0 := HY0.o; subst eHY0;have eHY1 := HY1.o; subst eHY1;have eHY2 := HY2.o; subst eHY2;have eHY3 := HY3.o; subst eHY3;have eHY4 := HY4.o; subst eHY4;have eHY5 := HY5.o; subst eHY5;exact ⟨tag, _, _, _, _, _, _, _, rfl, Rnames.o.keep Zg.is (fun b hb => ⟨hb.1.1, hb.2⟩) (Zc.refl _ _), Rrecords.o.keep Zf.is (fun b hb => ⟨hb.1.1, hb.2⟩) (Zc.refl _ _), Robjects.o.keep Zq.is (fun b hb => ⟨hb.1.1, hb.2⟩) (Zc.refl _ _), Rglobals.o.keep Zn.is (fun b hb => ⟨hb.1.1, hb.2⟩) (Zc.refl _ _), Hsubject.o, Hposition.o, Routput.o.keep Zg.is (fun b hb => ⟨hb.1.1, hb.2⟩) (Zc.refl _ _), Rtrace.o.keep Zg.is (fun b hb => ⟨hb.1.1, hb.2⟩) (Zc.refl _ _), Ractives.o.keep Zah.is (fun b hb => ⟨hb.1.1, hb.2⟩) (Zc.refl _ _), Hticks.o, Hbudget.o, Hmade.o⟩
theorem Zdp (l : List ByteArray) (v : Value) (F : Nat → Prop) (w : World) (k : Int) (hk : 1 ≤ k) (hk1 : k + (Zm (fun _ => 1) l : Nat) ≤ 1099511627776) (hr : Zu Zbp 1 F w (Zb7 Zfe (fun _ => 1) l k) v) :
  Calls Tryz.prog 80 #[v, .int .i64 k] w fun e w' => e = .returned (.int .i64 (k + (Zm (fun _ => 1) l : Nat))) ∧ Below w.heap.size w w' := by
 obtain ⟨A, cp, rfl, hc, hcm, hel⟩ := hr;have HEL := zh hel;clear hel;simp only [Zbw] at hc ⊢;unfold maxLen at hcm;have HK1 := zh hk1;clear hk1;go_enter Tryz.func80, Tryz.ntmps80;go_wp2_with fail
 go_loopw [1, 5] (fun kv i wr => ∃ j : Nat, j ≤ l.length ∧ i = .int .i64 j ∧ kv = .int .i64 (k + (Zm (fun _ => 1) (l.take j) : Nat)) ∧ Below w.heap.size w wr) (fun _ i _ => l.length - (intOf i).toNat)
 case atStart => exact ⟨0, Nat.zero_le _, rfl, by simp [Zm], Below.refl _ _⟩
 case round =>
  obtain ⟨j, hj, rfl, rfl, hbel⟩ := hrel;have HBL := zh hbel;have HLE := zh (Zbk (fun _ => 1) l j);obtain ⟨y, hy⟩ : ∃ y : Int, k + (Zm (fun _ => 1) (l.take j) : Nat) = y := ⟨_, rfl⟩;have hy1 : 1 ≤ y := by omega
  have hy2 : y ≤ 1099511627776 := by have := HK1.o; have := HLE.o; omega
  rw [hy];have HY := zh hy;clear hy HLE hbel
  by_cases hlt : j < l.length
  ·have hlt' : (j : Int) < l.length := by omega
   have HCT := zh (Zb8 (fun _ => 1) l j hlt);have HCL := zh (Zbk (fun _ => 1) l (j + 1));obtain ⟨b, o, cs, rfl, hF, hbl, hE, hcell⟩ := HEL.o j (by rw [Zbw]; exact hlt);rw [Zft Zfe (fun _ => 1) l k j hlt, HY.o] at hE;obtain ⟨rfl, _⟩ := hE;have HC := zh hcell;clear hcell;have HCE := zh (show (fun _ : ByteArray => (1 : Nat)) l[j] = 1 from rfl);go_upto_region 4 with (fail);refine Zbd [] [] (by kernel_rfl) (fun W1 hW1 => ?_);have hW1L : Za wr W1 := by rw [hW1]; exact (Za.refl _).drew
   replace HBL := zh (HBL.o.trans (Below.mono hW1L HBL.o.size));clear hW1 hW1L;have cW : W1.cell? ⟨b, o + j, none⟩ = some (.string (Zcp (y))) := by have hh := (HBL.o.cell (p := ⟨b, o + j * 1 + 0, none⟩) hbl).trans (HC.o 0 _ rfl); rw [Nat.mul_one] at hh; exact hh
   have hbW : b < W1.heap.size := Nat.lt_of_lt_of_le hbl HBL.o.size;have ysame : ((Zcp (y)).toList == (Zcp (y)).toList) = true := by simp
   refine tU 0 12 (v := ?_) rfl rfl (fun x hx => ?_) ?_;rotate_left
   ·go_simp;first|done|with_reducible rfl
   simp only [Act.put, nA, nB, nC];refine tU 1 13 (v := ?_) rfl rfl (fun x hx => ?_) ?_;rotate_left
   ·go_simp;first|done|with_reducible rfl
   simp only [Act.put, nA, nB, nC];refine tU 2 14 (v := ?_) rfl rfl (fun x hx => ?_) ?_;rotate_left
   ·go_simp;first|done|with_reducible rfl|rw[if_neg (by omega)]|rw[if_pos (by omega)]
   simp only [Act.put, nA, nB, nC];refine tU 3 15 (v := ?_) rfl rfl (fun x hx => ?_) ?_;rotate_left
   ·have x0 := (hx.cell ⟨b, o + j, none⟩ hbW).trans cW; go_simp;first|done|with_reducible rfl
   simp only [Act.put, nA, nB, nC];refine tU 4 16 (v := ?_) rfl rfl (fun x hx => ?_) ?_;rotate_left
   ·go_simp;first|done|with_reducible rfl
   simp only [Act.put, nA, nB, nC];refine Zce 5 (by kernel_rfl) rfl rfl ?_;go_wp2_with fail;refine (Zdk (y) W1 (by omega) (by have := HCE.o; have := HCT.o; have := HCL.o; have := HK1.o; have := HY.o; omega)).mono ?_;rintro e w1 ⟨rfl, hb1⟩;go_wp2_with fail;refine ⟨hb1, ?_⟩;refine tU 6 18 (v := ?_) rfl rfl (fun x hx => ?_) ?_;rotate_left
   ·go_simp;first|done|with_reducible rfl
   simp only [Act.put, nA, nB, nC];refine Zbl [] (by kernel_rfl) rfl rfl ?_;replace HBL := zh (HBL.o.trans (Below.mono hb1 HBL.o.size));clear hb1 cW hbW ysame;have n1_1 : y + 1 + 1 = y + 2 := by omega
   go_wp2_with fail
   go_roundw
   case rel => exact ⟨j + 1, by omega, by go_num, by have := HCE.o; have := HCT.o; have := HCL.o; have := HK1.o; have := HY.o; congr 1; omega, HBL.o⟩
   case measure => simp [intOf]; omega
  ·have hjl : j = l.length := by omega
   go_wp2_with fail;go_ret;subst hjl;refine ⟨Zat ?_, HBL.o⟩;have := HY.o;rw [List.take_length] at this;exact this.symm
theorem Zhg (l : List Zaw) (v : Value) (F : Nat → Prop) (w : World) (k : Int) (hk : 1 ≤ k) (hk1 : k + (Zm Zx l : Nat) ≤ 1099511627776) (hr : Zu Zaz 3 F w (Zb7 Zci Zx l k) v) :
  Calls Tryz.prog 81 #[v, .int .i64 k] w fun e w' => e = .returned (.int .i64 (k + (Zm Zx l : Nat))) ∧ Below w.heap.size w w' := by
 obtain ⟨A, cp, rfl, hc, hcm, hel⟩ := hr;have HEL := zh hel;clear hel;simp only [Zbw] at hc ⊢;unfold maxLen at hcm;have HK1 := zh hk1;clear hk1;go_enter Tryz.func81, Tryz.ntmps81;go_wp2_with fail
 go_loopw [1, 5] (fun kv i wr => ∃ j : Nat, j ≤ l.length ∧ i = .int .i64 j ∧ kv = .int .i64 (k + (Zm Zx (l.take j) : Nat)) ∧ Below w.heap.size w wr) (fun _ i _ => l.length - (intOf i).toNat)
 case atStart => exact ⟨0, Nat.zero_le _, rfl, by simp [Zm], Below.refl _ _⟩
 case round =>
  obtain ⟨j, hj, rfl, rfl, hbel⟩ := hrel;have HBL := zh hbel;have HLE := zh (Zbk Zx l j);obtain ⟨y, hy⟩ : ∃ y : Int, k + (Zm Zx (l.take j) : Nat) = y := ⟨_, rfl⟩;have hy1 : 1 ≤ y := by omega
  have hy2 : y ≤ 1099511627776 := by have := HK1.o; have := HLE.o; omega
  rw [hy];have HY := zh hy;clear hy HLE hbel
  by_cases hlt : j < l.length
  ·have hlt' : (j : Int) < l.length := by omega
   have HCT := zh (Zb8 Zx l j hlt);have HCL := zh (Zbk Zx l (j + 1));obtain ⟨b, o, cs, rfl, hF, hbl, hE, hcell⟩ := HEL.o j (by rw [Zbw]; exact hlt);rw [Zft Zci Zx l k j hlt, HY.o] at hE;have hE' : ∃ aU, cs = [.string (Zcp (y)), aU, .int .i64 ((y + 1 + (Zm (fun _ => 1) l[j].fields : Nat)))] ∧ Zu Zbp 1 F w (Zb7 Zfe (fun _ => 1) l[j].fields (y + 1)) aU := by
    obtain ⟨aU, e, bR, bS, bT⟩ := hE;exact ⟨_, e, bS⟩
   obtain ⟨aU, rfl, bS⟩ := hE';clear hE;have Rfields := zh bS;clear bS;have HC := zh hcell;clear hcell;have HCE := zh (show Zx l[j] = 2 + (Zm (fun _ => 1) l[j].fields) from rfl);go_upto_region 4 with (fail);refine Zbd [] [] (by kernel_rfl) (fun W1 hW1 => ?_);have hW1L : Za wr W1 := by rw [hW1]; exact (Za.refl _).drew
   replace HBL := zh (HBL.o.trans (Below.mono hW1L HBL.o.size));clear hW1 hW1L;have cW : W1.cell? ⟨b, o + j * 3, none⟩ = some (.string (Zcp (y))) := by have hh := (HBL.o.cell (p := ⟨b, o + j * 3 + 0, none⟩) hbl).trans (HC.o 0 _ rfl); exact hh
   have hbW : b < W1.heap.size := Nat.lt_of_lt_of_le hbl HBL.o.size;have ysame : ((Zcp (y)).toList == (Zcp (y)).toList) = true := by simp
   refine tU 0 12 (v := ?_) rfl rfl (fun x hx => ?_) ?_;rotate_left
   ·go_simp;first|done|with_reducible rfl
   simp only [Act.put, nA, nB, nC];refine tU 1 13 (v := ?_) rfl rfl (fun x hx => ?_) ?_;rotate_left
   ·go_simp;first|done|with_reducible rfl
   simp only [Act.put, nA, nB, nC];refine tU 2 14 (v := ?_) rfl rfl (fun x hx => ?_) ?_;rotate_left
   ·go_simp;first|done|with_reducible rfl|rw[if_neg (by omega)]|rw[if_pos (by omega)]
   simp only [Act.put, nA, nB, nC];refine tU 3 15 (v := ?_) rfl rfl (fun x hx => ?_) ?_;rotate_left
   ·go_simp;first|done|with_reducible rfl
   simp only [Act.put, nA, nB, nC];refine tU 4 16 (v := ?_) rfl rfl (fun x hx => ?_) ?_;rotate_left
   ·have x0 := (hx.cell ⟨b, o + j * 3, none⟩ hbW).trans cW; go_simp;first|done|with_reducible rfl
   simp only [Act.put, nA, nB, nC];refine tU 5 17 (v := ?_) rfl rfl (fun x hx => ?_) ?_;rotate_left
   ·go_simp;first|done|with_reducible rfl
   simp only [Act.put, nA, nB, nC];refine Zce 6 (by kernel_rfl) rfl rfl ?_;go_wp2_with fail;refine (Zdk (y) W1 (by omega) (by have := HCE.o; have := HCT.o; have := HCL.o; have := HK1.o; have := HY.o; omega)).mono ?_;rintro e w1 ⟨rfl, hb1⟩;go_wp2_with fail;refine ⟨hb1, ?_⟩;refine tU 7 19 (v := ?_) rfl rfl (fun x hx => ?_) ?_;rotate_left
   ·go_simp;first|done|with_reducible rfl
   simp only [Act.put, nA, nB, nC];refine Zbl [] (by kernel_rfl) rfl rfl ?_;replace HBL := zh (HBL.o.trans (Below.mono hb1 HBL.o.size));clear hb1 cW hbW ysame;have c1 : w1.cell? ⟨b, o + j * 3 + 1, none⟩ = some (aU) := by have hh := (HBL.o.cell (p := ⟨b, o + j * 3 + 1, none⟩) hbl).trans (HC.o 1 _ rfl); exact hh
   have n1_1 : y + 1 + 1 = y + 2 := by omega
   go_wp2_with fail;clear c1 n1_1;have HR2 : Hd (Zu Zbp 1 F w (Zb7 Zfe (fun _ => 1) l[j].fields (y + 1)) aU) := zh (by exact Rfields.o);refine (Zdp l[j].fields aU F _ (y + 1) (by omega) (by have := HCE.o; have := HCT.o; have := HCL.o; have := HK1.o; have := HY.o; omega) (HR2.o.keep Z4 (fun _ h => h) (Zc.later HBL.o))).mono ?_;rintro e w2 ⟨rfl, hb2⟩;replace HBL := zh (HBL.o.trans (Below.mono hb2 HBL.o.size));clear hb2 HR2;obtain ⟨y2, hy2⟩ : ∃ z : Int, y + 1 + (Zm (fun _ => 1) l[j].fields : Nat) = z := ⟨_, rfl⟩;rw [hy2];have HY2 := zh hy2;have hl2 : 1 ≤ y2 := by omega
   have hu2 : y2 ≤ 1099511627776 := by have := HCE.o; have := HCT.o; have := HCL.o; have := HK1.o; have := HY.o; omega
   have ht2 : decide (y2 < 0) = false := by simp; omega
   clear hy2;have c2 : w2.cell? ⟨b, o + j * 3 + 2, none⟩ = some (.int .i64 (y2)) := by rw [← HY2.o]; have hh := (HBL.o.cell (p := ⟨b, o + j * 3 + 2, none⟩) hbl).trans (HC.o 2 _ rfl); exact hh
   have n2_1 : y2 + 1 + 1 = y2 + 2 := by omega
   go_wp2_with fail
   go_roundw
   case rel => exact ⟨j + 1, by omega, by go_num, by have := HCE.o; have := HCT.o; have := HCL.o; have := HK1.o; have := HY.o; have := HY2.o; congr 1; omega, HBL.o⟩
   case measure => simp [intOf]; omega
  ·have hjl : j = l.length := by omega
   go_wp2_with fail;go_ret;subst hjl;refine ⟨Zat ?_, HBL.o⟩;have := HY.o;rw [List.take_length] at this;exact this.symm
theorem Zfg (l : List Zj) (v : Value) (F : Nat → Prop) (w : World) (k : Int) (hk : 1 ≤ k) (hk1 : k + (Zm Z3 l : Nat) ≤ 1099511627776) (hr : Zu Ze 6 F w (Zb7 Zcw Z3 l k) v) :
  Calls Tryz.prog 31 #[v, .int .i64 k] w fun e w' => e = .returned (.int .i64 (k + (Zm Z3 l : Nat))) ∧ Below w.heap.size w w' := by
 obtain ⟨A, cp, rfl, hc, hcm, hel⟩ := hr;have HEL := zh hel;clear hel;simp only [Zbw] at hc ⊢;unfold maxLen at hcm;have HK1 := zh hk1;clear hk1;go_enter Tryz.func31, Tryz.ntmps31;go_wp2_with fail
 go_loopw [1, 5] (fun kv i wr => ∃ j : Nat, j ≤ l.length ∧ i = .int .i64 j ∧ kv = .int .i64 (k + (Zm Z3 (l.take j) : Nat)) ∧ Below w.heap.size w wr) (fun _ i _ => l.length - (intOf i).toNat)
 case atStart => exact ⟨0, Nat.zero_le _, rfl, by simp [Zm], Below.refl _ _⟩
 case round =>
  obtain ⟨j, hj, rfl, rfl, hbel⟩ := hrel;have HBL := zh hbel;have HLE := zh (Zbk Z3 l j);obtain ⟨y, hy⟩ : ∃ y : Int, k + (Zm Z3 (l.take j) : Nat) = y := ⟨_, rfl⟩;have hy1 : 1 ≤ y := by omega
  have hy2 : y ≤ 1099511627776 := by have := HK1.o; have := HLE.o; omega
  rw [hy];have HY := zh hy;clear hy HLE hbel
  by_cases hlt : j < l.length
  ·have hlt' : (j : Int) < l.length := by omega
   have HCT := zh (Zb8 Z3 l j hlt);have HCL := zh (Zbk Z3 l (j + 1));obtain ⟨b, o, cs, rfl, hF, hbl, hE, hcell⟩ := HEL.o j (by rw [Zbw]; exact hlt);rw [Zft Zcw Z3 l k j hlt, HY.o] at hE;have hE' : cs = [.int .i64 (y), .int .i64 (y + 1), .int .i64 (y + 2), .string (Zcp (y + 3)), .int .i64 (y + 4), .int .i64 (y + 5)] := by
    obtain ⟨e, bH, bI, bJ, bK, bL, bM⟩ := hE;exact e
   obtain rfl := hE';clear hE;have HC := zh hcell;clear hcell;have HCE := zh (show Z3 l[j] = 6 from rfl);have c0 : wr.cell? ⟨b, o + j * 6, none⟩ = some (.int .i64 (y)) := by have hh := (HBL.o.cell (p := ⟨b, o + j * 6 + 0, none⟩) hbl).trans (HC.o 0 _ rfl); exact hh
   have c1 : wr.cell? ⟨b, o + j * 6 + 1, none⟩ = some (.int .i64 (y + 1)) := by have hh := (HBL.o.cell (p := ⟨b, o + j * 6 + 1, none⟩) hbl).trans (HC.o 1 _ rfl); exact hh
   have c2 : wr.cell? ⟨b, o + j * 6 + 2, none⟩ = some (.int .i64 (y + 2)) := by have hh := (HBL.o.cell (p := ⟨b, o + j * 6 + 2, none⟩) hbl).trans (HC.o 2 _ rfl); exact hh
   have n0_1 : y + 1 + 1 = y + 2 := by omega
   have n0_2 : y + 2 + 1 = y + 3 := by omega
   have n0_3 : y + 3 + 1 = y + 4 := by omega
   go_upto_region 13 with (fail);clear c0 c1 c2 n0_1 n0_2 n0_3;refine Zbd [] [] (by kernel_rfl) (fun W1 hW1 => ?_);have hW1L : Za wr W1 := by rw [hW1]; exact (Za.refl _).drew
   replace HBL := zh (HBL.o.trans (Below.mono hW1L HBL.o.size));clear hW1 hW1L;have cW : W1.cell? ⟨b, o + j * 6 + 3, none⟩ = some (.string (Zcp (y + 3))) := by have hh := (HBL.o.cell (p := ⟨b, o + j * 6 + 3, none⟩) hbl).trans (HC.o 3 _ rfl); exact hh
   have hbW : b < W1.heap.size := Nat.lt_of_lt_of_le hbl HBL.o.size;have ysame : ((Zcp (y + 3)).toList == (Zcp (y + 3)).toList) = true := by simp
   refine tU 0 39 (v := ?_) rfl rfl (fun x hx => ?_) ?_;rotate_left
   ·go_simp;first|done|with_reducible rfl
   simp only [Act.put, nA, nB, nC];refine tU 1 40 (v := ?_) rfl rfl (fun x hx => ?_) ?_;rotate_left
   ·go_simp;first|done|with_reducible rfl
   simp only [Act.put, nA, nB, nC];refine tU 2 41 (v := ?_) rfl rfl (fun x hx => ?_) ?_;rotate_left
   ·go_simp;first|done|with_reducible rfl|rw[if_neg (by omega)]|rw[if_pos (by omega)]
   simp only [Act.put, nA, nB, nC];refine tU 3 42 (v := ?_) rfl rfl (fun x hx => ?_) ?_;rotate_left
   ·go_simp;first|done|with_reducible rfl
   simp only [Act.put, nA, nB, nC];refine tU 4 43 (v := ?_) rfl rfl (fun x hx => ?_) ?_;rotate_left
   ·have x0 := (hx.cell ⟨b, o + j * 6 + 3, none⟩ hbW).trans cW; go_simp;first|done|with_reducible rfl
   simp only [Act.put, nA, nB, nC];refine tU 5 44 (v := ?_) rfl rfl (fun x hx => ?_) ?_;rotate_left
   ·go_simp;first|done|with_reducible rfl
   simp only [Act.put, nA, nB, nC];refine Zce 6 (by kernel_rfl) rfl rfl ?_;go_wp2_with fail;refine (Zdk (y + 3) W1 (by omega) (by have := HCE.o; have := HCT.o; have := HCL.o; have := HK1.o; have := HY.o; omega)).mono ?_;rintro e w1 ⟨rfl, hb1⟩;go_wp2_with fail;refine ⟨hb1, ?_⟩;refine tU 7 46 (v := ?_) rfl rfl (fun x hx => ?_) ?_;rotate_left
   ·go_simp;first|done|with_reducible rfl
   simp only [Act.put, nA, nB, nC];refine Zbl [] (by kernel_rfl) rfl rfl ?_;replace HBL := zh (HBL.o.trans (Below.mono hb1 HBL.o.size));clear hb1 cW hbW ysame;have c4 : w1.cell? ⟨b, o + j * 6 + 4, none⟩ = some (.int .i64 (y + 4)) := by have hh := (HBL.o.cell (p := ⟨b, o + j * 6 + 4, none⟩) hbl).trans (HC.o 4 _ rfl); exact hh
   have c5 : w1.cell? ⟨b, o + j * 6 + 5, none⟩ = some (.int .i64 (y + 5)) := by have hh := (HBL.o.cell (p := ⟨b, o + j * 6 + 5, none⟩) hbl).trans (HC.o 5 _ rfl); exact hh
   have n1_1 : y + 1 + 1 = y + 2 := by omega
   have n1_2 : y + 2 + 1 = y + 3 := by omega
   have n1_3 : y + 3 + 1 = y + 4 := by omega
   have n1_4 : y + 4 + 1 = y + 5 := by omega
   have n1_5 : y + 5 + 1 = y + 6 := by omega
   have n1_6 : y + 6 + 1 = y + 7 := by omega
   go_wp2_with fail
   go_roundw
   case rel => exact ⟨j + 1, by omega, by go_num, by have := HCE.o; have := HCT.o; have := HCL.o; have := HK1.o; have := HY.o; congr 1; omega, HBL.o⟩
   case measure => simp [intOf]; omega
  ·have hjl : j = l.length := by omega
   go_wp2_with fail;go_ret;subst hjl;refine ⟨Zat ?_, HBL.o⟩;have := HY.o;rw [List.take_length] at this;exact this.symm
theorem Zjo (l : List Zay) (v : Value) (F : Nat → Prop) (w : World) (k : Int) (hk : 1 ≤ k) (hk1 : k + (Zm Zab l : Nat) ≤ 1099511627776) (hr : Zu Zbq 5 F w (Zb7 Zdv Zab l k) v) :
  Calls Tryz.prog 82 #[v, .int .i64 k] w fun e w' => e = .returned (.int .i64 (k + (Zm Zab l : Nat))) ∧ Below w.heap.size w w' := by
 obtain ⟨A, cp, rfl, hc, hcm, hel⟩ := hr;have HEL := zh hel;clear hel;simp only [Zbw] at hc ⊢;unfold maxLen at hcm;have HK1 := zh hk1;clear hk1;go_enter Tryz.func82, Tryz.ntmps82;go_wp2_with fail
 go_loopw [1, 5] (fun kv i wr => ∃ j : Nat, j ≤ l.length ∧ i = .int .i64 j ∧ kv = .int .i64 (k + (Zm Zab (l.take j) : Nat)) ∧ Below w.heap.size w wr) (fun _ i _ => l.length - (intOf i).toNat)
 case atStart => exact ⟨0, Nat.zero_le _, rfl, by simp [Zm], Below.refl _ _⟩
 case round =>
  obtain ⟨j, hj, rfl, rfl, hbel⟩ := hrel;have HBL := zh hbel;have HLE := zh (Zbk Zab l j);obtain ⟨y, hy⟩ : ∃ y : Int, k + (Zm Zab (l.take j) : Nat) = y := ⟨_, rfl⟩;have hy1 : 1 ≤ y := by omega
  have hy2 : y ≤ 1099511627776 := by have := HK1.o; have := HLE.o; omega
  rw [hy];have HY := zh hy;clear hy HLE hbel
  by_cases hlt : j < l.length
  ·have hlt' : (j : Int) < l.length := by omega
   have HCT := zh (Zb8 Zab l j hlt);have HCL := zh (Zbk Zab l (j + 1));obtain ⟨b, o, cs, rfl, hF, hbl, hE, hcell⟩ := HEL.o j (by rw [Zbw]; exact hlt);rw [Zft Zdv Zab l k j hlt, HY.o] at hE;have hE' : ∃ aS aT, cs = [.int .i64 (y), .int .i64 (y + 1), .int .i64 (y + 2), aS, aT] ∧ Zu Ze 6 F w (Zb7 Zcw Z3 l[j].aJ (y + 3)) aS ∧ Zu Ze 6 F w (Zb7 Zcw Z3 l[j].aK ((y + 3 + (Zm Z3 l[j].aJ : Nat)))) aT := by
    obtain ⟨aS, aT, e, bH, bN, bO, bP, bQ⟩ := hE;exact ⟨_, _, e, bP, bQ⟩
   obtain ⟨aS, aT, rfl, bP, bQ⟩ := hE';clear hE;have Ritems := zh bP;clear bP;have Rkeys := zh bQ;clear bQ;have HC := zh hcell;clear hcell;have HCE := zh (show Zab l[j] = 3 + (Zm Z3 l[j].aJ + (Zm Z3 l[j].aK)) from rfl);have c0 : wr.cell? ⟨b, o + j * 5, none⟩ = some (.int .i64 (y)) := by have hh := (HBL.o.cell (p := ⟨b, o + j * 5 + 0, none⟩) hbl).trans (HC.o 0 _ rfl); exact hh
   have c1 : wr.cell? ⟨b, o + j * 5 + 1, none⟩ = some (.int .i64 (y + 1)) := by have hh := (HBL.o.cell (p := ⟨b, o + j * 5 + 1, none⟩) hbl).trans (HC.o 1 _ rfl); exact hh
   have c2 : wr.cell? ⟨b, o + j * 5 + 2, none⟩ = some (.int .i64 (y + 2)) := by have hh := (HBL.o.cell (p := ⟨b, o + j * 5 + 2, none⟩) hbl).trans (HC.o 2 _ rfl); exact hh
   have c3 : wr.cell? ⟨b, o + j * 5 + 3, none⟩ = some (aS) := by have hh := (HBL.o.cell (p := ⟨b, o + j * 5 + 3, none⟩) hbl).trans (HC.o 3 _ rfl); exact hh
   have n0_1 : y + 1 + 1 = y + 2 := by omega
   have n0_2 : y + 2 + 1 = y + 3 := by omega
   have n0_3 : y + 3 + 1 = y + 4 := by omega
   go_wp2_with fail;clear c0 c1 c2 c3 n0_1 n0_2 n0_3;have HR1 : Hd (Zu Ze 6 F w (Zb7 Zcw Z3 l[j].aJ (y + 3)) aS) := zh (by exact Ritems.o);refine (Zfg l[j].aJ aS F _ (y + 3) (by omega) (by have := HCE.o; have := HCT.o; have := HCL.o; have := HK1.o; have := HY.o; omega) (HR1.o.keep Zb (fun _ h => h) (Zc.later HBL.o))).mono ?_;rintro e w1 ⟨rfl, hb1⟩;replace HBL := zh (HBL.o.trans (Below.mono hb1 HBL.o.size));clear hb1 HR1;obtain ⟨y1, hy1⟩ : ∃ z : Int, y + 3 + (Zm Z3 l[j].aJ : Nat) = z := ⟨_, rfl⟩;rw [hy1];have HY1 := zh hy1;have hl1 : 1 ≤ y1 := by omega
   have hu1 : y1 ≤ 1099511627776 := by have := HCE.o; have := HCT.o; have := HCL.o; have := HK1.o; have := HY.o; omega
   have ht1 : decide (y1 < 0) = false := by simp; omega
   clear hy1;have c4 : w1.cell? ⟨b, o + j * 5 + 4, none⟩ = some (aT) := by have hh := (HBL.o.cell (p := ⟨b, o + j * 5 + 4, none⟩) hbl).trans (HC.o 4 _ rfl); exact hh
   go_wp2_with fail;clear c4;have HR2 : Hd (Zu Ze 6 F w (Zb7 Zcw Z3 l[j].aK (y1)) aT) := zh (by rw [← HY1.o]; exact Rkeys.o);refine (Zfg l[j].aK aT F _ (y1) (by omega) (by have := HCE.o; have := HCT.o; have := HCL.o; have := HK1.o; have := HY.o; have := HY1.o; omega) (HR2.o.keep Zb (fun _ h => h) (Zc.later HBL.o))).mono ?_;rintro e w2 ⟨rfl, hb2⟩;replace HBL := zh (HBL.o.trans (Below.mono hb2 HBL.o.size));clear hb2 HR2;obtain ⟨y2, hy2⟩ : ∃ z : Int, y1 + (Zm Z3 l[j].aK : Nat) = z := ⟨_, rfl⟩;rw [hy2];have HY2 := zh hy2;have hl2 : 1 ≤ y2 := by omega
   have hu2 : y2 ≤ 1099511627776 := by have := HCE.o; have := HCT.o; have := HCL.o; have := HK1.o; have := HY.o; have := HY1.o; omega
   have ht2 : decide (y2 < 0) = false := by simp; omega
   clear hy2;go_wp2_with fail
   go_roundw
   case rel => exact ⟨j + 1, by omega, by go_num, by have := HCE.o; have := HCT.o; have := HCL.o; have := HK1.o; have := HY.o; have := HY1.o; have := HY2.o; congr 1; omega, HBL.o⟩
   case measure => simp [intOf]; omega
  ·have hjl : j = l.length := by omega
   go_wp2_with fail;go_ret;subst hjl;refine ⟨Zat ?_, HBL.o⟩;have := HY.o;rw [List.take_length] at this;exact this.symm
theorem Zjp (l : List Zdd) (v : Value) (F : Nat → Prop) (w : World) (k : Int) (hk : 1 ≤ k) (hk1 : k + (Zm Zal l : Nat) ≤ 1099511627776) (hr : Zu Zbf 2 F w (Zb7 Zdw Zal l k) v) :
  Calls Tryz.prog 83 #[v, .int .i64 k] w fun e w' => e = .returned (.int .i64 (k + (Zm Zal l : Nat))) ∧ Below w.heap.size w w' := by
 obtain ⟨A, cp, rfl, hc, hcm, hel⟩ := hr;have HEL := zh hel;clear hel;simp only [Zbw] at hc ⊢;unfold maxLen at hcm;have HK1 := zh hk1;clear hk1;go_enter Tryz.func83, Tryz.ntmps83;go_wp2_with fail
 go_loopw [1, 5] (fun kv i wr => ∃ j : Nat, j ≤ l.length ∧ i = .int .i64 j ∧ kv = .int .i64 (k + (Zm Zal (l.take j) : Nat)) ∧ Below w.heap.size w wr) (fun _ i _ => l.length - (intOf i).toNat)
 case atStart => exact ⟨0, Nat.zero_le _, rfl, by simp [Zm], Below.refl _ _⟩
 case round =>
  obtain ⟨j, hj, rfl, rfl, hbel⟩ := hrel;have HBL := zh hbel;have HLE := zh (Zbk Zal l j);obtain ⟨y, hy⟩ : ∃ y : Int, k + (Zm Zal (l.take j) : Nat) = y := ⟨_, rfl⟩;have hy1 : 1 ≤ y := by omega
  have hy2 : y ≤ 1099511627776 := by have := HK1.o; have := HLE.o; omega
  rw [hy];have HY := zh hy;clear hy HLE hbel
  by_cases hlt : j < l.length
  ·have hlt' : (j : Int) < l.length := by omega
   have HCT := zh (Zb8 Zal l j hlt);have HCL := zh (Zbk Zal l (j + 1));obtain ⟨b, o, cs, rfl, hF, hbl, hE, hcell⟩ := HEL.o j (by rw [Zbw]; exact hlt);rw [Zft Zdw Zal l k j hlt, HY.o] at hE;have hE' : cs = [.int .i64 (y), .int .i64 (y + 1)] := by
    obtain ⟨e, hroutine, hframe⟩ := hE;exact e
   obtain rfl := hE';clear hE;have HC := zh hcell;clear hcell;have HCE := zh (show Zal l[j] = 2 from rfl);have c0 : wr.cell? ⟨b, o + j * 2, none⟩ = some (.int .i64 (y)) := by have hh := (HBL.o.cell (p := ⟨b, o + j * 2 + 0, none⟩) hbl).trans (HC.o 0 _ rfl); exact hh
   have c1 : wr.cell? ⟨b, o + j * 2 + 1, none⟩ = some (.int .i64 (y + 1)) := by have hh := (HBL.o.cell (p := ⟨b, o + j * 2 + 1, none⟩) hbl).trans (HC.o 1 _ rfl); exact hh
   have n0_1 : y + 1 + 1 = y + 2 := by omega
   have n0_2 : y + 2 + 1 = y + 3 := by omega
   go_wp2_with fail
   go_roundw
   case rel => exact ⟨j + 1, by omega, by go_num, by have := HCE.o; have := HCT.o; have := HCL.o; have := HK1.o; have := HY.o; congr 1; omega, HBL.o⟩
   case measure => simp [intOf]; omega
  ·have hjl : j = l.length := by omega
   go_wp2_with fail;go_ret;subst hjl;refine ⟨Zat ?_, HBL.o⟩;have := HY.o;rw [List.take_length] at this;exact this.symm
theorem Zen (r : Zh) (cs : List Value) (F : Nat → Prop) (w : World) (k : Int) (hk : 1 ≤ k) (hk1 : k + (Zap r : Nat) ≤ 1099511627776) (h : Zb6 F w (Zle r k) cs) :
  Calls Tryz.prog 35 #[.agg cs.toArray, .int .i64 k] w fun e w' => e = .returned (.int .i64 (k + (Zap r : Nat))) ∧ Below w.heap.size w w' := by
 have h' : ∃ aL aM aN aO aP aQ aR, cs = [aL, aM, aN, aO, .string r.aC, .int .i64 r.aD, aP, aQ, aR, .bool r.aF, .int .i64 r.ticks, .int .i64 r.aG, .int .i64 r.made] ∧ Zu Zbp 1 F w (Zb7 Zfe (fun _ => 1) r.names (k)) aL ∧ Zu Zaz 3 F w (Zb7 Zci Zx r.aB (k + (Zm (fun _ => 1) r.names : Nat))) aM ∧ Zu Zbq 5 F w (Zb7 Zdv Zab r.aA (k + (Zm (fun _ => 1) r.names : Nat) + (Zm Zx r.aB : Nat))) aN ∧ Zu Ze 6 F w (Zb7 Zcw Z3 r.globals (k + (Zm (fun _ => 1) r.names : Nat) + (Zm Zx r.aB : Nat) + (Zm Zab r.aA : Nat))) aO ∧ Zu Zbp 1 F w (Zb7 Zfe (fun _ => 1) r.output (k + (Zm (fun _ => 1) r.names : Nat) + (Zm Zx r.aB : Nat) + (Zm Zab r.aA : Nat) + (Zm Z3 r.globals : Nat))) aP ∧ Zu Zbp 1 F w (Zb7 Zfe (fun _ => 1) r.trace (k + (Zm (fun _ => 1) r.names : Nat) + (Zm Zx r.aB : Nat) + (Zm Zab r.aA : Nat) + (Zm Z3 r.globals : Nat) + (Zm (fun _ => 1) r.output : Nat))) aQ ∧ Zu Zbf 2 F w (Zb7 Zdw Zal r.aE (k + (Zm (fun _ => 1) r.names : Nat) + (Zm Zx r.aB : Nat) + (Zm Zab r.aA : Nat) + (Zm Z3 r.globals : Nat) + (Zm (fun _ => 1) r.output : Nat) + (Zm (fun _ => 1) r.trace : Nat))) aR := by
  obtain ⟨aL, aM, aN, aO, aP, aQ, aR, e, aV, aW, aX, aY, aZ, bA, bB, bC, bD, bE, bF, bG⟩ := h;exact ⟨_, _, _, _, _, _, _, e, aV, aW, aX, aY, bB, bC, bD⟩
 obtain ⟨aL, aM, aN, aO, aP, aQ, aR, rfl, aV, aW, aX, aY, bB, bC, bD⟩ := h';clear h;have HCE := zh (show Zap r = Zm (fun _ => 1) r.names + Zm Zx r.aB + Zm Zab r.aA + Zm Z3 r.globals + Zm (fun _ => 1) r.output + Zm (fun _ => 1) r.trace + Zm Zal r.aE from rfl);have HK1 := zh hk1;clear hk1;have HP := zh (heap_alloc_new w (.cells #[aL, aM, aN, aO, .string r.aC, .int .i64 r.aD, aP, aQ, aR, .bool r.aF, .int .i64 r.ticks, .int .i64 r.aG, .int .i64 r.made] 30));have HB := zh ((Below.refl w.heap.size w).alloc (Nat.le_refl _) (.cells #[aL, aM, aN, aO, .string r.aC, .int .i64 r.aD, aP, aQ, aR, .bool r.aF, .int .i64 r.ticks, .int .i64 r.aG, .int .i64 r.made] 30));have Rnames := zh aV;clear aV;have Rrecords := zh aW;clear aW;have Robjects := zh aX;clear aX;have Rglobals := zh aY;clear aY;have Routput := zh bB;clear bB;have Rtrace := zh bC;clear bC;have Ractives := zh bD;clear bD;go_enter Tryz.func35, Tryz.ntmps35;go_wp2_with fail;refine (Zdp r.names aL F _ k (by omega) (by have := HCE.o; have := HK1.o; omega) (Rnames.o.later Z4 HB.o)).mono ?_;rintro e w0 ⟨rfl, hb0⟩;replace HP := zC hb0 HP;replace HB := zh (HB.o.trans (Below.mono hb0 HB.o.size))
 clear hb0;obtain ⟨y0, hy0⟩ : ∃ z : Int, k + (Zm (fun _ => 1) r.names : Nat) = z := ⟨_, rfl⟩;rw [hy0];rw [hy0] at Rrecords Robjects Rglobals Routput Rtrace Ractives;have HY0 := zh hy0;have hl0 : 1 ≤ y0 := by omega
 have hu0 : y0 ≤ 1099511627776 := by have := HCE.o; have := HK1.o; omega
 have ht0 : decide (y0 < 0) = false := by simp; omega
 clear hy0;have p1 := cq HP.o 1;simp only [nD, nE, nF] at p1;go_wp2_with fail;refine (Zhg r.aB aM F _ y0 (by omega) (by have := HCE.o; have := HK1.o; have := HY0.o; omega) (Rrecords.o.later Zak HB.o)).mono ?_;rintro e w1 ⟨rfl, hb1⟩;clear p1;replace HP := zC hb1 HP;replace HB := zh (HB.o.trans (Below.mono hb1 HB.o.size));clear hb1;obtain ⟨y1, hy1⟩ : ∃ z : Int, y0 + (Zm Zx r.aB : Nat) = z := ⟨_, rfl⟩;rw [hy1];rw [hy1] at Robjects Rglobals Routput Rtrace Ractives;have HY1 := zh hy1;have hl1 : 1 ≤ y1 := by omega
 have hu1 : y1 ≤ 1099511627776 := by have := HCE.o; have := HK1.o; have := HY0.o; omega
 have ht1 : decide (y1 < 0) = false := by simp; omega
 clear hy1;have p2 := cq HP.o 2;simp only [nD, nE, nF] at p2;go_wp2_with fail;refine (Zjo r.aA aN F _ y1 (by omega) (by have := HCE.o; have := HK1.o; have := HY0.o; have := HY1.o; omega) (Robjects.o.later Za9 HB.o)).mono ?_;rintro e w2 ⟨rfl, hb2⟩;clear p2;replace HP := zC hb2 HP;replace HB := zh (HB.o.trans (Below.mono hb2 HB.o.size));clear hb2;obtain ⟨y2, hy2⟩ : ∃ z : Int, y1 + (Zm Zab r.aA : Nat) = z := ⟨_, rfl⟩;rw [hy2];rw [hy2] at Rglobals Routput Rtrace Ractives;have HY2 := zh hy2;have hl2 : 1 ≤ y2 := by omega
 have hu2 : y2 ≤ 1099511627776 := by have := HCE.o; have := HK1.o; have := HY0.o; have := HY1.o; omega
 have ht2 : decide (y2 < 0) = false := by simp; omega
 clear hy2;have p3 := cq HP.o 3;simp only [nD, nE, nF] at p3;go_wp2_with fail;refine (Zfg r.globals aO F _ y2 (by omega) (by have := HCE.o; have := HK1.o; have := HY0.o; have := HY1.o; have := HY2.o; omega) (Rglobals.o.later Zb HB.o)).mono ?_;rintro e w3 ⟨rfl, hb3⟩;clear p3;replace HP := zC hb3 HP;replace HB := zh (HB.o.trans (Below.mono hb3 HB.o.size));clear hb3;obtain ⟨y3, hy3⟩ : ∃ z : Int, y2 + (Zm Z3 r.globals : Nat) = z := ⟨_, rfl⟩;rw [hy3];rw [hy3] at Routput Rtrace Ractives;have HY3 := zh hy3;have hl3 : 1 ≤ y3 := by omega
 have hu3 : y3 ≤ 1099511627776 := by have := HCE.o; have := HK1.o; have := HY0.o; have := HY1.o; have := HY2.o; omega
 have ht3 : decide (y3 < 0) = false := by simp; omega
 clear hy3;have p6 := cq HP.o 6;simp only [nD, nE, nF] at p6;go_wp2_with fail;refine (Zdp r.output aP F _ y3 (by omega) (by have := HCE.o; have := HK1.o; have := HY0.o; have := HY1.o; have := HY2.o; have := HY3.o; omega) (Routput.o.later Z4 HB.o)).mono ?_;rintro e w4 ⟨rfl, hb4⟩;clear p6;replace HP := zC hb4 HP;replace HB := zh (HB.o.trans (Below.mono hb4 HB.o.size));clear hb4;obtain ⟨y4, hy4⟩ : ∃ z : Int, y3 + (Zm (fun _ => 1) r.output : Nat) = z := ⟨_, rfl⟩;rw [hy4];rw [hy4] at Rtrace Ractives;have HY4 := zh hy4;have hl4 : 1 ≤ y4 := by omega
 have hu4 : y4 ≤ 1099511627776 := by have := HCE.o; have := HK1.o; have := HY0.o; have := HY1.o; have := HY2.o; have := HY3.o; omega
 have ht4 : decide (y4 < 0) = false := by simp; omega
 clear hy4;have p7 := cq HP.o 7;simp only [nD, nE, nF] at p7;go_wp2_with fail;refine (Zdp r.trace aQ F _ y4 (by omega) (by have := HCE.o; have := HK1.o; have := HY0.o; have := HY1.o; have := HY2.o; have := HY3.o; have := HY4.o; omega) (Rtrace.o.later Z4 HB.o)).mono ?_;rintro e w5 ⟨rfl, hb5⟩;clear p7;replace HP := zC hb5 HP;replace HB := zh (HB.o.trans (Below.mono hb5 HB.o.size));clear hb5;obtain ⟨y5, hy5⟩ : ∃ z : Int, y4 + (Zm (fun _ => 1) r.trace : Nat) = z := ⟨_, rfl⟩;rw [hy5];rw [hy5] at Ractives;have HY5 := zh hy5;have hl5 : 1 ≤ y5 := by omega
 have hu5 : y5 ≤ 1099511627776 := by have := HCE.o; have := HK1.o; have := HY0.o; have := HY1.o; have := HY2.o; have := HY3.o; have := HY4.o; omega
 have ht5 : decide (y5 < 0) = false := by simp; omega
 clear hy5;have p8 := cq HP.o 8;simp only [nD, nE, nF] at p8;go_wp2_with fail;refine (Zjp r.aE aR F _ y5 (by omega) (by have := HCE.o; have := HK1.o; have := HY0.o; have := HY1.o; have := HY2.o; have := HY3.o; have := HY4.o; have := HY5.o; omega) (Ractives.o.later Zba HB.o)).mono ?_;rintro e w6 ⟨rfl, hb6⟩;clear p8;replace HP := zC hb6 HP;replace HB := zh (HB.o.trans (Below.mono hb6 HB.o.size));clear hb6;obtain ⟨y6, hy6⟩ : ∃ z : Int, y5 + (Zm Zal r.aE : Nat) = z := ⟨_, rfl⟩;rw [hy6];have HY6 := zh hy6;have hl6 : 1 ≤ y6 := by omega
 have hu6 : y6 ≤ 1099511627776 := by have := HCE.o; have := HK1.o; have := HY0.o; have := HY1.o; have := HY2.o; have := HY3.o; have := HY4.o; have := HY5.o; omega
 have ht6 : decide (y6 < 0) = false := by simp; omega
 clear hy6;go_wp2_with fail;go_ret;exact ⟨Zat (by have := HCE.o; have := HK1.o; have := HY0.o; have := HY1.o; have := HY2.o; have := HY3.o; have := HY4.o; have := HY5.o; have := HY6.o; omega), HB.o⟩
theorem Zd2 (l : List ByteArray) (v v' : Value) (F G : Nat → Prop) (w : World) (hr : Zu Zbp 1 F w l v) (gr : Zu Zbp 1 G w l v') :
  Calls Tryz.prog 68 #[v, v'] w fun e w' => e = .returned (.bool true) ∧ Below w.heap.size w w' := by
 obtain ⟨A, c, rfl, hc, hcm, hel⟩ := hr;obtain ⟨A', c', rfl, hc', hcm', gel⟩ := gr;unfold maxLen at hcm hcm';have HEL := zh hel;have GEL := zh gel;clear hel gel;go_enter Tryz.func68, Tryz.ntmps68;go_wp2_with fail
 go_loopw [5] (fun i wr => ∃ j : Nat, j ≤ l.length ∧ i = .int .i64 j ∧ Below w.heap.size w wr) (fun i _ => l.length - (intOf i).toNat)
 case atStart => exact ⟨0, Nat.zero_le _, rfl, Below.refl _ _⟩
 case round =>
  obtain ⟨j, hj, rfl, hbel⟩ := hrel;have hsz := hbel.size
  by_cases hlt : j < l.length
  ·obtain ⟨b, o, cs, rfl, hF, hbl, hE, hcell⟩ := HEL.o j hlt;obtain ⟨b2, o2, cs2, rfl, hF2, hbl2, hG, hcell2⟩ := GEL.o j hlt
   skip
   skip
   obtain ⟨rfl, hsm⟩ := hE;obtain ⟨rfl, _⟩ := hG;have hlt' : (j : Int) < l.length := by omega
   have e0 := (hbel.cell (p := ⟨b, o + j * 1 + 0, none⟩) hbl).trans (hcell 0 _ rfl);have g0 := (hbel.cell (p := ⟨b2, o2 + j * 1 + 0, none⟩) hbl2).trans (hcell2 0 _ rfl);simp only [Nat.mul_one, Nat.add_zero] at e0 g0;have ysame : (l[j].toList == l[j].toList) = true := by simp
   obtain ⟨s, hs⟩ : ∃ s, l[j] = s := ⟨_, rfl⟩;rw [hs] at e0 g0 ysame;have hbr : b < wr.heap.size := Nat.lt_of_lt_of_le hbl hsz;have hb2r : b2 < wr.heap.size := Nat.lt_of_lt_of_le hbl2 hsz;clear hcell hcell2 hsm hs;go_upto_region 6 with (fail);refine Z6 (fun W hW => ?_);have hWL : Za wr W := by rw [hW]; exact (Za.refl _).drew
   have eW0 := (hWL.cell ⟨b, o + j, none⟩ hbr).trans e0;have gW0 := (hWL.cell ⟨b2, o2 + j, none⟩ hb2r).trans g0;have hbW : b < W.heap.size := Nat.lt_of_lt_of_le hbr hWL.size;have hb2W : b2 < W.heap.size := Nat.lt_of_lt_of_le hb2r hWL.size;clear hW
   repeat go_big_quiet_step (fail)
   refine wpQuiet_nil ?_;clear e0 g0;have hb5 := hbel.trans (Below.mono hWL hbel.size);clear hWL eW0 gW0;go_wp2_with fail
   go_roundw
   case rel => exact ⟨j + 1, by omega, by go_num, hb5⟩
   case measure => simp [intOf]; omega
  ·have hjl : j = l.length := by omega
   go_wp2_with fail;go_ret;exact ⟨rfl, hbel⟩
theorem Znq (r : Zi6) (cs cs' : List Value) (F G : Nat → Prop) (w : World) (h : Zf5 F w r cs) (g : Zf5 G w r cs') :
  Calls Tryz.prog 67 #[.agg cs.toArray, .agg cs'.toArray] w fun e w' => e = .returned (.bool true) ∧ Below w.heap.size w w' := by
 obtain ⟨rfl, hlow, hhigh⟩ := h;obtain ⟨rfl, _, _⟩ := g;clear hlow hhigh;go_enter Tryz.func67, Tryz.ntmps67;go_wp2_with fail;go_ret;exact ⟨rfl, ((Below.refl _ _).alloc (Nat.le_refl _) _).alloc (by simp) _⟩
theorem Zij (r : Zaw) (cs cs' : List Value) (F G : Nat → Prop) (w : World) (h : Zaz F w r cs) (g : Zaz G w r cs') :
  Calls Tryz.prog 120 #[.agg cs.toArray, .agg cs'.toArray] w fun e w' => e = .returned (.bool true) ∧ Below w.heap.size w w' := by
 obtain ⟨aU, rfl, bR, bS, bT⟩ := h;obtain ⟨vfields', rfl, _, cL, _⟩ := g;have yname : (r.name.toList == r.name.toList) = true := by simp
 clear bR;have Hfields := zh bS;have Gfields := zh cL;clear bS cL;clear bT;have HP := zh ((Za.refl _).alloc (.cells #[.string r.name, vfields', .int .i64 r.line] 136) |>.block _ (by simp) |>.trans (heap_alloc_new w (.cells #[.string r.name, aU, .int .i64 r.line] 136)));have HZ := zh (heap_alloc_new (w.alloc (.cells #[.string r.name, aU, .int .i64 r.line] 136)) (.cells #[.string r.name, vfields', .int .i64 r.line] 136));simp only [Zbj] at HZ;have HB := zh (((Below.refl w.heap.size w).alloc (Nat.le_refl _) (.cells #[.string r.name, aU, .int .i64 r.line] 136)).alloc (by simp) (.cells #[.string r.name, vfields', .int .i64 r.line] 136));go_enter Tryz.func120, Tryz.ntmps120;go_wp2_with fail;refine (Zd2 r.fields aU vfields' F G _ (Hfields.o.later Z4 HB.o) (Gfields.o.later Z4 HB.o)).mono ?_;rintro e w1 ⟨rfl, hb1⟩;replace HP := zC hb1 HP;replace HZ := zC hb1 HZ;replace HB := zh (HB.o.trans (Below.mono hb1 HB.o.size));clear hb1;have p0 := cz3 HP.o;have z0 := cz3 HZ.o;go_wp2_with fail;go_ret;exact ⟨rfl, HB.o⟩
theorem Zht (l : List Zaw) (v v' : Value) (F G : Nat → Prop) (w : World) (hr : Zu Zaz 3 F w l v) (gr : Zu Zaz 3 G w l v') :
  Calls Tryz.prog 69 #[v, v'] w fun e w' => e = .returned (.bool true) ∧ Below w.heap.size w w' := by
 obtain ⟨A, c, rfl, hc, hcm, hel⟩ := hr;obtain ⟨A', c', rfl, hc', hcm', gel⟩ := gr;unfold maxLen at hcm hcm';have HEL := zh hel;have GEL := zh gel;clear hel gel;go_enter Tryz.func69, Tryz.ntmps69;go_wp2_with fail
 go_loopw [5] (fun i wr => ∃ j : Nat, j ≤ l.length ∧ i = .int .i64 j ∧ Below w.heap.size w wr) (fun i _ => l.length - (intOf i).toNat)
 case atStart => exact ⟨0, Nat.zero_le _, rfl, Below.refl _ _⟩
 case round =>
  obtain ⟨j, hj, rfl, hbel⟩ := hrel;have hsz := hbel.size
  by_cases hlt : j < l.length
  ·obtain ⟨b, o, cs, rfl, hF, hbl, hE, hcell⟩ := HEL.o j hlt;obtain ⟨b2, o2, cs2, rfl, hF2, hbl2, hG, hcell2⟩ := GEL.o j hlt;have hE' := hE;have hG' := hG;obtain ⟨aU, rfl, hfacts⟩ := hE;obtain ⟨vfields', rfl, hfacts2⟩ := hG;have hlt' : (j : Int) < l.length := by omega
   have e0 := (hbel.cell (p := ⟨b, o + j * 3 + 0, none⟩) hbl).trans (hcell 0 _ rfl);have e1 := (hbel.cell (p := ⟨b, o + j * 3 + 1, none⟩) hbl).trans (hcell 1 _ rfl);have e2 := (hbel.cell (p := ⟨b, o + j * 3 + 2, none⟩) hbl).trans (hcell 2 _ rfl);have g0 := (hbel.cell (p := ⟨b2, o2 + j * 3 + 0, none⟩) hbl2).trans (hcell2 0 _ rfl);have g1 := (hbel.cell (p := ⟨b2, o2 + j * 3 + 1, none⟩) hbl2).trans (hcell2 1 _ rfl);have g2 := (hbel.cell (p := ⟨b2, o2 + j * 3 + 2, none⟩) hbl2).trans (hcell2 2 _ rfl);simp only [Nat.mul_one, Nat.add_zero] at e0 g0;have HE2 := zh (Zak.keep (G := F) hE' (fun _ h => h) (Zc.later hbel));have HG2 := zh (Zak.keep (G := G) hG' (fun _ h => h) (Zc.later hbel));have hbr : b < wr.heap.size := Nat.lt_of_lt_of_le hbl hsz;have hb2r : b2 < wr.heap.size := Nat.lt_of_lt_of_le hbl2 hsz;clear hE' hG' hcell hcell2 hfacts hfacts2;go_upto_region 6 with (fail);refine Zbd [8, 9] [] (by kernel_rfl) (fun W hW => ?_);have hWL : Za wr W := by rw [hW]; exact (Za.refl _).drew
   have eW0 := (hWL.cell ⟨b, o + j * 3, none⟩ hbr).trans e0;have eW1 := (hWL.cell ⟨b, o + j * 3 + 1, none⟩ hbr).trans e1;have eW2 := (hWL.cell ⟨b, o + j * 3 + 2, none⟩ hbr).trans e2;have gW0 := (hWL.cell ⟨b2, o2 + j * 3, none⟩ hb2r).trans g0;have gW1 := (hWL.cell ⟨b2, o2 + j * 3 + 1, none⟩ hb2r).trans g1;have gW2 := (hWL.cell ⟨b2, o2 + j * 3 + 2, none⟩ hb2r).trans g2;have hbW : b < W.heap.size := Nat.lt_of_lt_of_le hbr hWL.size;have hb2W : b2 < W.heap.size := Nat.lt_of_lt_of_le hb2r hWL.size;clear hW;refine tU 0 17 (v := ?_) rfl rfl (fun x hx => ?_) ?_;rotate_left
   ·go_simp;first|done|with_reducible rfl
   simp only [Act.put, nA, nB, nC];refine tU 1 18 (v := ?_) rfl rfl (fun x hx => ?_) ?_;rotate_left
   ·go_simp;first|done|with_reducible rfl
   simp only [Act.put, nA, nB, nC];refine tU 2 19 (v := ?_) rfl rfl (fun x hx => ?_) ?_;rotate_left
   ·go_simp;first|done|with_reducible rfl|rw[if_neg (by omega)]|rw[if_pos (by omega)]
   simp only [Act.put, nA, nB, nC];refine tU 3 20 (v := ?_) rfl rfl (fun x hx => ?_) ?_;rotate_left
   ·have x0 := (hx.cell ⟨b, o + j * 3, none⟩ hbW).trans eW0; have x1 := (hx.cell ⟨b, o + j * 3 + 1, none⟩ hbW).trans eW1; have x2 := (hx.cell ⟨b, o + j * 3 + 2, none⟩ hbW).trans eW2; have y0 := (hx.cell ⟨b2, o2 + j * 3, none⟩ hb2W).trans gW0; have y1 := (hx.cell ⟨b2, o2 + j * 3 + 1, none⟩ hb2W).trans gW1; have y2 := (hx.cell ⟨b2, o2 + j * 3 + 2, none⟩ hb2W).trans gW2; go_simp;first|done|with_reducible rfl
   simp only [Act.put, nA, nB, nC];refine tU 4 21 (v := ?_) rfl rfl (fun x hx => ?_) ?_;rotate_left
   ·go_simp;first|done|with_reducible rfl
   simp only [Act.put, nA, nB, nC];refine tU 5 22 (v := ?_) rfl rfl (fun x hx => ?_) ?_;rotate_left
   ·go_simp;first|done|with_reducible rfl
   simp only [Act.put, nA, nB, nC];refine tU 6 23 (v := ?_) rfl rfl (fun x hx => ?_) ?_;rotate_left
   ·go_simp;first|done|with_reducible rfl|rw[if_neg (by omega)]|rw[if_pos (by omega)]
   simp only [Act.put, nA, nB, nC];refine tU 7 24 (v := ?_) rfl rfl (fun x hx => ?_) ?_;rotate_left
   ·have x0 := (hx.cell ⟨b, o + j * 3, none⟩ hbW).trans eW0; have x1 := (hx.cell ⟨b, o + j * 3 + 1, none⟩ hbW).trans eW1; have x2 := (hx.cell ⟨b, o + j * 3 + 2, none⟩ hbW).trans eW2; have y0 := (hx.cell ⟨b2, o2 + j * 3, none⟩ hb2W).trans gW0; have y1 := (hx.cell ⟨b2, o2 + j * 3 + 1, none⟩ hb2W).trans gW1; have y2 := (hx.cell ⟨b2, o2 + j * 3 + 2, none⟩ hb2W).trans gW2; go_simp;first|done|with_reducible rfl
   simp only [Act.put, nA, nB, nC];refine Zbl [_, _] (by kernel_rfl) rfl rfl ?_;simp only [List.getElem_toArray, List.getElem_cons_succ, List.getElem_cons_zero];clear e0 g0 e1 g1 e2 g2;have HB2 := zh (hbel.trans (Below.mono hWL hbel.size));have HE3 := zh (Zak.keep (G := F) HE2.o (fun _ h => h) (Zc.later hWL));have HG3 := zh (Zak.keep (G := G) HG2.o (fun _ h => h) (Zc.later hWL));clear hWL eW0 gW0 eW1 gW1 eW2 gW2;go_wp2_with fail;refine (Zij l[j] _ _ F G W HE3.o HG3.o).mono ?_;rintro e w4 ⟨rfl, hb4⟩;have hb5 := HB2.o.trans (Below.mono hb4 HB2.o.size);clear hb4;go_wp2_with fail
   go_roundw
   case rel => exact ⟨j + 1, by omega, by go_num, hb5⟩
   case measure => simp [intOf]; omega
  ·have hjl : j = l.length := by omega
   go_wp2_with fail;go_ret;exact ⟨rfl, hbel⟩
theorem Zlz (r : Zj) (cs cs' : List Value) (F G : Nat → Prop) (w : World) (h : Ze F w r cs) (g : Ze G w r cs') :
  Calls Tryz.prog 34 #[.agg cs.toArray, .agg cs'.toArray] w fun e w' => e = .returned (.bool true) ∧ Below w.heap.size w w' := by
 obtain ⟨rfl, bH, bI, bJ, bK, bL, bM⟩ := h;obtain ⟨rfl, _, _, _, _, cH, cI⟩ := g;have ytext : (r.text.toList == r.text.toList) = true := by simp
 have Hset_ := zh (show Zf5 F w r.set_ [.int .i64 r.set_.low, .int .i64 r.set_.high] from ⟨rfl, bL, bM⟩);have Gset_ := zh (show Zf5 G w r.set_ [.int .i64 r.set_.low, .int .i64 r.set_.high] from ⟨rfl, cH, cI⟩);clear bH;clear bI;clear bJ;clear bK;clear bL cH;clear bM cI;have HP := zh ((Za.refl _).alloc (.cells #[.int .i64 r.kind, .int .i64 r.aH, .int .i64 r.index, .string r.text, .int .i64 r.set_.low, .int .i64 r.set_.high] 34) |>.block _ (by simp) |>.trans (heap_alloc_new w (.cells #[.int .i64 r.kind, .int .i64 r.aH, .int .i64 r.index, .string r.text, .int .i64 r.set_.low, .int .i64 r.set_.high] 34)));have HZ := zh (heap_alloc_new (w.alloc (.cells #[.int .i64 r.kind, .int .i64 r.aH, .int .i64 r.index, .string r.text, .int .i64 r.set_.low, .int .i64 r.set_.high] 34)) (.cells #[.int .i64 r.kind, .int .i64 r.aH, .int .i64 r.index, .string r.text, .int .i64 r.set_.low, .int .i64 r.set_.high] 34));simp only [Zbj] at HZ;have HB := zh (((Below.refl w.heap.size w).alloc (Nat.le_refl _) (.cells #[.int .i64 r.kind, .int .i64 r.aH, .int .i64 r.index, .string r.text, .int .i64 r.set_.low, .int .i64 r.set_.high] 34)).alloc (by simp) (.cells #[.int .i64 r.kind, .int .i64 r.aH, .int .i64 r.index, .string r.text, .int .i64 r.set_.low, .int .i64 r.set_.high] 34));go_enter Tryz.func34, Tryz.ntmps34;go_wp2_with fail;refine (Znq r.set_ _ _ F G _ (Zfv.keep Hset_.o (fun _ h => h) (Zc.later HB.o)) (Zfv.keep Gset_.o (fun _ h => h) (Zc.later HB.o))).mono ?_
 rintro e w4 ⟨rfl, hb4⟩;replace HP := zC hb4 HP;replace HZ := zC hb4 HZ;replace HB := zh (HB.o.trans (Below.mono hb4 HB.o.size));clear hb4;have p0 := cz6 HP.o;have z0 := cz6 HZ.o;go_wp2_with fail;go_ret;exact ⟨rfl, HB.o⟩
theorem Zfs (l : List Zj) (v v' : Value) (F G : Nat → Prop) (w : World) (hr : Zu Ze 6 F w l v) (gr : Zu Ze 6 G w l v') :
  Calls Tryz.prog 23 #[v, v'] w fun e w' => e = .returned (.bool true) ∧ Below w.heap.size w w' := by
 obtain ⟨A, c, rfl, hc, hcm, hel⟩ := hr;obtain ⟨A', c', rfl, hc', hcm', gel⟩ := gr;unfold maxLen at hcm hcm';have HEL := zh hel;have GEL := zh gel;clear hel gel;go_enter Tryz.func23, Tryz.ntmps23;go_wp2_with fail
 go_loopw [5] (fun i wr => ∃ j : Nat, j ≤ l.length ∧ i = .int .i64 j ∧ Below w.heap.size w wr) (fun i _ => l.length - (intOf i).toNat)
 case atStart => exact ⟨0, Nat.zero_le _, rfl, Below.refl _ _⟩
 case round =>
  obtain ⟨j, hj, rfl, hbel⟩ := hrel;have hsz := hbel.size
  by_cases hlt : j < l.length
  ·obtain ⟨b, o, cs, rfl, hF, hbl, hE, hcell⟩ := HEL.o j hlt;obtain ⟨b2, o2, cs2, rfl, hF2, hbl2, hG, hcell2⟩ := GEL.o j hlt;have hE' := hE;have hG' := hG;obtain ⟨rfl, hfacts⟩ := hE;obtain ⟨rfl, hfacts2⟩ := hG;have hlt' : (j : Int) < l.length := by omega
   have e0 := (hbel.cell (p := ⟨b, o + j * 6 + 0, none⟩) hbl).trans (hcell 0 _ rfl);have e1 := (hbel.cell (p := ⟨b, o + j * 6 + 1, none⟩) hbl).trans (hcell 1 _ rfl);have e2 := (hbel.cell (p := ⟨b, o + j * 6 + 2, none⟩) hbl).trans (hcell 2 _ rfl);have e3 := (hbel.cell (p := ⟨b, o + j * 6 + 3, none⟩) hbl).trans (hcell 3 _ rfl);have e4 := (hbel.cell (p := ⟨b, o + j * 6 + 4, none⟩) hbl).trans (hcell 4 _ rfl);have e5 := (hbel.cell (p := ⟨b, o + j * 6 + 5, none⟩) hbl).trans (hcell 5 _ rfl);have g0 := (hbel.cell (p := ⟨b2, o2 + j * 6 + 0, none⟩) hbl2).trans (hcell2 0 _ rfl);have g1 := (hbel.cell (p := ⟨b2, o2 + j * 6 + 1, none⟩) hbl2).trans (hcell2 1 _ rfl);have g2 := (hbel.cell (p := ⟨b2, o2 + j * 6 + 2, none⟩) hbl2).trans (hcell2 2 _ rfl);have g3 := (hbel.cell (p := ⟨b2, o2 + j * 6 + 3, none⟩) hbl2).trans (hcell2 3 _ rfl);have g4 := (hbel.cell (p := ⟨b2, o2 + j * 6 + 4, none⟩) hbl2).trans (hcell2 4 _ rfl);have g5 := (hbel.cell (p := ⟨b2, o2 + j * 6 + 5, none⟩) hbl2).trans (hcell2 5 _ rfl);simp only [Nat.mul_one, Nat.add_zero] at e0 g0;have HE2 := zh (Zb.keep (G := F) hE' (fun _ h => h) (Zc.later hbel));have HG2 := zh (Zb.keep (G := G) hG' (fun _ h => h) (Zc.later hbel));have hbr : b < wr.heap.size := Nat.lt_of_lt_of_le hbl hsz;have hb2r : b2 < wr.heap.size := Nat.lt_of_lt_of_le hbl2 hsz;clear hE' hG' hcell hcell2 hfacts hfacts2;go_upto_region 6 with (fail);refine Zbd [8, 9] [] (by kernel_rfl) (fun W hW => ?_);have hWL : Za wr W := by rw [hW]; exact (Za.refl _).drew
   have eW0 := (hWL.cell ⟨b, o + j * 6, none⟩ hbr).trans e0;have eW1 := (hWL.cell ⟨b, o + j * 6 + 1, none⟩ hbr).trans e1;have eW2 := (hWL.cell ⟨b, o + j * 6 + 2, none⟩ hbr).trans e2;have eW3 := (hWL.cell ⟨b, o + j * 6 + 3, none⟩ hbr).trans e3;have eW4 := (hWL.cell ⟨b, o + j * 6 + 4, none⟩ hbr).trans e4;have eW5 := (hWL.cell ⟨b, o + j * 6 + 5, none⟩ hbr).trans e5;have gW0 := (hWL.cell ⟨b2, o2 + j * 6, none⟩ hb2r).trans g0;have gW1 := (hWL.cell ⟨b2, o2 + j * 6 + 1, none⟩ hb2r).trans g1;have gW2 := (hWL.cell ⟨b2, o2 + j * 6 + 2, none⟩ hb2r).trans g2;have gW3 := (hWL.cell ⟨b2, o2 + j * 6 + 3, none⟩ hb2r).trans g3;have gW4 := (hWL.cell ⟨b2, o2 + j * 6 + 4, none⟩ hb2r).trans g4;have gW5 := (hWL.cell ⟨b2, o2 + j * 6 + 5, none⟩ hb2r).trans g5;have hbW : b < W.heap.size := Nat.lt_of_lt_of_le hbr hWL.size;have hb2W : b2 < W.heap.size := Nat.lt_of_lt_of_le hb2r hWL.size;clear hW;refine tU 0 17 (v := ?_) rfl rfl (fun x hx => ?_) ?_;rotate_left
   ·go_simp;first|done|with_reducible rfl
   simp only [Act.put, nA, nB, nC];refine tU 1 18 (v := ?_) rfl rfl (fun x hx => ?_) ?_;rotate_left
   ·go_simp;first|done|with_reducible rfl
   simp only [Act.put, nA, nB, nC];refine tU 2 19 (v := ?_) rfl rfl (fun x hx => ?_) ?_;rotate_left
   ·go_simp;first|done|with_reducible rfl|rw[if_neg (by omega)]|rw[if_pos (by omega)]
   simp only [Act.put, nA, nB, nC];refine tU 3 20 (v := ?_) rfl rfl (fun x hx => ?_) ?_;rotate_left
   ·have x0 := (hx.cell ⟨b, o + j * 6, none⟩ hbW).trans eW0; have x1 := (hx.cell ⟨b, o + j * 6 + 1, none⟩ hbW).trans eW1; have x2 := (hx.cell ⟨b, o + j * 6 + 2, none⟩ hbW).trans eW2; have x3 := (hx.cell ⟨b, o + j * 6 + 3, none⟩ hbW).trans eW3; have x4 := (hx.cell ⟨b, o + j * 6 + 4, none⟩ hbW).trans eW4; have x5 := (hx.cell ⟨b, o + j * 6 + 5, none⟩ hbW).trans eW5; have y0 := (hx.cell ⟨b2, o2 + j * 6, none⟩ hb2W).trans gW0; have y1 := (hx.cell ⟨b2, o2 + j * 6 + 1, none⟩ hb2W).trans gW1; have y2 := (hx.cell ⟨b2, o2 + j * 6 + 2, none⟩ hb2W).trans gW2; have y3 := (hx.cell ⟨b2, o2 + j * 6 + 3, none⟩ hb2W).trans gW3; have y4 := (hx.cell ⟨b2, o2 + j * 6 + 4, none⟩ hb2W).trans gW4; have y5 := (hx.cell ⟨b2, o2 + j * 6 + 5, none⟩ hb2W).trans gW5; go_simp;first|done|with_reducible rfl
   simp only [Act.put, nA, nB, nC];refine tU 4 21 (v := ?_) rfl rfl (fun x hx => ?_) ?_;rotate_left
   ·go_simp;first|done|with_reducible rfl
   simp only [Act.put, nA, nB, nC];refine tU 5 22 (v := ?_) rfl rfl (fun x hx => ?_) ?_;rotate_left
   ·go_simp;first|done|with_reducible rfl
   simp only [Act.put, nA, nB, nC];refine tU 6 23 (v := ?_) rfl rfl (fun x hx => ?_) ?_;rotate_left
   ·go_simp;first|done|with_reducible rfl|rw[if_neg (by omega)]|rw[if_pos (by omega)]
   simp only [Act.put, nA, nB, nC];refine tU 7 24 (v := ?_) rfl rfl (fun x hx => ?_) ?_;rotate_left
   ·have x0 := (hx.cell ⟨b, o + j * 6, none⟩ hbW).trans eW0; have x1 := (hx.cell ⟨b, o + j * 6 + 1, none⟩ hbW).trans eW1; have x2 := (hx.cell ⟨b, o + j * 6 + 2, none⟩ hbW).trans eW2; have x3 := (hx.cell ⟨b, o + j * 6 + 3, none⟩ hbW).trans eW3; have x4 := (hx.cell ⟨b, o + j * 6 + 4, none⟩ hbW).trans eW4; have x5 := (hx.cell ⟨b, o + j * 6 + 5, none⟩ hbW).trans eW5; have y0 := (hx.cell ⟨b2, o2 + j * 6, none⟩ hb2W).trans gW0; have y1 := (hx.cell ⟨b2, o2 + j * 6 + 1, none⟩ hb2W).trans gW1; have y2 := (hx.cell ⟨b2, o2 + j * 6 + 2, none⟩ hb2W).trans gW2; have y3 := (hx.cell ⟨b2, o2 + j * 6 + 3, none⟩ hb2W).trans gW3; have y4 := (hx.cell ⟨b2, o2 + j * 6 + 4, none⟩ hb2W).trans gW4; have y5 := (hx.cell ⟨b2, o2 + j * 6 + 5, none⟩ hb2W).trans gW5; go_simp;first|done|with_reducible rfl
   simp only [Act.put, nA, nB, nC];refine Zbl [_, _] (by kernel_rfl) rfl rfl ?_;simp only [List.getElem_toArray, List.getElem_cons_succ, List.getElem_cons_zero];clear e0 g0 e1 g1 e2 g2 e3 g3 e4 g4 e5 g5;have HB2 := zh (hbel.trans (Below.mono hWL hbel.size));have HE3 := zh (Zb.keep (G := F) HE2.o (fun _ h => h) (Zc.later hWL));have HG3 := zh (Zb.keep (G := G) HG2.o (fun _ h => h) (Zc.later hWL));clear hWL eW0 gW0 eW1 gW1 eW2 gW2 eW3 gW3 eW4 gW4 eW5 gW5;go_wp2_with fail;refine (Zlz l[j] _ _ F G W HE3.o HG3.o).mono ?_;rintro e w4 ⟨rfl, hb4⟩;have hb5 := HB2.o.trans (Below.mono hb4 HB2.o.size);clear hb4;go_wp2_with fail
   go_roundw
   case rel => exact ⟨j + 1, by omega, by go_num, hb5⟩
   case measure => simp [intOf]; omega
  ·have hjl : j = l.length := by omega
   go_wp2_with fail;go_ret;exact ⟨rfl, hbel⟩
theorem Zky (r : Zay) (cs cs' : List Value) (F G : Nat → Prop) (w : World) (h : Zbq F w r cs) (g : Zbq G w r cs') :
  Calls Tryz.prog 121 #[.agg cs.toArray, .agg cs'.toArray] w fun e w' => e = .returned (.bool true) ∧ Below w.heap.size w w' := by
 obtain ⟨aS, aT, rfl, bH, bN, bO, bP, bQ⟩ := h;obtain ⟨vitems', vkeys', rfl, _, _, _, cJ, cK⟩ := g;clear bH;clear bN;clear bO;have Hitems := zh bP;have Gitems := zh cJ;clear bP cJ;have Hkeys := zh bQ;have Gkeys := zh cK;clear bQ cK;have HP := zh ((Za.refl _).alloc (.cells #[.int .i64 r.kind, .int .i64 r.tag, .int .i64 r.aI, vitems', vkeys'] 94) |>.block _ (by simp) |>.trans (heap_alloc_new w (.cells #[.int .i64 r.kind, .int .i64 r.tag, .int .i64 r.aI, aS, aT] 94)));have HZ := zh (heap_alloc_new (w.alloc (.cells #[.int .i64 r.kind, .int .i64 r.tag, .int .i64 r.aI, aS, aT] 94)) (.cells #[.int .i64 r.kind, .int .i64 r.tag, .int .i64 r.aI, vitems', vkeys'] 94));simp only [Zbj] at HZ;have HB := zh (((Below.refl w.heap.size w).alloc (Nat.le_refl _) (.cells #[.int .i64 r.kind, .int .i64 r.tag, .int .i64 r.aI, aS, aT] 94)).alloc (by simp) (.cells #[.int .i64 r.kind, .int .i64 r.tag, .int .i64 r.aI, vitems', vkeys'] 94));go_enter Tryz.func121, Tryz.ntmps121;go_wp2_with fail;refine (Zfs r.aJ aS vitems' F G _ (Hitems.o.later Zb HB.o) (Gitems.o.later Zb HB.o)).mono ?_;rintro e w3 ⟨rfl, hb3⟩;replace HP := zC hb3 HP;replace HZ := zC hb3 HZ;replace HB := zh (HB.o.trans (Below.mono hb3 HB.o.size));clear hb3;have p0 := cz5 HP.o;have z0 := cz5 HZ.o;go_wp2_with fail;refine (Zfs r.aK aT vkeys' F G _ (Hkeys.o.later Zb HB.o) (Gkeys.o.later Zb HB.o)).mono ?_
 rintro e w4 ⟨rfl, hb4⟩;replace HP := zC hb4 HP;replace HZ := zC hb4 HZ;replace HB := zh (HB.o.trans (Below.mono hb4 HB.o.size));clear hb4;clear p0;have p0 := cz5 HP.o;clear z0;have z0 := cz5 HZ.o;go_wp2_with fail;go_ret;exact ⟨rfl, HB.o⟩
theorem Zkf (l : List Zay) (v v' : Value) (F G : Nat → Prop) (w : World) (hr : Zu Zbq 5 F w l v) (gr : Zu Zbq 5 G w l v') :
  Calls Tryz.prog 70 #[v, v'] w fun e w' => e = .returned (.bool true) ∧ Below w.heap.size w w' := by
 obtain ⟨A, c, rfl, hc, hcm, hel⟩ := hr;obtain ⟨A', c', rfl, hc', hcm', gel⟩ := gr;unfold maxLen at hcm hcm';have HEL := zh hel;have GEL := zh gel;clear hel gel;go_enter Tryz.func70, Tryz.ntmps70;go_wp2_with fail
 go_loopw [5] (fun i wr => ∃ j : Nat, j ≤ l.length ∧ i = .int .i64 j ∧ Below w.heap.size w wr) (fun i _ => l.length - (intOf i).toNat)
 case atStart => exact ⟨0, Nat.zero_le _, rfl, Below.refl _ _⟩
 case round =>
  obtain ⟨j, hj, rfl, hbel⟩ := hrel;have hsz := hbel.size
  by_cases hlt : j < l.length
  ·obtain ⟨b, o, cs, rfl, hF, hbl, hE, hcell⟩ := HEL.o j hlt;obtain ⟨b2, o2, cs2, rfl, hF2, hbl2, hG, hcell2⟩ := GEL.o j hlt;have hE' := hE;have hG' := hG;obtain ⟨aS, aT, rfl, hfacts⟩ := hE;obtain ⟨vitems', vkeys', rfl, hfacts2⟩ := hG;have hlt' : (j : Int) < l.length := by omega
   have e0 := (hbel.cell (p := ⟨b, o + j * 5 + 0, none⟩) hbl).trans (hcell 0 _ rfl);have e1 := (hbel.cell (p := ⟨b, o + j * 5 + 1, none⟩) hbl).trans (hcell 1 _ rfl);have e2 := (hbel.cell (p := ⟨b, o + j * 5 + 2, none⟩) hbl).trans (hcell 2 _ rfl);have e3 := (hbel.cell (p := ⟨b, o + j * 5 + 3, none⟩) hbl).trans (hcell 3 _ rfl);have e4 := (hbel.cell (p := ⟨b, o + j * 5 + 4, none⟩) hbl).trans (hcell 4 _ rfl);have g0 := (hbel.cell (p := ⟨b2, o2 + j * 5 + 0, none⟩) hbl2).trans (hcell2 0 _ rfl);have g1 := (hbel.cell (p := ⟨b2, o2 + j * 5 + 1, none⟩) hbl2).trans (hcell2 1 _ rfl);have g2 := (hbel.cell (p := ⟨b2, o2 + j * 5 + 2, none⟩) hbl2).trans (hcell2 2 _ rfl);have g3 := (hbel.cell (p := ⟨b2, o2 + j * 5 + 3, none⟩) hbl2).trans (hcell2 3 _ rfl);have g4 := (hbel.cell (p := ⟨b2, o2 + j * 5 + 4, none⟩) hbl2).trans (hcell2 4 _ rfl);simp only [Nat.mul_one, Nat.add_zero] at e0 g0;have HE2 := zh (Za9.keep (G := F) hE' (fun _ h => h) (Zc.later hbel));have HG2 := zh (Za9.keep (G := G) hG' (fun _ h => h) (Zc.later hbel));have hbr : b < wr.heap.size := Nat.lt_of_lt_of_le hbl hsz;have hb2r : b2 < wr.heap.size := Nat.lt_of_lt_of_le hbl2 hsz;clear hE' hG' hcell hcell2 hfacts hfacts2;go_upto_region 6 with (fail);refine Zbd [8, 9] [] (by kernel_rfl) (fun W hW => ?_);have hWL : Za wr W := by rw [hW]; exact (Za.refl _).drew
   have eW0 := (hWL.cell ⟨b, o + j * 5, none⟩ hbr).trans e0;have eW1 := (hWL.cell ⟨b, o + j * 5 + 1, none⟩ hbr).trans e1;have eW2 := (hWL.cell ⟨b, o + j * 5 + 2, none⟩ hbr).trans e2;have eW3 := (hWL.cell ⟨b, o + j * 5 + 3, none⟩ hbr).trans e3;have eW4 := (hWL.cell ⟨b, o + j * 5 + 4, none⟩ hbr).trans e4;have gW0 := (hWL.cell ⟨b2, o2 + j * 5, none⟩ hb2r).trans g0;have gW1 := (hWL.cell ⟨b2, o2 + j * 5 + 1, none⟩ hb2r).trans g1;have gW2 := (hWL.cell ⟨b2, o2 + j * 5 + 2, none⟩ hb2r).trans g2;have gW3 := (hWL.cell ⟨b2, o2 + j * 5 + 3, none⟩ hb2r).trans g3;have gW4 := (hWL.cell ⟨b2, o2 + j * 5 + 4, none⟩ hb2r).trans g4;have hbW : b < W.heap.size := Nat.lt_of_lt_of_le hbr hWL.size;have hb2W : b2 < W.heap.size := Nat.lt_of_lt_of_le hb2r hWL.size;clear hW;refine tU 0 17 (v := ?_) rfl rfl (fun x hx => ?_) ?_;rotate_left
   ·go_simp;first|done|with_reducible rfl
   simp only [Act.put, nA, nB, nC];refine tU 1 18 (v := ?_) rfl rfl (fun x hx => ?_) ?_;rotate_left
   ·go_simp;first|done|with_reducible rfl
   simp only [Act.put, nA, nB, nC];refine tU 2 19 (v := ?_) rfl rfl (fun x hx => ?_) ?_;rotate_left
   ·go_simp;first|done|with_reducible rfl|rw[if_neg (by omega)]|rw[if_pos (by omega)]
   simp only [Act.put, nA, nB, nC];refine tU 3 20 (v := ?_) rfl rfl (fun x hx => ?_) ?_;rotate_left
   ·have x0 := (hx.cell ⟨b, o + j * 5, none⟩ hbW).trans eW0; have x1 := (hx.cell ⟨b, o + j * 5 + 1, none⟩ hbW).trans eW1; have x2 := (hx.cell ⟨b, o + j * 5 + 2, none⟩ hbW).trans eW2; have x3 := (hx.cell ⟨b, o + j * 5 + 3, none⟩ hbW).trans eW3; have x4 := (hx.cell ⟨b, o + j * 5 + 4, none⟩ hbW).trans eW4; have y0 := (hx.cell ⟨b2, o2 + j * 5, none⟩ hb2W).trans gW0; have y1 := (hx.cell ⟨b2, o2 + j * 5 + 1, none⟩ hb2W).trans gW1; have y2 := (hx.cell ⟨b2, o2 + j * 5 + 2, none⟩ hb2W).trans gW2; have y3 := (hx.cell ⟨b2, o2 + j * 5 + 3, none⟩ hb2W).trans gW3; have y4 := (hx.cell ⟨b2, o2 + j * 5 + 4, none⟩ hb2W).trans gW4; go_simp;first|done|with_reducible rfl
   simp only [Act.put, nA, nB, nC];refine tU 4 21 (v := ?_) rfl rfl (fun x hx => ?_) ?_;rotate_left
   ·go_simp;first|done|with_reducible rfl
   simp only [Act.put, nA, nB, nC];refine tU 5 22 (v := ?_) rfl rfl (fun x hx => ?_) ?_;rotate_left
   ·go_simp;first|done|with_reducible rfl
   simp only [Act.put, nA, nB, nC];refine tU 6 23 (v := ?_) rfl rfl (fun x hx => ?_) ?_;rotate_left
   ·go_simp;first|done|with_reducible rfl|rw[if_neg (by omega)]|rw[if_pos (by omega)]
   simp only [Act.put, nA, nB, nC];refine tU 7 24 (v := ?_) rfl rfl (fun x hx => ?_) ?_;rotate_left
   ·have x0 := (hx.cell ⟨b, o + j * 5, none⟩ hbW).trans eW0; have x1 := (hx.cell ⟨b, o + j * 5 + 1, none⟩ hbW).trans eW1; have x2 := (hx.cell ⟨b, o + j * 5 + 2, none⟩ hbW).trans eW2; have x3 := (hx.cell ⟨b, o + j * 5 + 3, none⟩ hbW).trans eW3; have x4 := (hx.cell ⟨b, o + j * 5 + 4, none⟩ hbW).trans eW4; have y0 := (hx.cell ⟨b2, o2 + j * 5, none⟩ hb2W).trans gW0; have y1 := (hx.cell ⟨b2, o2 + j * 5 + 1, none⟩ hb2W).trans gW1; have y2 := (hx.cell ⟨b2, o2 + j * 5 + 2, none⟩ hb2W).trans gW2; have y3 := (hx.cell ⟨b2, o2 + j * 5 + 3, none⟩ hb2W).trans gW3; have y4 := (hx.cell ⟨b2, o2 + j * 5 + 4, none⟩ hb2W).trans gW4; go_simp;first|done|with_reducible rfl
   simp only [Act.put, nA, nB, nC];refine Zbl [_, _] (by kernel_rfl) rfl rfl ?_;simp only [List.getElem_toArray, List.getElem_cons_succ, List.getElem_cons_zero];clear e0 g0 e1 g1 e2 g2 e3 g3 e4 g4;have HB2 := zh (hbel.trans (Below.mono hWL hbel.size));have HE3 := zh (Za9.keep (G := F) HE2.o (fun _ h => h) (Zc.later hWL));have HG3 := zh (Za9.keep (G := G) HG2.o (fun _ h => h) (Zc.later hWL));clear hWL eW0 gW0 eW1 gW1 eW2 gW2 eW3 gW3 eW4 gW4;go_wp2_with fail;refine (Zky l[j] _ _ F G W HE3.o HG3.o).mono ?_;rintro e w4 ⟨rfl, hb4⟩;have hb5 := HB2.o.trans (Below.mono hb4 HB2.o.size);clear hb4;go_wp2_with fail
   go_roundw
   case rel => exact ⟨j + 1, by omega, by go_num, hb5⟩
   case measure => simp [intOf]; omega
  ·have hjl : j = l.length := by omega
   go_wp2_with fail;go_ret;exact ⟨rfl, hbel⟩
theorem Zkz (r : Zdd) (cs cs' : List Value) (F G : Nat → Prop) (w : World) (h : Zbf F w r cs) (g : Zbf G w r cs') :
  Calls Tryz.prog 122 #[.agg cs.toArray, .agg cs'.toArray] w fun e w' => e = .returned (.bool true) ∧ Below w.heap.size w w' := by
 obtain ⟨rfl, hroutine, hframe⟩ := h;obtain ⟨rfl, _, _⟩ := g;clear hroutine hframe;go_enter Tryz.func122, Tryz.ntmps122;go_wp2_with fail;go_ret;exact ⟨rfl, ((Below.refl _ _).alloc (Nat.le_refl _) _).alloc (by simp) _⟩
theorem Zkg (l : List Zdd) (v v' : Value) (F G : Nat → Prop) (w : World) (hr : Zu Zbf 2 F w l v) (gr : Zu Zbf 2 G w l v') :
  Calls Tryz.prog 71 #[v, v'] w fun e w' => e = .returned (.bool true) ∧ Below w.heap.size w w' := by
 obtain ⟨A, c, rfl, hc, hcm, hel⟩ := hr;obtain ⟨A', c', rfl, hc', hcm', gel⟩ := gr;unfold maxLen at hcm hcm';have HEL := zh hel;have GEL := zh gel;clear hel gel;go_enter Tryz.func71, Tryz.ntmps71;go_wp2_with fail
 go_loopw [5] (fun i wr => ∃ j : Nat, j ≤ l.length ∧ i = .int .i64 j ∧ Below w.heap.size w wr) (fun i _ => l.length - (intOf i).toNat)
 case atStart => exact ⟨0, Nat.zero_le _, rfl, Below.refl _ _⟩
 case round =>
  obtain ⟨j, hj, rfl, hbel⟩ := hrel;have hsz := hbel.size
  by_cases hlt : j < l.length
  ·obtain ⟨b, o, cs, rfl, hF, hbl, hE, hcell⟩ := HEL.o j hlt;obtain ⟨b2, o2, cs2, rfl, hF2, hbl2, hG, hcell2⟩ := GEL.o j hlt;have hE' := hE;have hG' := hG;obtain ⟨rfl, hfacts⟩ := hE;obtain ⟨rfl, hfacts2⟩ := hG;have hlt' : (j : Int) < l.length := by omega
   have e0 := (hbel.cell (p := ⟨b, o + j * 2 + 0, none⟩) hbl).trans (hcell 0 _ rfl);have e1 := (hbel.cell (p := ⟨b, o + j * 2 + 1, none⟩) hbl).trans (hcell 1 _ rfl);have g0 := (hbel.cell (p := ⟨b2, o2 + j * 2 + 0, none⟩) hbl2).trans (hcell2 0 _ rfl);have g1 := (hbel.cell (p := ⟨b2, o2 + j * 2 + 1, none⟩) hbl2).trans (hcell2 1 _ rfl);simp only [Nat.mul_one, Nat.add_zero] at e0 g0;have HE2 := zh (Zba.keep (G := F) hE' (fun _ h => h) (Zc.later hbel));have HG2 := zh (Zba.keep (G := G) hG' (fun _ h => h) (Zc.later hbel));have hbr : b < wr.heap.size := Nat.lt_of_lt_of_le hbl hsz;have hb2r : b2 < wr.heap.size := Nat.lt_of_lt_of_le hbl2 hsz;clear hE' hG' hcell hcell2 hfacts hfacts2;go_upto_region 6 with (fail);refine Zbd [8, 9] [] (by kernel_rfl) (fun W hW => ?_);have hWL : Za wr W := by rw [hW]; exact (Za.refl _).drew
   have eW0 := (hWL.cell ⟨b, o + j * 2, none⟩ hbr).trans e0;have eW1 := (hWL.cell ⟨b, o + j * 2 + 1, none⟩ hbr).trans e1;have gW0 := (hWL.cell ⟨b2, o2 + j * 2, none⟩ hb2r).trans g0;have gW1 := (hWL.cell ⟨b2, o2 + j * 2 + 1, none⟩ hb2r).trans g1;have hbW : b < W.heap.size := Nat.lt_of_lt_of_le hbr hWL.size;have hb2W : b2 < W.heap.size := Nat.lt_of_lt_of_le hb2r hWL.size;clear hW;refine tU 0 17 (v := ?_) rfl rfl (fun x hx => ?_) ?_;rotate_left
   ·go_simp;first|done|with_reducible rfl
   simp only [Act.put, nA, nB, nC];refine tU 1 18 (v := ?_) rfl rfl (fun x hx => ?_) ?_;rotate_left
   ·go_simp;first|done|with_reducible rfl
   simp only [Act.put, nA, nB, nC];refine tU 2 19 (v := ?_) rfl rfl (fun x hx => ?_) ?_;rotate_left
   ·go_simp;first|done|with_reducible rfl|rw[if_neg (by omega)]|rw[if_pos (by omega)]
   simp only [Act.put, nA, nB, nC];refine tU 3 20 (v := ?_) rfl rfl (fun x hx => ?_) ?_;rotate_left
   ·have x0 := (hx.cell ⟨b, o + j * 2, none⟩ hbW).trans eW0; have x1 := (hx.cell ⟨b, o + j * 2 + 1, none⟩ hbW).trans eW1; have y0 := (hx.cell ⟨b2, o2 + j * 2, none⟩ hb2W).trans gW0; have y1 := (hx.cell ⟨b2, o2 + j * 2 + 1, none⟩ hb2W).trans gW1; go_simp;first|done|with_reducible rfl
   simp only [Act.put, nA, nB, nC];refine tU 4 21 (v := ?_) rfl rfl (fun x hx => ?_) ?_;rotate_left
   ·go_simp;first|done|with_reducible rfl
   simp only [Act.put, nA, nB, nC];refine tU 5 22 (v := ?_) rfl rfl (fun x hx => ?_) ?_;rotate_left
   ·go_simp;first|done|with_reducible rfl
   simp only [Act.put, nA, nB, nC];refine tU 6 23 (v := ?_) rfl rfl (fun x hx => ?_) ?_;rotate_left
   ·go_simp;first|done|with_reducible rfl|rw[if_neg (by omega)]|rw[if_pos (by omega)]
   simp only [Act.put, nA, nB, nC];refine tU 7 24 (v := ?_) rfl rfl (fun x hx => ?_) ?_;rotate_left
   ·have x0 := (hx.cell ⟨b, o + j * 2, none⟩ hbW).trans eW0; have x1 := (hx.cell ⟨b, o + j * 2 + 1, none⟩ hbW).trans eW1; have y0 := (hx.cell ⟨b2, o2 + j * 2, none⟩ hb2W).trans gW0; have y1 := (hx.cell ⟨b2, o2 + j * 2 + 1, none⟩ hb2W).trans gW1; go_simp;first|done|with_reducible rfl
   simp only [Act.put, nA, nB, nC];refine Zbl [_, _] (by kernel_rfl) rfl rfl ?_;simp only [List.getElem_toArray, List.getElem_cons_succ, List.getElem_cons_zero];clear e0 g0 e1 g1;have HB2 := zh (hbel.trans (Below.mono hWL hbel.size));have HE3 := zh (Zba.keep (G := F) HE2.o (fun _ h => h) (Zc.later hWL));have HG3 := zh (Zba.keep (G := G) HG2.o (fun _ h => h) (Zc.later hWL));clear hWL eW0 gW0 eW1 gW1;go_wp2_with fail;refine (Zkz l[j] _ _ F G W HE3.o HG3.o).mono ?_;rintro e w4 ⟨rfl, hb4⟩;have hb5 := HB2.o.trans (Below.mono hb4 HB2.o.size);clear hb4;go_wp2_with fail
   go_roundw
   case rel => exact ⟨j + 1, by omega, by go_num, hb5⟩
   case measure => simp [intOf]; omega
  ·have hjl : j = l.length := by omega
   go_wp2_with fail;go_ret;exact ⟨rfl, hbel⟩
theorem Zcx (r : Zh) (cs cs' : List Value) (F G : Nat → Prop) (w : World) (h : Zb6 F w r cs) (g : Zb6 G w r cs') :
  Calls Tryz.prog 24 #[.agg cs.toArray, .agg cs'.toArray] w fun e w' => e = .returned (.bool true) ∧ Below w.heap.size w w' := by
 obtain ⟨aL, aM, aN, aO, aP, aQ, aR, rfl, aV, aW, aX, aY, aZ, bA, bB, bC, bD, bE, bF, bG⟩ := h;obtain ⟨vnames', vrecords', vobjects', vglobals', voutput', vtrace', vactives', rfl, bU, bV, bW, bX, _, _, cA, cB, cC, _, _, _⟩ := g;have ysubject : (r.aC.toList == r.aC.toList) = true := by simp
 have Hnames := zh aV;have Gnames := zh bU;clear aV bU;have Hrecords := zh aW;have Grecords := zh bV;clear aW bV;have Hobjects := zh aX;have Gobjects := zh bW;clear aX bW;have Hglobals := zh aY;have Gglobals := zh bX;clear aY bX;clear aZ;clear bA;have Houtput := zh bB;have Goutput := zh cA;clear bB cA;have Htrace := zh bC;have Gtrace := zh cB;clear bC cB;have Hactives := zh bD;have Gactives := zh cC;clear bD cC;clear bE;clear bF;clear bG;have HP := zh ((Za.refl _).alloc (.cells #[vnames', vrecords', vobjects', vglobals', .string r.aC, .int .i64 r.aD, voutput', vtrace', vactives', .bool r.aF, .int .i64 r.ticks, .int .i64 r.aG, .int .i64 r.made] 30) |>.block _ (by simp) |>.trans (heap_alloc_new w (.cells #[aL, aM, aN, aO, .string r.aC, .int .i64 r.aD, aP, aQ, aR, .bool r.aF, .int .i64 r.ticks, .int .i64 r.aG, .int .i64 r.made] 30)));have HZ := zh (heap_alloc_new (w.alloc (.cells #[aL, aM, aN, aO, .string r.aC, .int .i64 r.aD, aP, aQ, aR, .bool r.aF, .int .i64 r.ticks, .int .i64 r.aG, .int .i64 r.made] 30)) (.cells #[vnames', vrecords', vobjects', vglobals', .string r.aC, .int .i64 r.aD, voutput', vtrace', vactives', .bool r.aF, .int .i64 r.ticks, .int .i64 r.aG, .int .i64 r.made] 30))
 simp only [Zbj] at HZ;have HB := zh (((Below.refl w.heap.size w).alloc (Nat.le_refl _) (.cells #[aL, aM, aN, aO, .string r.aC, .int .i64 r.aD, aP, aQ, aR, .bool r.aF, .int .i64 r.ticks, .int .i64 r.aG, .int .i64 r.made] 30)).alloc (by simp) (.cells #[vnames', vrecords', vobjects', vglobals', .string r.aC, .int .i64 r.aD, voutput', vtrace', vactives', .bool r.aF, .int .i64 r.ticks, .int .i64 r.aG, .int .i64 r.made] 30));go_enter Tryz.func24, Tryz.ntmps24;go_wp2_with fail;refine (Zd2 r.names aL vnames' F G _ (Hnames.o.later Z4 HB.o) (Gnames.o.later Z4 HB.o)).mono ?_;rintro e w0 ⟨rfl, hb0⟩;replace HP := zC hb0 HP;replace HZ := zC hb0 HZ;replace HB := zh (HB.o.trans (Below.mono hb0 HB.o.size));clear hb0;have p0 := Zae HP.o;have z0 := Zae HZ.o;go_wp2_with fail;refine (Zht r.aB aM vrecords' F G _ (Hrecords.o.later Zak HB.o) (Grecords.o.later Zak HB.o)).mono ?_;rintro e w1 ⟨rfl, hb1⟩;replace HP := zC hb1 HP;replace HZ := zC hb1 HZ;replace HB := zh (HB.o.trans (Below.mono hb1 HB.o.size));clear hb1;clear p0;have p0 := Zae HP.o;clear z0;have z0 := Zae HZ.o
 go_wp2_with fail;refine (Zkf r.aA aN vobjects' F G _ (Hobjects.o.later Za9 HB.o) (Gobjects.o.later Za9 HB.o)).mono ?_;rintro e w2 ⟨rfl, hb2⟩;replace HP := zC hb2 HP;replace HZ := zC hb2 HZ;replace HB := zh (HB.o.trans (Below.mono hb2 HB.o.size));clear hb2;clear p0;have p0 := Zae HP.o;clear z0;have z0 := Zae HZ.o;go_wp2_with fail;refine (Zfs r.globals aO vglobals' F G _ (Hglobals.o.later Zb HB.o) (Gglobals.o.later Zb HB.o)).mono ?_;rintro e w3 ⟨rfl, hb3⟩;replace HP := zC hb3 HP;replace HZ := zC hb3 HZ;replace HB := zh (HB.o.trans (Below.mono hb3 HB.o.size));clear hb3;clear p0;have p0 := Zae HP.o;clear z0;have z0 := Zae HZ.o;go_wp2_with fail;refine (Zd2 r.output aP voutput' F G _ (Houtput.o.later Z4 HB.o) (Goutput.o.later Z4 HB.o)).mono ?_;rintro e w6 ⟨rfl, hb6⟩;replace HP := zC hb6 HP;replace HZ := zC hb6 HZ;replace HB := zh (HB.o.trans (Below.mono hb6 HB.o.size));clear hb6;clear p0;have p0 := Zae HP.o;clear z0
 have z0 := Zae HZ.o;go_wp2_with fail;refine (Zd2 r.trace aQ vtrace' F G _ (Htrace.o.later Z4 HB.o) (Gtrace.o.later Z4 HB.o)).mono ?_;rintro e w7 ⟨rfl, hb7⟩;replace HP := zC hb7 HP;replace HZ := zC hb7 HZ;replace HB := zh (HB.o.trans (Below.mono hb7 HB.o.size));clear hb7;clear p0;have p0 := Zae HP.o;clear z0;have z0 := Zae HZ.o;go_wp2_with fail;refine (Zkg r.aE aR vactives' F G _ (Hactives.o.later Zba HB.o) (Gactives.o.later Zba HB.o)).mono ?_;rintro e w8 ⟨rfl, hb8⟩;replace HP := zC hb8 HP;replace HZ := zC hb8 HZ;replace HB := zh (HB.o.trans (Below.mono hb8 HB.o.size));clear hb8;clear p0;have p0 := Zae HP.o;clear z0;have z0 := Zae HZ.o;go_wp2_with fail;go_ret;exact ⟨rfl, HB.o⟩
theorem Zl0 (r : Zi6) (w : World) :
  Calls Tryz.prog 67 #[.agg #[.int .i64 r.low, .int .i64 r.high], .agg #[.int .i64 r.low, .int .i64 r.high]] w fun e w' => e = .returned (.bool true) ∧ Below w.heap.size w w' := by
 go_enter Tryz.func67, Tryz.ntmps67;go_wp2_with fail;go_ret;exact ⟨rfl, ((Below.refl _ _).alloc (Nat.le_refl _) _).alloc (by simp) _⟩
theorem Zc8 (r : Zj) (w : World) :
  Calls Tryz.prog 34 #[.agg #[.int .i64 r.kind, .int .i64 r.aH, .int .i64 r.index, .string r.text, .int .i64 r.set_.low, .int .i64 r.set_.high], .agg #[.int .i64 r.kind, .int .i64 r.aH, .int .i64 r.index, .string r.text, .int .i64 r.set_.low, .int .i64 r.set_.high]] w fun e w' => e = .returned (.bool true) ∧ Below w.heap.size w w' := by
 have ytext : (r.text.toList == r.text.toList) = true := by simp
 have HP := zh ((Za.refl _).alloc (.cells #[.int .i64 r.kind, .int .i64 r.aH, .int .i64 r.index, .string r.text, .int .i64 r.set_.low, .int .i64 r.set_.high] 34) |>.block _ (by simp) |>.trans (heap_alloc_new w (.cells #[.int .i64 r.kind, .int .i64 r.aH, .int .i64 r.index, .string r.text, .int .i64 r.set_.low, .int .i64 r.set_.high] 34)));have HZ := zh (heap_alloc_new (w.alloc (.cells #[.int .i64 r.kind, .int .i64 r.aH, .int .i64 r.index, .string r.text, .int .i64 r.set_.low, .int .i64 r.set_.high] 34)) (.cells #[.int .i64 r.kind, .int .i64 r.aH, .int .i64 r.index, .string r.text, .int .i64 r.set_.low, .int .i64 r.set_.high] 34));simp only [Zbj] at HZ;have HB := zh (((Below.refl w.heap.size w).alloc (Nat.le_refl _) (.cells #[.int .i64 r.kind, .int .i64 r.aH, .int .i64 r.index, .string r.text, .int .i64 r.set_.low, .int .i64 r.set_.high] 34)).alloc (by simp) (.cells #[.int .i64 r.kind, .int .i64 r.aH, .int .i64 r.index, .string r.text, .int .i64 r.set_.low, .int .i64 r.set_.high] 34));go_enter Tryz.func34, Tryz.ntmps34;go_wp2_with fail;refine (Zl0 r.set_ _).mono ?_;rintro e w4 ⟨rfl, hb4⟩;replace HP := zC hb4 HP;replace HZ := zC hb4 HZ;replace HB := zh (HB.o.trans (Below.mono hb4 HB.o.size));clear hb4;have p0 := cz6 HP.o;have z0 := cz6 HZ.o;go_wp2_with fail;go_ret;exact ⟨rfl, HB.o⟩
end Go.Proofs.YtpmhelkiicigfaaGreatDoor
namespace Go.Proofs.YtpmhelkiicigfaaGreatDoor
open Go.RowKit
variable {P : Program} {ops : Array Oper} {Q : Exit → Act → World → Prop} {md : Region.Mode}
theorem Zdx {l : Array Bool} {i : Nat} (h : l.getD i true = false) : (l.setIfInBounds i true).toList.count false + 1 = l.toList.count false := by
 have hi : i < l.size := by
  rcases Nat.lt_or_ge i l.size with h1 | h1
  ·exact h1
  ·simp [Array.getD, Nat.not_lt.2 h1] at h
 have hv : l.toList[i]'(by simpa using hi) = false := by simpa [Array.getD, hi] using h
 have e : (l.setIfInBounds i true).toList = l.toList.set i true := by simp
 have hpos : 0 < l.toList.count false := List.count_pos_iff.2 (hv ▸ List.getElem_mem (by simpa using hi));rw [e, List.count_set (by simpa using hi), hv];have h1 : (false == false) = true := rfl;have h2 : (true == false) = false := rfl;rw [if_pos h1, if_neg (by rw [h2]; decide)]
 omega
theorem Zqh {I : Array Bool → Act → World → Prop} (hstep : ∀ listed a w, I listed a w → ∀ i ∈ Region.ready md ops listed, wpOp P ops Q i (I (listed.setIfInBounds i true)) a w)
  (hend : ∀ listed a w, I listed a w → Region.ready md ops listed = [] → Q .normal a w) :
  ∀ (fuel : Nat) (listed : Array Bool) (a : Act) (w : World), I listed a w → listed.toList.count false ≤ fuel → wpAny P md ops Q fuel listed a w
 | 0, listed, a, w, hI, hc => by
  have hr : Region.ready md ops listed = [] := by
   rw [List.eq_nil_iff_forall_not_mem];intro i hi;have := Zdx (mem_ready.1 hi).1
   omega
  exact ⟨hr, hend listed a w hI hr⟩
 | fuel + 1, listed, a, w, hI, hc => ⟨fun hr => hend listed a w hI hr, fun i hi =>
   wpOp_mono (fun a' w' h' => Zqh hstep hend fuel _ a' w' h' (by have := Zdx (mem_ready.1 hi).1; omega)) (hstep listed a w hI i hi)⟩
def Zkh (Q : Exit → Act → World → Prop) (K : Act → World → Prop) : Exit → Act → World → Prop
 | .normal, a', w' => K a' w'
 | e, a', w' => Q e a' w'
/-- One operation, walked: behind it K. -/
theorem Zts {K : Act → World → Prop} {i : Nat} {o : Oper} {a : Act} {w : World} (ho : ops[i]? = some o) (h : wpList P ops (Zkh Q K) [o] a w) : wpOp P ops Q i K a w := by
 unfold wpList at h;unfold wpOp;rw [ho];have hK : ∀ a' w', wpList P ops (Zkh Q K) [] a' w' → K a' w' := fun a' w' h' => h';have hup : o.wp P a w (wpList P ops (Zkh Q K) []) (Zkh Q K) → o.wp P a w (wpList P ops (Zkh Q K) []) Q := fun h' => by
  unfold Oper.wp at *
  generalize (execOp a.eval o).run P w = r at *
  cases r with
  | ok n w' => cases n <;> exact h'
  | halt x w' => cases x <;> exact h'
 show if Region.wanted o (yielded ops a.tmps) = true then _ else _
 split
 ·rename_i hw;rw [if_pos hw] at h
  rcases h with h | ⟨h1, h2⟩
  ·exact .inl (Oper.wp_mono hK (hup h))
  ·exact .inr ⟨h1, h2⟩
 ·rename_i hw;rw [if_neg hw] at h;exact hK _ _ h
theorem Zoz {I : Array Bool → Act → World → Prop} {tl pu : Nat → Bool} {S : World → Prop} (hstep : ∀ listed a w, I listed a w → ∀ i ∈ Region.ready md ops listed, wpOp P ops Q i (fun a' w' => ((tl i = false → S w') ∧ (pu i = true → w' = w)) ∧ I (listed.setIfInBounds i true) a' w') a w)
  (hend : ∀ listed a w, I listed a w → Region.ready md ops listed = [] → Q .normal a w) :
  ∀ (fuel : Nat) (listed : Array Bool) (a : Act) (w : World), I listed a w → listed.toList.count false ≤ fuel → Zda P md ops Q tl pu S fuel listed a w
 | 0, listed, a, w, hI, hc => by
  have hr : Region.ready md ops listed = [] := by
   rw [List.eq_nil_iff_forall_not_mem];intro i hi;have := Zdx (mem_ready.1 hi).1
   omega
  exact ⟨hr, hend listed a w hI hr⟩
 | fuel + 1, listed, a, w, hI, hc => ⟨fun hr => hend listed a w hI hr, fun i hi =>
   wpOp_mono (fun a' w' h' => ⟨h'.1, Zoz hstep hend fuel _ a' w' h'.2 (by have := Zdx (mem_ready.1 hi).1; omega)⟩) (hstep listed a w hI i hi)⟩
end Go.Proofs.YtpmhelkiicigfaaGreatDoor
namespace Go.Proofs.YtpmhelkiicigfaaGreatDoor
open Go.RowKit
variable {P : Program} {ops : Array Oper} {Q : Exit → Act → World → Prop}
def Zt4 (ops : Array Oper) : Bool := (List.range ops.size).all fun j => match ops[j]? with
 | some o => o.after.all fun e => !Region.binds .any e || decide (e.on < j)
 | none => true
def Zf1 (n : Nat) (L : List Nat) : Array Bool := ((List.range n).map fun i => !L.contains i).toArray
def Znr (ops : Array Oper) (L U : List Nat) : Bool :=
 Zt4 ops && (L.all fun j => decide (j < ops.size) && (List.range ops.size).all fun i => L.contains i || U.contains i || Zhv .any ops ops.size j i) && Zeu ops L (Zf1 ops.size L) &&
  Region.noSelect ops && U.all fun i => decide (i < ops.size) && !L.contains i && Region.free .any ops (Zf1 ops.size (L ++ U)) i && (Region.ready .any ops (Zf1 ops.size (L ++ U))).contains i
theorem Zgx {n : Nat} {L : List Nat} {i : Nat} (hi : i < n) (b : Bool) : (Zf1 n L).getD i b = !L.contains i := by simp [Zf1, Array.getD, hi]
theorem Zg9 {l : Array Bool} {i : Nat} (hi : i < l.size) (b c : Bool) : l.getD i b = l.getD i c := by simp [Array.getD, hi]
/-- What is not listed has a first one that is ready. -/
theorem Zfn {listed : Array Bool} (hA : Zt4 ops = true) (hs : listed.size = ops.size) : ∀ (j : Nat), j < ops.size → listed.getD j true = false → ∃ i, i ∈ Region.ready .any ops listed := by
 intro j
 induction j using Nat.strongRecOn with
 | _ j ih =>
  intro hj hl
  by_cases hall : ∀ e ∈ ops[j].after, Region.binds .any e = true → listed.getD e.on false = true
  ·exact ⟨j, mem_ready.2 ⟨hl, ops[j], by simp [hj], hall⟩⟩
  ·obtain ⟨e, h1⟩ := Classical.not_forall.1 hall;obtain ⟨he, h1⟩ := Classical.not_imp.1 h1;obtain ⟨hb, h1⟩ := Classical.not_imp.1 h1;have h2 := List.all_eq_true.1 hA j (List.mem_range.2 hj);rw [show ops[j]? = some ops[j] by simp [hj]] at h2;have h3 := Array.all_eq_true_iff_forall_mem.1 h2 e he;simp only [hb, Bool.not_true, Bool.false_or, nJ] at h3;refine ih e.on h3 (by omega) ?_;rw [Zg9 (by omega) true false]
   simpa using h1
theorem Zgy : ∀ (L : List Nat) (os : List Oper) (fuel : Nat) (listed : Array Bool) (a : Act) (w : World), Zeu ops L listed = true → L.map (ops[·]?) = os.map some → listed.toList.count false ≤ fuel →
  wpList P ops Q os a w → wpAny P .any ops Q fuel listed a w
 | [], os, fuel, listed, a, w, hch, hos, _, h => by
  have : os = [] := by cases os with
   | nil => rfl
   | cons => simp at hos
  subst this;have hr : Region.ready .any ops listed = [] := by simpa [Zeu] using hch
  cases fuel with
  | zero => exact ⟨hr, h⟩
  | succ n => exact ⟨fun _ => h, fun i hi => by rw [hr] at hi; cases hi⟩
 | i :: L, os, fuel, listed, a, w, hch, hos, hc, h => by
  obtain ⟨o, os', rfl⟩ : ∃ o os', os = o :: os' := by cases os with
   | nil => simp at hos
   | cons o os' => exact ⟨o, os', rfl⟩
  simp only [List.map_cons, List.cons.injEq] at hos;simp only [Zeu, Bool.and_eq_true, beq_iff_eq] at hch;obtain ⟨hr, hch'⟩ := hch;have hn := Zdx (mem_ready.1 (show i ∈ Region.ready .any ops listed by rw [hr]; simp)).1;obtain ⟨fuel, rfl⟩ : ∃ k, fuel = k + 1 := ⟨fuel - 1, by omega⟩;refine ⟨fun h0 => (by rw [hr] at h0; cases h0), fun j hj => ?_⟩;rw [hr] at hj;obtain rfl : j = i := by simpa using hj
  have hK : ∀ a' w', wpList P ops Q os' a' w' → wpAny P .any ops Q fuel (listed.setIfInBounds j true) a' w' := fun a' w' h' =>
   Zgy L os' fuel _ a' w' hch' hos.2 (by omega) h'
  unfold wpList at h;unfold wpOp;rw [hos.1];show if Region.wanted o (yielded ops a.tmps) = true then _ else _
  split
  ·rename_i hw;rw [if_pos hw] at h;exact h.imp (Oper.wp_mono hK) id
  ·rename_i hw;rw [if_neg hw] at h;exact hK _ _ h
theorem Zlf {l : Array Bool} {i j : Nat} (b : Bool) (h : i ≠ j) : (l.setIfInBounds i true).getD j b = l.getD j b := getD_set_ne b h
theorem Zsg : ∀ (fuel : Nat) (listed : Array Bool) (a : Act) (w : World), wpAny P .any ops Q fuel listed a w → Zda P .any ops Q (fun _ => true) (fun _ => false) (fun _ => True) fuel listed a w := by
 intro fuel
 induction fuel with
 | zero => exact fun _ _ _ h => h
 | succ fuel ih =>
  intro listed a w h;refine ⟨h.1, fun i hi => wpOp_mono (fun a' w' h' => ?_) (h.2 i hi)⟩;exact ⟨⟨fun _ => trivial, fun h0 => by simp at h0⟩, ih _ a' w' h'⟩
/-- Operation i reads no memory: it is taken first. -/
theorem Zo0 {i : Nat} {oi : Oper} {v : Value} (hi : ops[i]? = some oi) (hsel : ∀ (j : Nat) (o : Oper) cs b, ops[j]? = some o → o.op ≠ .select cs b) (hQ : ∀ c a w, Q (.panic c) (a.put oi.dst v) w → Q (.panic c) a w) (fuel : Nat) (listed : Array Bool) (a : Act) (w : World)
  (hfree : ∀ j oj, ops[j]? = some oj → j ≠ i → listed.getD j true = false → (∀ e ∈ oj.after, Region.binds .any e = true → e.on ≠ i) → oi.apart ops oj = true) (hr : i ∈ Region.ready .any ops listed) (hy : YieldsIf P ops (fun _ => True) oi v a)
  (h : wpAny P .any ops Q fuel (listed.setIfInBounds i true) (a.put oi.dst v) w) : wpAny P .any ops Q (fuel + 1) listed a w :=
 Zf4 _ _ _ _ (Zi5 (tl := fun _ => true) (pu := fun _ => false) (S := fun _ => True) hi hsel hQ rfl fuel listed a w hfree hr hy (Zsg _ _ _ _ h))
theorem Zs7 (hQ : ∀ c (d : Tmp) v a w, Q (.panic c) (Act.put a (some d) v) w → Q (.panic c) a w) (c : List PanicEntry) (d : Option Tmp) (v : Value) (a : Act) (w : World) (h : Q (.panic c) (Act.put a d v) w) : Q (.panic c) a w := by
 cases d with
 | none => exact h
 | some d => exact hQ c d v a w h
theorem unl {listed : Array Bool} {i : Nat} (h : ¬ listed.getD i true = true) : listed.getD i true = false := by simpa using h
theorem Zs8 {I : Array Bool → Act → World → Prop} {L U : List Nat} {os : List Oper} (hB : Znr ops L U = true) (hos : L.map (ops[·]?) = os.map some) (hQ : ∀ c (d : Tmp) v a w, Q (.panic c) (Act.put a (some d) v) w → Q (.panic c) a w)
  (hstep : ∀ i o, ops[i]? = some o → L.contains i = false → U.contains i = false → ∀ listed a w, I listed a w → listed.size = ops.size → listed.getD i true = false → (∀ e ∈ o.after, Region.binds .any e = true → listed.getD e.on false = true) → wpOp P ops Q i (I (listed.setIfInBounds i true)) a w)
  (hpure : ∀ i o, ops[i]? = some o → U.contains i = true → ∀ listed a w, I listed a w → listed.size = ops.size → listed.getD i true = false → (∀ e ∈ o.after, Region.binds .any e = true → listed.getD e.on false = true) → ∃ v, YieldsIf P ops (fun _ => True) o v a ∧ I (listed.setIfInBounds i true) (a.put o.dst v) w)
  (hend : ∀ a w, I (Zf1 ops.size L) a w → wpList P ops Q os a w) :
  ∀ (fuel : Nat) (listed : Array Bool) (a : Act) (w : World), I listed a w → Zin .any ops listed → listed.size = ops.size → (∀ i ∈ L, listed.getD i true = false) → listed.toList.count false ≤ fuel → wpAny P .any ops Q fuel listed a w := by
 simp only [Znr, Bool.and_eq_true] at hB;obtain ⟨⟨⟨⟨hA, hR⟩, hC⟩, hNS⟩, hU⟩ := hB;intro fuel
 induction fuel with
 | zero =>
  intro listed a w hI hcl hs hLu hc
  by_cases hall : ∀ i, i < ops.size → L.contains i = false → listed.getD i true = true
  ·have he : listed = Zf1 ops.size L := by
    apply Array.ext
    ·simp [Zf1, hs]
    ·intro i h1 h2;have h3 : i < ops.size := by omega
     have e1 : listed.getD i true = listed[i] := by simp [Array.getD, h1]
     have e2 : (Zf1 ops.size L).getD i true = (Zf1 ops.size L)[i] := by simp [Array.getD, h2]
     rw [← e1, ← e2, Zgx h3]
     cases hLi : L.contains i with
     | false => exact hall i h3 hLi
     | true => exact hLu i (by simpa using hLi)
   subst he;exact Zgy L os _ _ a w hC hos hc (hend a w hI)
  ·obtain ⟨i, h1⟩ := Classical.not_forall.1 hall;obtain ⟨h1, h2⟩ := Classical.not_imp.1 h1;obtain ⟨h2, h3⟩ := Classical.not_imp.1 h2;obtain ⟨k, hk⟩ := Zfn hA hs i h1 (unl h3);have := Zdx (mem_ready.1 hk).1
   omega
 | succ fuel ih =>
  intro listed a w hI hcl hs hLu hc;have hLs : ∀ j, L.contains j = false → ∀ m ∈ L, (listed.setIfInBounds j true).getD m true = false := fun j hjL m hm => by
   have hne : j ≠ m := fun h => by
    subst h;rw [show L.contains j = true by simpa using hm] at hjL
    cases hjL
   rw [Zlf true hne];exact hLu m hm
  by_cases hall : ∀ i, i < ops.size → L.contains i = false → listed.getD i true = true
  ·have he : listed = Zf1 ops.size L := by
    apply Array.ext
    ·simp [Zf1, hs]
    ·intro i h1 h2;have h3 : i < ops.size := by omega
     have e1 : listed.getD i true = listed[i] := by simp [Array.getD, h1]
     have e2 : (Zf1 ops.size L).getD i true = (Zf1 ops.size L)[i] := by simp [Array.getD, h2]
     rw [← e1, ← e2, Zgx h3]
     cases hLi : L.contains i with
     | false => exact hall i h3 hLi
     | true => exact hLu i (by simpa using hLi)
   subst he;exact Zgy L os _ _ a w hC hos hc (hend a w hI)
  by_cases hallU : ∀ i, i < ops.size → L.contains i = false → U.contains i = false → listed.getD i true = true
  ·obtain ⟨i, h1⟩ := Classical.not_forall.1 hall;obtain ⟨h1, h2⟩ := Classical.not_imp.1 h1;obtain ⟨h2, h3⟩ := Classical.not_imp.1 h2;have hiU : U.contains i = true := by
    cases hc' : U.contains i with
    | true => rfl
    | false => exact absurd (hallU i h1 h2 hc') h3
   have h4 := List.all_eq_true.1 hU i (by simpa using hiU);simp only [Bool.and_eq_true] at h4;obtain ⟨⟨_, hfr⟩, hrd⟩ := h4;have hi : ops[i]? = some ops[i] := by simp [h1]
   have hlt : ∀ j, j < ops.size → listed.getD j true = false → (Zf1 ops.size (L ++ U)).getD j true = false := fun j hj hjl => by
    rw [Zgx hj]
    cases hjL : L.contains j with
    | true => simp at hjL; simp [hjL]
    | false =>
     cases hjU : U.contains j with
     | true => simp at hjU; simp [hjU]
     | false => rw [hallU j hj hjL hjU] at hjl; cases hjl
   have hready : i ∈ Region.ready .any ops listed := by
    obtain ⟨_, o, ho, hdep⟩ := mem_ready.1 (show i ∈ Region.ready .any ops (Zf1 ops.size (L ++ U)) by simpa using hrd);refine mem_ready.2 ⟨unl h3, o, ho, fun e he hb => ?_⟩;have h5 := hdep e he hb;have h6 : e.on < ops.size := by
     rcases Nat.lt_or_ge e.on ops.size with h7 | h7
     ·exact h7
     ·simp [Zf1, Array.getD, Nat.not_lt.2 h7] at h5
    rw [Zgx h6] at h5;simp only [List.contains_append, Bool.not_or, Bool.and_eq_true, Bool.not_eq_true'] at h5;rw [Zg9 (by omega) false true];exact hallU e.on h6 h5.1 h5.2
   obtain ⟨v, hy, hI'⟩ := hpure i _ hi hiU listed a w hI hs (unl h3) (by
    obtain ⟨_, o, ho, hdep⟩ := mem_ready.1 hready;rw [hi] at ho
    cases ho
    exact hdep)
   refine Zo0 hi (Region.noSelect_spec hNS) (fun c a w h => Zs7 hQ c _ _ a w h) fuel listed a w (fun j oj hj hne hjl hno => ?_) hready hy (ih _ _ w hI' (Zhm hcl hready) (by simp [hs]) (hLs i h2) (by have := Zdx (unl h3); omega));exact Region.free_spec hi hfr j oj hj hne (hlt j (Array.getElem?_eq_some_iff.1 hj).1 hjl) hno
  ·obtain ⟨i, h1⟩ := Classical.not_forall.1 hallU;obtain ⟨h1, h2⟩ := Classical.not_imp.1 h1;obtain ⟨h2, h3⟩ := Classical.not_imp.1 h2;obtain ⟨h3u, h3⟩ := Classical.not_imp.1 h3;obtain ⟨k, hk⟩ := Zfn hA hs i h1 (unl h3);refine ⟨fun hr => (by rw [hr] at hk; cases hk), fun j hj => ?_⟩;obtain ⟨hjun, oj, hoj, hja⟩ := mem_ready.1 hj;have hjL : L.contains j = false := by
    cases hc' : L.contains j with
    | false => rfl
    | true =>
     have h4 := List.all_eq_true.1 hR j (by simpa using hc');simp only [Bool.and_eq_true] at h4;have h5 := List.all_eq_true.1 h4.2 i (List.mem_range.2 h1);rw [h2, h3u, Bool.false_or, Bool.false_or] at h5;have h6 := Zet hcl _ j i oj hoj hja h5;rw [Zg9 (by omega) false true] at h6;exact absurd h6 h3
   have hK : ∀ a' w', I (listed.setIfInBounds j true) a' w' → wpAny P .any ops Q fuel (listed.setIfInBounds j true) a' w' := fun a' w' h' =>
    ih _ a' w' h' (Zhm hcl hj) (by simp [hs]) (hLs j hjL) (by have := Zdx hjun; omega)
   cases hjU : U.contains j with
   | false => exact wpOp_mono hK (hstep j oj hoj hjL hjU listed a w hI hs hjun hja)
   | true =>
    obtain ⟨v, hy, hI'⟩ := hpure j oj hoj hjU listed a w hI hs hjun hja;exact hy.wpOp hoj trivial (hK _ _ hI')
/-- A drawn region by an invariant; L: the last ones; U: those that read no memory. -/
theorem Zqi {I : Array Bool → Act → World → Prop} (L U : List Nat) (os : List Oper) {id : Nat} {a : Act} {w : World} (hm : P.follows .mixedOrders = true) (hB : Znr ops L U = true) (hos : L.map (ops[·]?) = os.map some) (hQ : ∀ c (d : Tmp) v a w, Q (.panic c) (Act.put a (some d) v) w → Q (.panic c) a w)
  (h0 : ∀ w1, w1 = w.drew → I (Array.replicate ops.size false) a w1)
  (hstep : ∀ i o, ops[i]? = some o → L.contains i = false → U.contains i = false → ∀ listed a w, I listed a w → listed.size = ops.size → listed.getD i true = false → (∀ e ∈ o.after, Region.binds .any e = true → listed.getD e.on false = true) → wpOp P ops Q i (I (listed.setIfInBounds i true)) a w)
  (hpure : ∀ i o, ops[i]? = some o → U.contains i = true → ∀ listed a w, I listed a w → listed.size = ops.size → listed.getD i true = false → (∀ e ∈ o.after, Region.binds .any e = true → listed.getD e.on false = true) → ∃ v, YieldsIf P ops (fun _ => True) o v a ∧ I (listed.setIfInBounds i true) (a.put o.dst v) w)
  (hend : ∀ a w, I (Zf1 ops.size L) a w → wpList P ops Q os a w) : (Code.region id ops true).wp P Q a w := by
 have hR := hB;simp only [Znr, Bool.and_eq_true] at hR;refine wp_region_any hm (Zs8 hB hos hQ hstep hpure hend _ _ _ _ (h0 w.drew rfl) (fun j o ho hl => ?_) (by simp) (fun i hi => ?_) (by simp))
 ·have hj : j < ops.size := (Array.getElem?_eq_some_iff.1 ho).1;simp [Array.getD, hj] at hl
 ·have := List.all_eq_true.1 hR.1.1.1.2 i hi;simp only [Bool.and_eq_true, nJ] at this;simp [Array.getD, this.1]
/-- What an operation waits for, told by numbers. -/
theorem Zns {o : Oper} {listed : Array Bool} (h : ∀ e ∈ o.after, Region.binds .any e = true → listed.getD e.on false = true) (D : List Nat) (hD : (D.all fun d => o.after.any fun e => Region.binds .any e && e.on == d) = true) : ∀ d ∈ D, listed.getD d false = true := by
 intro d hd;obtain ⟨e, he, h1⟩ := Array.any_eq_true'.1 (List.all_eq_true.1 hD d hd);simp only [Bool.and_eq_true, beq_iff_eq] at h1;rw [← h1.2];exact h e he h1.1
end Go.Proofs.YtpmhelkiicigfaaGreatDoor
namespace Go.Proofs.YtpmhelkiicigfaaGreatDoor
open Go.RowKit
def Zbh : Value → Nat
 | .pointer (some p) => p.block
 | _ => 0
def Zd9 (x : Value) (k : Nat) : Value := match x with
 | .tuple a => a.getD k undef
 | _ => undef
def bt (l : Array Bool) (i : Nat) : Prop := l.getD i false = true
theorem Zby {l : Array Bool} {i j : Nat} (hij : i ≠ j) (h : bt (l.setIfInBounds i true) j) : bt l j := by unfold bt at *; rwa [Zlf false hij] at h
theorem Zcd {l : Array Bool} {i j : Nat} (h : bt l j) : bt (l.setIfInBounds i true) j := by unfold bt at *; exact getD_set_true h
theorem Z2 {n i : Nat} (h : bt (Array.replicate n false) i) : False := by
 unfold bt at h
 rcases Nat.lt_or_ge i n with h1 | h1
 ·simp [Array.getD, h1] at h
 ·simp [Array.getD, Nat.not_lt.2 h1] at h
/-- An operand: a Store of the laws' own. -/
def StR (u : World) (r : Zh) (x : Value) : Prop := ∃ cs : List Value, x = .agg cs.toArray ∧ Zb6 (fun _ => True) u r cs
theorem StR.later {u v : World} {r : Zh} {x : Value} (h : StR u r x) (hl : Za u v) : StR v r x := by
 obtain ⟨cs, h1, h2⟩ := h;exact ⟨cs, h1, Z7.keep h2 (fun _ h => h) (Zc.later hl)⟩
/-- A call's result: a Store of blocks of its own, a Value, a code; N: blocks that are none of it. -/
def Zfh (W u : World) (q : Zh × Zj × Int) (N : Nat → Prop) (x : Value) : Prop :=
 ∃ (cs : List Value) (F : Nat → Prop), x = .tuple #[.agg cs.toArray, .agg #[.int .i64 q.2.1.kind, .int .i64 q.2.1.aH, .int .i64 q.2.1.index, .string q.2.1.text, .int .i64 q.2.1.set_.low, .int .i64 q.2.1.set_.high], .int .i64 q.2.2] ∧ Zcz F u q.1 cs ∧ (∀ b, F b → W.heap.size ≤ b ∧ b < u.heap.size) ∧ ∀ b, N b → ¬ F b
theorem Zfh.later {W u v : World} {q : Zh × Zj × Int} {N N' : Nat → Prop} {x : Value} (h : Zfh W u q N x) (hl : Za u v) (hN : ∀ b, N' b → N b ∨ u.heap.size ≤ b) : Zfh W v q N' x := by
 obtain ⟨cs, F, h1, h2, h3, h4⟩ := h;refine ⟨cs, F, h1, Zv.is.keep h2 (fun _ h => h) (Zc.later hl), fun b hb => ⟨(h3 b hb).1, Nat.lt_of_lt_of_le (h3 b hb).2 hl.size⟩, fun b hb hF => ?_⟩
 rcases hN b hb with h | h
 ·exact h4 b h hF
 ·have := (h3 b hF).2
  omega
theorem Zfh.new {W u v : World} {q : Zh × Zj × Int} {N : Nat → Prop} {e : Ending} (h : Zbu u q e v) (hW : Za W u) (hN : ∀ b, N b → b < u.heap.size) : ∃ x, e = .returned x ∧ Zfh W v q N x ∧ Za u v := by
 obtain ⟨cs, h1, h2, h3⟩ := h;exact ⟨_, h1, ⟨cs, _, rfl, Zv.trim h2, fun b hb => ⟨Nat.le_trans hW.size hb.1, hb.2⟩, fun b hb hF => by have := hN b hb; have := hF.1; omega⟩, h3⟩
/-- A variable of the law's own, made. -/
def AlR (W u : World) (o : Obj) (x : Value) : Prop := ∃ B : Nat, x = .pointer (some ⟨B, 0, none⟩) ∧ u.heap[B]? = some o ∧ W.heap.size ≤ B
theorem AlR.later {W u v : World} {o : Obj} {x : Value} (h : AlR W u o x) (hl : Za u v) : AlR W v o x := by
 obtain ⟨B, h1, h2, h3⟩ := h;exact ⟨B, h1, (hl.block B (Zd h2)).trans h2, h3⟩
theorem AlR.new {W u : World} (o : Obj) (hW : Za W u) : AlR W (u.alloc o) o (.pointer (some ⟨u.heap.size, 0, none⟩)) := ⟨_, rfl, heap_alloc_new u o, hW.size⟩
theorem AlR.lt {W u : World} {o : Obj} {x : Value} (h : AlR W u o x) : Zbh x < u.heap.size := by
 obtain ⟨B, rfl, h2, _⟩ := h;exact Zd h2
theorem Zjc {u : World} {B : Nat} {T : TypeId} {zs : Array Value} (vs : List Value) (hB : u.heap[B]? = some (.cells zs T (0, 0))) (hz : zs.size = vs.length) : (Zp u B 0 vs).heap[B]? = some (.cells vs.toArray T (0, 0)) := by
 obtain ⟨cur, h1, h2, _, h4⟩ := Zb1 vs u 0 zs hB (by omega);rw [h1];have : cur = vs.toArray := by
  apply Array.ext
  ·simp [h2, hz]
  ·intro i h5 h6;have := h4 i vs[i] (by simp at h6; simp [h6]);rw [Nat.zero_add] at this;simp only [List.getElem_toArray];exact (Array.getElem?_eq_some_iff.1 this).2
 rw [this]
/-- A Store of the law's own: in block B, its rows in blocks of F, all from lo on and below hi. -/
structure Own (lo hi : Nat) (u : World) (q : Zh) (B : Nat) (F : Nat → Prop) (cs : List Value) : Prop where
 blk : u.heap[B]? = some (.cells cs.toArray 30 (0, 0))
 sp : Zcz F u q cs
 dom : ∀ b, F b → lo ≤ b ∧ b < hi
 loB : lo ≤ B
 hiB : B < hi
 nB : ¬ F B
 le : hi ≤ u.heap.size
theorem Own.move {lo hi : Nat} {u v : World} {q : Zh} {B : Nat} {F : Nat → Prop} {cs : List Value} (h : Own lo hi u q B F cs) (hs : u.heap.size ≤ v.heap.size) (hb : ∀ b, lo ≤ b → b < hi → v.heap[b]? = u.heap[b]?) : Own lo hi v q B F cs :=
 ⟨(hb B h.loB h.hiB).trans h.blk, Zv.is.keep h.sp (fun _ h => h) ⟨hs, fun b hF _ => hb b (h.dom b hF).1 (h.dom b hF).2⟩, h.dom, h.loB, h.hiB, h.nB, Nat.le_trans h.le hs⟩
theorem Own.later {lo hi : Nat} {u v : World} {q : Zh} {B : Nat} {F : Nat → Prop} {cs : List Value} (h : Own lo hi u q B F cs) (hl : Za u v) : Own lo hi v q B F cs :=
 h.move hl.size fun b _ hb => hl.block b (Nat.lt_of_lt_of_le hb h.le)
/-- Another's rows are turned. -/
theorem Own.apart {lo hi lo' hi' : Nat} {u v : World} {q q' : Zh} {B B' : Nat} {F F' : Nat → Prop} {cs cs' : List Value} (h : Own lo hi u q B F cs) (h' : Own lo' hi' u q' B' F' cs') (hk : Zc (fun y => ¬ F' y) u v) (hd : hi ≤ lo' ∨ hi' ≤ lo) : Own lo hi v q B F cs :=
 h.move hk.size fun b h1 h2 => hk.same b (fun hF => by have := h'.dom b hF; omega) (Nat.lt_of_lt_of_le h2 h.le)
/-- Its own rows are turned. -/
theorem Own.turned {lo hi : Nat} {u v : World} {q q' : Zh} {B : Nat} {F : Nat → Prop} {cs : List Value} (h : Own lo hi u q B F cs) (hk : Zc (fun y => ¬ F y) u v) (hsp : Zcz F v q' cs) : Own lo hi v q' B F cs :=
 ⟨(hk.same B h.nB (Zd h.blk)).trans h.blk, hsp, h.dom, h.loB, h.hiB, h.nB, Nat.le_trans h.le hk.size⟩
theorem Own.below {lo hi : Nat} {u v : World} {q : Zh} {B : Nat} {F : Nat → Prop} {cs : List Value} (h : Own lo hi u q B F cs) (hk : Zc (fun y => ¬ F y) u v) (h0 : Below 0 u v) {n : Nat} (hn : n ≤ lo) : Below n u v :=
 Zjv hk h0 (fun b hb => Nat.le_trans hn (h.dom b hb).1) (Nat.le_trans hn (Nat.le_trans h.loB (Nat.le_of_lt (Zd h.blk))))
/-- A Value of the law's own, in block B. -/
structure Zo1 (lo hi : Nat) (u : World) (B : Nat) (vs : List Value) : Prop where
 blk : u.heap[B]? = some (.cells vs.toArray 34 (0, 0))
 loB : lo ≤ B
 hiB : B < hi
 le : hi ≤ u.heap.size
theorem Zo1.later {lo hi : Nat} {u v : World} {B : Nat} {vs : List Value} (h : Zo1 lo hi u B vs) (hl : Za u v) : Zo1 lo hi v B vs :=
 ⟨(hl.block B (Zd h.blk)).trans h.blk, h.loB, h.hiB, Nat.le_trans h.le hl.size⟩
theorem Zo1.apart {lo hi lo' hi' : Nat} {u v : World} {q' : Zh} {B B' : Nat} {F' : Nat → Prop} {cs' : List Value} {vs : List Value} (h : Zo1 lo hi u B vs) (h' : Own lo' hi' u q' B' F' cs') (hk : Zc (fun y => ¬ F' y) u v) (hd : ¬ F' B) : Zo1 lo hi v B vs :=
 ⟨(hk.same B hd (Zd h.blk)).trans h.blk, h.loB, h.hiB, Nat.le_trans h.le hk.size⟩
/-- Behind a drawn region: the two results are stored. -/
theorem Zee {W u : World} {q : Zh} {B C : Nat} {F : Nat → Prop} {cs vs : List Value} {zs ys : Array Value} (hW : Za W u) (hB : u.heap[B]? = some (.cells zs 30 (0, 0))) (hC : u.heap[C]? = some (.cells ys 34 (0, 0)))
  (hz : zs.size = cs.length) (hy : ys.size = vs.length) (hBC : B ≠ C) (hWB : W.heap.size ≤ B) (hWC : W.heap.size ≤ C) (hsp : Zcz F u q cs) (hF : ∀ b, F b → W.heap.size ≤ b ∧ b < u.heap.size) (hFB : ¬ F B) (hFC : ¬ F C) :
  Own W.heap.size u.heap.size (Zp (Zp u B 0 cs) C 0 vs) q B F cs ∧ Zo1 W.heap.size u.heap.size (Zp (Zp u B 0 cs) C 0 vs) C vs ∧ Za W (Zp (Zp u B 0 cs) C 0 vs) ∧ ¬ F C := by
 have k1 : Zc (fun y => y ≠ B) u (Zp u B 0 cs) := Z5 (fun h => h rfl) cs u 0 (Zc.refl _ _);have k2 : Zc (fun y => y ≠ C) (Zp u B 0 cs) (Zp (Zp u B 0 cs) C 0 vs) := Z5 (fun h => h rfl) vs _ 0 (Zc.refl _ _);have hC1 : (Zp u B 0 cs).heap[C]? = some (.cells ys 34 (0, 0)) := (Zc6 (Ne.symm hBC) cs u 0).trans hC;have hs : u.heap.size ≤ (Zp (Zp u B 0 cs) C 0 vs).heap.size := Nat.le_trans k1.size k2.size;refine ⟨⟨(Zc6 hBC vs _ 0).trans (Zjc cs hB hz), ?_, hF, hWB, Zd hB, hFB, hs⟩, ⟨Zjc vs hC1 hy, hWC, Zd hC, hs⟩, Z8 hWC vs _ 0 (Z8 hWB cs u 0 hW), hFC⟩;exact Zv.is.keep hsp (fun _ h => h) ((k1.mono fun b hb e => hFB (e ▸ hb)).trans (k2.mono fun b hb e => hFC (e ▸ hb)))
/-- Behind a copy that is stored in a variable of its own. -/
theorem Zki {W u : World} {q : Zh} {F : Nat → Prop} {cs : List Value} (hW : Za W u) (hsp : Zcz F u q cs) (hF : ∀ b, F b → W.heap.size ≤ b) :
  Own W.heap.size (u.heap.size + 1) (u.alloc (.cells cs.toArray 30)) q u.heap.size (fun b => F b ∧ b < u.heap.size) cs ∧ Za W (u.alloc (.cells cs.toArray 30)) := by
 have hl : Za u (u.alloc (.cells cs.toArray 30)) := (Za.refl u).alloc _;refine ⟨⟨Zy rfl, ?_, fun b hb => ⟨hF b hb.1, by have := hb.2; omega⟩, hW.size, by omega, fun h => by have := h.2; omega, by simp⟩, hW.trans hl⟩;exact Zv.is.keep (Zv.trim hsp) (fun _ h => h) (Zc.later hl)
/-- What a fact of a drawn region's invariant becomes behind an operation that is not its own. -/
theorem kc {l : Array Bool} {i j : Nat} {p : Prop} (F : Hd (bt l j → p)) (h : i ≠ j := by decide) : Hd (bt (l.setIfInBounds i true) j → p) := fun k => F (Zby h k)
theorem kS {l : Array Bool} {i j : Nat} {u v : World} {r : Zh} {x : Value} (F : Hd (bt l j → StR u r x)) (hb : Za u v) (h : i ≠ j := by decide) : Hd (bt (l.setIfInBounds i true) j → StR v r x) := fun k => (F (Zby h k)).later hb
theorem kA {l : Array Bool} {i j : Nat} {W u v : World} {o : Obj} {x : Value} (F : Hd (bt l j → AlR W u o x)) (hb : Za u v) (h : i ≠ j := by decide) : Hd (bt (l.setIfInBounds i true) j → AlR W v o x) := fun k => (F (Zby h k)).later hb
theorem kM {l : Array Bool} {i j s : Nat} {p : Prop} (F : Hd (bt l j → p ∧ bt l s)) (h : i ≠ j := by decide) : Hd (bt (l.setIfInBounds i true) j → p ∧ bt (l.setIfInBounds i true) s) := fun k => ⟨(F (Zby h k)).1, Zcd (F (Zby h k)).2⟩
theorem kX {l : Array Bool} {i j : Nat} {p q : Prop} (F : Hd (bt l j → p ∧ bt l i)) (hun : ¬ bt l i) (h : i ≠ j := by decide) : Hd (bt (l.setIfInBounds i true) j → q) := fun k => absurd (F (Zby h k)).2 hun
theorem kG {l : Array Bool} {i j m : Nat} {p : Prop} (F : Hd (bt l j → bt l m → p)) (h : i ≠ j := by decide) (h' : i ≠ m := by decide) : Hd (bt (l.setIfInBounds i true) j → bt (l.setIfInBounds i true) m → p) := fun k k' => F (Zby h k) (Zby h' k')
theorem kR {l : Array Bool} {i j a b : Nat} {W u v : World} {q : Zh × Zj × Int} {x y z : Value} (F : Hd (bt l j → Zfh W u q (fun n => (bt l a ∧ n = Zbh y) ∨ (bt l b ∧ n = Zbh z)) x)) (hb : Za u v) (h : i ≠ j := by decide) (ha : i ≠ a := by decide) (hb' : i ≠ b := by decide) :
  Hd (bt (l.setIfInBounds i true) j → Zfh W v q (fun n => (bt (l.setIfInBounds i true) a ∧ n = Zbh y) ∨ (bt (l.setIfInBounds i true) b ∧ n = Zbh z)) x) := fun k => (F (Zby h k)).later hb fun n hN => .inl (hN.imp (fun h => ⟨Zby ha h.1, h.2⟩) (fun h => ⟨Zby hb' h.1, h.2⟩))
theorem kRa {l : Array Bool} {i j b : Nat} {W u v : World} {q : Zh × Zj × Int} {x y z : Value} (F : Hd (bt l j → Zfh W u q (fun n => (bt l i ∧ n = Zbh y) ∨ (bt l b ∧ n = Zbh z)) x)) (hb : Za u v) (h : i ≠ j := by decide) (hb' : i ≠ b := by decide) :
  Hd (bt (l.setIfInBounds i true) j → Zfh W v q (fun n => (bt (l.setIfInBounds i true) i ∧ n = Zbh (.pointer (some ⟨u.heap.size, 0, none⟩))) ∨ (bt (l.setIfInBounds i true) b ∧ n = Zbh z)) x) := fun k => (F (Zby h k)).later hb fun n hN => hN.elim (fun h => .inr (Nat.le_of_eq h.2.symm)) (fun h => .inl (.inr ⟨Zby hb' h.1, h.2⟩))
theorem kRb {l : Array Bool} {i j a : Nat} {W u v : World} {q : Zh × Zj × Int} {x y z : Value} (F : Hd (bt l j → Zfh W u q (fun n => (bt l a ∧ n = Zbh y) ∨ (bt l i ∧ n = Zbh z)) x)) (hb : Za u v) (h : i ≠ j := by decide) (ha : i ≠ a := by decide) :
  Hd (bt (l.setIfInBounds i true) j → Zfh W v q (fun n => (bt (l.setIfInBounds i true) a ∧ n = Zbh y) ∨ (bt (l.setIfInBounds i true) i ∧ n = Zbh (.pointer (some ⟨u.heap.size, 0, none⟩)))) x) := fun k => (F (Zby h k)).later hb fun n hN => hN.elim (fun h => .inl (.inl ⟨Zby ha h.1, h.2⟩)) (fun h => .inr (Nat.le_of_eq h.2.symm))
theorem kGa {l : Array Bool} {i b : Nat} {W u : World} {o : Obj} {z : Value} (F : Hd (bt l b → AlR W u o z)) (h : i ≠ b := by decide) : Hd (bt (l.setIfInBounds i true) i → bt (l.setIfInBounds i true) b → Zbh (.pointer (some ⟨u.heap.size, 0, none⟩)) ≠ Zbh z) := fun _ k e => absurd (F (Zby h k)).lt (by rw [← e]; exact Nat.lt_irrefl _)
theorem kGb {l : Array Bool} {i a : Nat} {W u : World} {o : Obj} {y : Value} (F : Hd (bt l a → AlR W u o y)) (h : i ≠ a := by decide) : Hd (bt (l.setIfInBounds i true) a → bt (l.setIfInBounds i true) i → Zbh y ≠ Zbh (.pointer (some ⟨u.heap.size, 0, none⟩))) := fun k _ e => absurd (F (Zby h k)).lt (by rw [e]; exact Nat.lt_irrefl _)
/-- The last ones of a drawn region are reached. -/
theorem Zaj {n : Nat} {L : List Nat} {i : Nat} (h : decide (i < n) && !L.contains i) : bt (Zf1 n L) i := by
 simp only [Bool.and_eq_true, nJ] at h;unfold bt;rw [Zgx h.1];exact h.2
/-- One operation of a drawn region, by what it waits for. -/
theorem unb {l : Array Bool} {i : Nat} (hun : l.getD i true = false) (hb : bt l i) : False := by
 have hi : i < l.size := by
  rcases Nat.lt_or_ge i l.size with h1 | h1
  ·exact h1
  ·simp [Array.getD, Nat.not_lt.2 h1] at hun
 unfold bt at hb;rw [Zg9 hi false true, hun] at hb
 cases hb
theorem Za6 {P : Program} {ops : Array Oper} {Q : Exit → Act → World → Prop} {I : Array Bool → Act → World → Prop} {n i : Nat} {o o' : Oper} (hn : ops.size = n) (ho : ops[i]? = some o) (D : List Nat) (hD : (D.all fun d => o.after.any fun e => Region.binds .any e && e.on == d) = true)
  (h : ∀ listed a w, I listed a w → listed.size = n → ¬ bt listed i → (∀ d ∈ D, bt listed d) → wpList P ops (Zkh Q (I (listed.setIfInBounds i true))) [o] a w)
  (ho' : ops[i]? = some o') (listed : Array Bool) (a : Act) (w : World) (hI : I listed a w) (hs : listed.size = ops.size) (hun : listed.getD i true = false) (ha : ∀ e ∈ o'.after, Region.binds .any e = true → listed.getD e.on false = true) : wpOp P ops Q i (I (listed.setIfInBounds i true)) a w := by
 obtain rfl : o = o' := by rw [ho] at ho'; exact Option.some.inj ho'
 exact Zts ho (h listed a w hI (hs.trans hn) (unb hun) (Zns ha D hD))
/-- One operation that reads no memory. -/
theorem Zgg (d : Option Tmp) {P : Program} {ops : Array Oper} {I : Array Bool → Act → World → Prop} {n i : Nat} {o o' : Oper} (hn : ops.size = n) (ho : ops[i]? = some o) (hd : o.dst = d) (D : List Nat) (hD : (D.all fun d => o.after.any fun e => Region.binds .any e && e.on == d) = true) (hg : ∀ ts, Region.wanted o (yielded ops ts) = true)
  (h : ∀ listed a w, I listed a w → listed.size = n → ¬ bt listed i → (∀ d ∈ D, bt listed d) → ∃ v, (∀ x, (execOp a.eval o).run P x = .ok (.value v) x) ∧ I (listed.setIfInBounds i true) (a.put d v) w)
  (ho' : ops[i]? = some o') (listed : Array Bool) (a : Act) (w : World) (hI : I listed a w) (hs : listed.size = ops.size) (hun : listed.getD i true = false) (ha : ∀ e ∈ o'.after, Region.binds .any e = true → listed.getD e.on false = true) : ∃ v, YieldsIf P ops (fun _ => True) o' v a ∧ I (listed.setIfInBounds i true) (a.put o'.dst v) w := by
 obtain rfl : o = o' := by rw [ho] at ho'; exact Option.some.inj ho'
 obtain ⟨v, h1, h2⟩ := h listed a w hI (hs.trans hn) (unb hun) (Zns ha D hD);exact ⟨v, .inl ⟨hg _, fun x _ => h1 x⟩, by rw [hd]; exact h2⟩
theorem Zl {Q : Exit → Act → World → Prop} {K : Act → World → Prop} {a : Act} {w : World} (h : K a w) : Zkh Q K .normal a w := h
theorem Zha {P : Program} {Q : Exit → Act → World → Prop} {c : Code} {a : Act} {w : World} (h : ∀ A, A = a → c.wp P Q A w) : c.wp P Q a w := h a rfl
/-- A drawn region by an invariant, the steps told for every exit. -/
theorem Ze6 {P : Program} {ops : Array Oper} {Q : Exit → Act → World → Prop} {I : Array Bool → Act → World → Prop} (L U T : List Nat) (os : List Oper) {id : Nat} {a : Act} {w : World} (hm : P.follows .mixedOrders = true) (hB : Znr ops L U = true) (hT : ((List.range ops.size).all fun i => L.contains i || (U.contains i || T.contains i)) = true) (hos : L.map (ops[·]?) = os.map some) (hQ : ∀ c (d : Tmp) v a w, Q (.panic c) (Act.put a (some d) v) w → Q (.panic c) a w)
  (h0 : ∀ w1, w1 = w.drew → I (Array.replicate ops.size false) a w1)
  (hstep : ∀ Q' : Exit → Act → World → Prop, ∀ i ∈ T, ∀ o, ops[i]? = some o → ∀ listed a w, I listed a w → listed.size = ops.size → listed.getD i true = false → (∀ e ∈ o.after, Region.binds .any e = true → listed.getD e.on false = true) → wpOp P ops Q' i (I (listed.setIfInBounds i true)) a w)
  (hpure : ∀ i ∈ U, ∀ o, ops[i]? = some o → ∀ listed a w, I listed a w → listed.size = ops.size → listed.getD i true = false → (∀ e ∈ o.after, Region.binds .any e = true → listed.getD e.on false = true) → ∃ v, YieldsIf P ops (fun _ => True) o v a ∧ I (listed.setIfInBounds i true) (a.put o.dst v) w)
  (hend : ∀ a w, I (Zf1 ops.size L) a w → wpList P ops Q os a w) : (Code.region id ops true).wp P Q a w :=
 Zqi L U os hm hB hos hQ h0 (fun i o ho hL hU listed a w hI hs hun ha => hstep Q i (by
  have h1 := List.all_eq_true.1 hT i (List.mem_range.2 (Array.getElem?_eq_some_iff.1 ho).1);rw [hL, hU, Bool.false_or, Bool.false_or] at h1
  simpa using h1) o ho listed a w hI hs hun ha) (fun i o ho hU => hpure i (by simpa using hU) o ho) hend
theorem Ze7 {α : Type} (cnt sz : α → Nat) (c d : Nat) (h : ∀ a, cnt a ≤ c + d * sz a) (hcd : c ≤ d) : ∀ l : List α, Zm cnt l ≤ d * Zk sz l
 | [] => Nat.zero_le _
 | a :: l => by
  have h1 := Ze7 cnt sz c d h hcd l;have h2 := h a;simp only [Zk, Zm, Zaq, List.length_cons, Nat.mul_add, Nat.mul_one] at *
  omega
theorem Zhb (l : List ByteArray) : Zm (fun _ => 1) l ≤ 1 * Zk ByteArray.size l := Ze7 _ _ 1 1 (fun _ => by omega) (by omega) l
theorem Zsh (l : List Zaw) : Zm Zx l ≤ 2 * Zk Zo l := Ze7 _ _ 2 2 (fun r => by
 have := Zhb r.fields;simp only [Zx, Zo]
 omega) (by omega) l
theorem Zkj (l : List Zj) : Zm Z3 l ≤ 6 * Zk Zs l := Ze7 _ _ 6 6 (fun r => by simp only [Z3]; omega) (by omega) l
theorem Zsi (l : List Zay) : Zm Zab l ≤ 6 * Zk Zr l := Ze7 _ _ 3 6 (fun r => by
 have h1 := Zkj r.aJ;have h2 := Zkj r.aK;simp only [Zab, Zr]
 omega) (by omega) l
theorem Zsj (l : List Zdd) : Zm Zal l ≤ 2 * Zk (fun _ => 0) l := Ze7 _ _ 2 2 (fun r => by simp only [Zal]; omega) (by omega) l
theorem Zhc (r : Zh) : Zap r ≤ 6 * Zad r := by
 have h1 := Zhb r.names;have h2 := Zsh r.aB;have h3 := Zsi r.aA;have h4 := Zkj r.globals;have h5 := Zhb r.output;have h6 := Zhb r.trace;have h7 := Zsj r.aE;simp only [Zap, Zad]
 omega
theorem Zkk {α : Type} (cnt : α → Nat) : ∀ l m : List α, Zm cnt (l ++ m) = Zm cnt l + Zm cnt m
 | [], m => by simp [Zm]
 | a :: l, m => by simp only [List.cons_append, Zm, Zkk cnt l m]; omega
theorem Znt (r : Zh) (x i : Zj) : Zap (Zct r ⟨8, 0, 0, [x, i], []⟩) = Zap r + 15 := by
 simp only [Zap, Zct, Zkk, Zm, Zab, Z3]
 omega
theorem Zo2 : Zap sZ = 0 := rfl
theorem Znu (r : Zh) (x i : Zj) : Zap (Zbg r x i).1 ≤ Zap r + 15 := by
 have hp := Znt r x i;unfold Zbg
 repeat' split
 all_goals simp only [hp]
 all_goals omega
theorem Zta (r : Zh) (x : Zj) (k : Nat) : Zap (elR r x k).1 ≤ Zap r + 15 := by
 unfold elR
 split
 ·split
  ·simp only; omega
  ·rename_i y _;have hp := Znt r x y
   split
   ·simp only [hp]; omega
   ·simp only; omega
 ·exact Znu r x _
theorem Znv (q : Zh × Zj × Int) : Zap (Zf0 q).1 ≤ Zap q.1 := by
 unfold Zf0
 split
 ·exact Nat.le_refl _
 ·simp only [Zo2]; omega
theorem Zqj (r : Zh) (x i : Zj) (h : Zad r ≤ 1048576) : Zap (Zbv r x i).1 ≤ 6291471 := by
 have h1 := Zhc r;have h2 := Znu r x i;have h3 := Znv (Zbg r x i);unfold Zbv
 split
 ·omega
 ·simp only [Zo2]; omega
theorem Zsk (r : Zh) (x : Zj) (k : Int) (h : Zad r ≤ 1048576) : Zap (Zc2 r x k).1 ≤ 6291471 := by
 have h1 := Zhc r;have h2 := Zta r x k.toNat;have h3 := Znv (elR r x k.toNat);unfold Zc2
 split
 ·omega
 ·simp only [Zo2]; omega
end Go.Proofs.YtpmhelkiicigfaaGreatDoor
namespace Go.Proofs.YtpmhelkiicigfaaGreatDoor
open Go.ChangeShapes Go.WideShapes Go.ChangeAt Go.RowKit
theorem Zik {w : World} {a : Addr} {v : Value} (h : w.cell? a = some v) : a.spot = none ∧ a.block < w.heap.size := by
 unfold World.cell? at h
 rcases hh : w.heap[a.block]? with _ | o
 ·rw [hh] at h; cases h
 ·refine ⟨?_, (Array.getElem?_eq_some_iff.1 hh).1⟩;rw [hh] at h
  cases o <;> simp at h
  exact h.1
/-- A reading at the type t gives such a thing. -/
def Zg0 {α : Type} (t : TypeId) (El : Zc0 α) : Prop := ∀ {H : Type} {enc : TypeId × Value → H} {w : World} {spare : Nat → Bool} {held : Bool} (n : Nat) (cs : List Value) (x : DataW H × List MemPlace), DataW.trod enc Tryz.prog w 0 spare held n t cs = some x → ∃ a, El (fun _ => True) w a cs
theorem Zb0 : Zg0 3 Zo6 := fun n cs x h => by
 obtain ⟨m, e, _, hw⟩ := DataW.trod_int Tryz.underlying3 h;have := bounds_i64 hw;exact ⟨m, e, by unfold Zac; omega⟩
theorem Zef : Zg0 9 Zbp := fun n cs x h => by
 obtain ⟨s, e, _, hs⟩ := DataW.trod_string Tryz.underlying9 h;exact ⟨s, e, hs⟩
theorem Zo3 : Zg0 4 Zqn := fun n cs x h => by
 obtain ⟨b, e, _⟩ := DataW.trod_bool Tryz.underlying4 h;exact ⟨b, e⟩
theorem Zc9 {α : Type} {El : Zc0 α} {size : Nat} {S E : TypeId} (hS : Tryz.prog.underlying S = some (.slice E)) (hc : Tryz.prog.cellsOf E = size) (h0 : 0 < size) (hE : Zea El size) (hel : Zg0 E El) : Zg0 S (Zty El size) := by
 intro H enc w spare held n cs x h
 rcases DataW.trod_slice hS h with ⟨rfl, _⟩ | ⟨a, len, cap, elems, rest, m, _, rfl, _, _, hlc, hcm, hel2, hall, _, _⟩
 ·exact ⟨[], _, rfl, Zu.nil _ _ _ _⟩
 ·by_cases hz : len = 0
  ·subst hz;exact ⟨[], _, rfl, some a, cap, rfl, Nat.zero_le _, hcm, fun i hi => by simp at hi⟩
  ·have each : ∀ i : Fin len, ∃ q : α × List Value, El (fun _ => True) w q.1 q.2 ∧ ∀ j, j < size → w.cell? ((a.add (i.1 * size)).add j) = q.2[j]? := fun i => by
    have h1 := hall i.1 i.2;have hi : i.1 < elems.length := by omega
    rw [List.getElem?_eq_getElem hi, Option.bind_eq_some_iff] at h1;obtain ⟨cs', hc', htr⟩ := h1;obtain ⟨p, hp⟩ := hel _ _ _ htr;rw [hc] at hc';obtain ⟨_, _, hcell⟩ := World.cells?_some hc';exact ⟨(p, cs'), hp, hcell⟩
   have hspot : a.spot = none := by
    obtain ⟨q, hq, hcell⟩ := each ⟨0, by omega⟩;have h1 := hcell 0 h0;have hl := hE.len hq;rw [List.getElem?_eq_getElem (by omega)] at h1;have := (Zik h1).1
    simpa [Addr.add] using this
   obtain ⟨ab, ao, asp⟩ := a;simp only at hspot;subst hspot;have ha : ∀ i k, ((⟨ab, ao, none⟩ : Addr).add i).add k = ⟨ab, ao + i + k, none⟩ := fun i k => by
    unfold Addr.add
    split <;> split <;> simp_all
   refine ⟨List.ofFn fun i => (Classical.choose (each i)).1, _, rfl, some ⟨ab, ao, none⟩, cap, by simp, by simpa using hlc, hcm, fun i hi => ?_⟩;have hi' : i < len := by simpa using hi
   have hc2 := Classical.choose_spec (each ⟨i, hi'⟩);obtain ⟨h1, h2⟩ := hc2;have hl := hE.len h1;refine ⟨ab, ao, (Classical.choose (each ⟨i, hi'⟩)).2, rfl, trivial, ?_, by simpa using h1, fun j y hj => ?_⟩
   ·have h3 := h2 0 h0;rw [List.getElem?_eq_getElem (by omega), ha] at h3;exact (Zik h3).2
   ·have hjs : j < size := by have := (List.getElem?_eq_some_iff.1 hj).1; omega
    have h3 := h2 j hjs;rw [ha] at h3;exact h3.trans hj
theorem Zcq : Tryz.prog.cellsOf 3 = 1 := by kernel_rfl
theorem Zc5 : Tryz.prog.cellsOf 9 = 1 := by kernel_rfl
theorem Zeg : Tryz.prog.cellsOf 4 = 1 := by kernel_rfl
end Go.Proofs.YtpmhelkiicigfaaGreatDoor
namespace Go.Proofs.YtpmhelkiicigfaaGreatDoor
open Go.ChangeShapes Go.WideShapes Go.ChangeAt Go.RowKit
theorem Zi2 : Tryz.prog.cellsOf 48 = 2 := by kernel_rfl
theorem Zo4 : Zg0 48 Zf5 := by
 intro H enc w spare held n cs x h;obtain ⟨xs, m, _, _, hlen, hxl, hg⟩ := DataW.trod_struct Tryz.underlying48 h;rw [Zi2] at hlen
 match cs, hlen with
 | [c0, c1], _ =>
  match xs, hxl with
  | [y0, y1], _ =>
   have g0 := hg 0 _ rfl;simp [Zcq] at g0;have g1 := hg 1 _ rfl;simp [Zcq] at g1;obtain ⟨r0, e0, h0⟩ := Zb0 _ _ _ g0;simp only [List.cons.injEq, and_true] at e0;subst e0;obtain ⟨r1, e1, h1⟩ := Zb0 _ _ _ g1;simp only [List.cons.injEq, and_true] at e1;subst e1;exact ⟨⟨r0, r1⟩, rfl, h0, h1⟩
theorem Zdb : Tryz.prog.cellsOf 24 = 1 := by kernel_rfl
theorem Zil : Tryz.prog.cellsOf 143 = 3 := by kernel_rfl
theorem Zi3 : Zg0 143 Zaz := by
 intro H enc w spare held n cs x h;obtain ⟨xs, m, _, _, hlen, hxl, hg⟩ := DataW.trod_struct Tryz.underlying143 h;rw [Zil] at hlen
 match cs, hlen with
 | [c0, c1, c2], _ =>
  match xs, hxl with
  | [y0, y1, y2], _ =>
   have g0 := hg 0 _ rfl;simp [Zcq, Zdb, Zc5] at g0;have g1 := hg 1 _ rfl;simp [Zcq, Zdb, Zc5] at g1;have g2 := hg 2 _ rfl;simp [Zcq, Zdb, Zc5] at g2;obtain ⟨r0, e0, h0⟩ := Zef _ _ _ g0;simp only [List.cons.injEq, and_true] at e0;subst e0;obtain ⟨r1, v1, e1, h1⟩ := Zc9 Tryz.underlying24 Zc5 (by decide) Z4 Zef _ _ _ g1;simp only [List.cons.injEq, and_true] at e1;subst e1;obtain ⟨r2, e2, h2⟩ := Zb0 _ _ _ g2;simp only [List.cons.injEq, and_true] at e2;subst e2;exact ⟨⟨r0, r1, r2⟩, _, rfl, h0, h1, h2⟩
theorem Zju : Tryz.prog.cellsOf 50 = 6 := by kernel_rfl
theorem Zdy : Zg0 50 Ze := by
 intro H enc w spare held n cs x h;obtain ⟨xs, m, _, _, hlen, hxl, hg⟩ := DataW.trod_struct Tryz.underlying50 h;rw [Zju] at hlen
 match cs, hlen with
 | [c0, c1, c2, c3, c4, c5], _ =>
  match xs, hxl with
  | [y0, y1, y2, y3, y4], _ =>
   have g0 := hg 0 _ rfl;simp [Zi2, Zcq, Zc5] at g0;have g1 := hg 1 _ rfl;simp [Zi2, Zcq, Zc5] at g1;have g2 := hg 2 _ rfl;simp [Zi2, Zcq, Zc5] at g2;have g3 := hg 3 _ rfl;simp [Zi2, Zcq, Zc5] at g3;have g4 := hg 4 _ rfl;simp [Zi2, Zcq, Zc5] at g4;obtain ⟨r0, e0, h0⟩ := Zb0 _ _ _ g0;simp only [List.cons.injEq, and_true] at e0;subst e0;obtain ⟨r1, e1, h1⟩ := Zb0 _ _ _ g1;simp only [List.cons.injEq, and_true] at e1;subst e1;obtain ⟨r2, e2, h2⟩ := Zb0 _ _ _ g2;simp only [List.cons.injEq, and_true] at e2;subst e2;obtain ⟨r3, e3, h3⟩ := Zef _ _ _ g3;simp only [List.cons.injEq, and_true] at e3;subst e3;obtain ⟨r4, e4, h40, h41⟩ := Zo4 _ _ _ g4;simp only [List.cons.injEq, and_true] at e4;obtain ⟨q40, q41⟩ := e4;subst q40 q41;exact ⟨⟨r0, r1, r2, r3, r4⟩, rfl, h0, h1, h2, h3, h40, h41⟩
theorem Zc3 : Tryz.prog.cellsOf 44 = 1 := by kernel_rfl
theorem Znw : Tryz.prog.cellsOf 146 = 5 := by kernel_rfl
theorem Zl1 : Zg0 146 Zbq := by
 intro H enc w spare held n cs x h;obtain ⟨xs, m, _, _, hlen, hxl, hg⟩ := DataW.trod_struct Tryz.underlying146 h;rw [Znw] at hlen
 match cs, hlen with
 | [c0, c1, c2, c3, c4], _ =>
  match xs, hxl with
  | [y0, y1, y2, y3, y4], _ =>
   have g0 := hg 0 _ rfl;simp [Zcq, Zc3] at g0;have g1 := hg 1 _ rfl;simp [Zcq, Zc3] at g1;have g2 := hg 2 _ rfl;simp [Zcq, Zc3] at g2;have g3 := hg 3 _ rfl;simp [Zcq, Zc3] at g3;have g4 := hg 4 _ rfl;simp [Zcq, Zc3] at g4;obtain ⟨r0, e0, h0⟩ := Zb0 _ _ _ g0;simp only [List.cons.injEq, and_true] at e0;subst e0;obtain ⟨r1, e1, h1⟩ := Zb0 _ _ _ g1;simp only [List.cons.injEq, and_true] at e1;subst e1;obtain ⟨r2, e2, h2⟩ := Zb0 _ _ _ g2;simp only [List.cons.injEq, and_true] at e2;subst e2;obtain ⟨r3, v3, e3, h3⟩ := Zc9 Tryz.underlying44 Zju (by decide) Zb Zdy _ _ _ g3;simp only [List.cons.injEq, and_true] at e3;subst e3;obtain ⟨r4, v4, e4, h4⟩ := Zc9 Tryz.underlying44 Zju (by decide) Zb Zdy _ _ _ g4;simp only [List.cons.injEq, and_true] at e4;subst e4;exact ⟨⟨r0, r1, r2, r3, r4⟩, _, _, rfl, h0, h1, h2, h3, h4⟩
theorem Znx : Tryz.prog.cellsOf 156 = 2 := by kernel_rfl
theorem Zl2 : Zg0 156 Zbf := by
 intro H enc w spare held n cs x h;obtain ⟨xs, m, _, _, hlen, hxl, hg⟩ := DataW.trod_struct Tryz.underlying156 h;rw [Znx] at hlen
 match cs, hlen with
 | [c0, c1], _ =>
  match xs, hxl with
  | [y0, y1], _ =>
   have g0 := hg 0 _ rfl;simp [Zcq] at g0;have g1 := hg 1 _ rfl;simp [Zcq] at g1;obtain ⟨r0, e0, h0⟩ := Zb0 _ _ _ g0;simp only [List.cons.injEq, and_true] at e0;subst e0;obtain ⟨r1, e1, h1⟩ := Zb0 _ _ _ g1;simp only [List.cons.injEq, and_true] at e1;subst e1;exact ⟨⟨r0, r1⟩, rfl, h0, h1⟩
theorem Za2 : Tryz.prog.cellsOf 24 = 1 := by kernel_rfl
theorem Zam : Tryz.prog.cellsOf 42 = 1 := by kernel_rfl
theorem Za3 : Tryz.prog.cellsOf 43 = 1 := by kernel_rfl
theorem Za8 : Tryz.prog.cellsOf 44 = 1 := by kernel_rfl
theorem Za4 : Tryz.prog.cellsOf 45 = 1 := by kernel_rfl
theorem Ztb : Tryz.prog.cellsOf 47 = 13 := by kernel_rfl
theorem Zjd : Zg0 47 Zb6 := by
 intro H enc w spare held n cs x h;obtain ⟨xs, m, _, _, hlen, hxl, hg⟩ := DataW.trod_struct Tryz.underlying47 h;rw [Ztb] at hlen
 match cs, hlen with
 | [c0, c1, c2, c3, c4, c5, c6, c7, c8, c9, c10, c11, c12], _ =>
  match xs, hxl with
  | [y0, y1, y2, y3, y4, y5, y6, y7, y8, y9, y10, y11, y12], _ =>
   have g0 := hg 0 _ rfl;simp [Zeg, Zcq, Za4, Za3, Zam, Za8, Za2, Zc5] at g0;have g1 := hg 1 _ rfl;simp [Zeg, Zcq, Za4, Za3, Zam, Za8, Za2, Zc5] at g1;have g2 := hg 2 _ rfl;simp [Zeg, Zcq, Za4, Za3, Zam, Za8, Za2, Zc5] at g2;have g3 := hg 3 _ rfl;simp [Zeg, Zcq, Za4, Za3, Zam, Za8, Za2, Zc5] at g3;have g4 := hg 4 _ rfl;simp [Zeg, Zcq, Za4, Za3, Zam, Za8, Za2, Zc5] at g4;have g5 := hg 5 _ rfl;simp [Zeg, Zcq, Za4, Za3, Zam, Za8, Za2, Zc5] at g5;have g6 := hg 6 _ rfl;simp [Zeg, Zcq, Za4, Za3, Zam, Za8, Za2, Zc5] at g6;have g7 := hg 7 _ rfl;simp [Zeg, Zcq, Za4, Za3, Zam, Za8, Za2, Zc5] at g7;have g8 := hg 8 _ rfl;simp [Zeg, Zcq, Za4, Za3, Zam, Za8, Za2, Zc5] at g8;have g9 := hg 9 _ rfl;simp [Zeg, Zcq, Za4, Za3, Zam, Za8, Za2, Zc5] at g9;have g10 := hg 10 _ rfl
   simp [Zeg, Zcq, Za4, Za3, Zam, Za8, Za2, Zc5] at g10;have g11 := hg 11 _ rfl;simp [Zeg, Zcq, Za4, Za3, Zam, Za8, Za2, Zc5] at g11;have g12 := hg 12 _ rfl;simp [Zeg, Zcq, Za4, Za3, Zam, Za8, Za2, Zc5] at g12;obtain ⟨r0, v0, e0, h0⟩ := Zc9 Tryz.underlying24 Zc5 (by decide) Z4 Zef _ _ _ g0;simp only [List.cons.injEq, and_true] at e0;subst e0;obtain ⟨r1, v1, e1, h1⟩ := Zc9 Tryz.underlying42 Zil (by decide) Zak Zi3 _ _ _ g1;simp only [List.cons.injEq, and_true] at e1;subst e1;obtain ⟨r2, v2, e2, h2⟩ := Zc9 Tryz.underlying43 Znw (by decide) Za9 Zl1 _ _ _ g2;simp only [List.cons.injEq, and_true] at e2;subst e2;obtain ⟨r3, v3, e3, h3⟩ := Zc9 Tryz.underlying44 Zju (by decide) Zb Zdy _ _ _ g3;simp only [List.cons.injEq, and_true] at e3;subst e3;obtain ⟨r4, e4, h4⟩ := Zef _ _ _ g4;simp only [List.cons.injEq, and_true] at e4;subst e4;obtain ⟨r5, e5, h5⟩ := Zb0 _ _ _ g5;simp only [List.cons.injEq, and_true] at e5;subst e5;obtain ⟨r6, v6, e6, h6⟩ := Zc9 Tryz.underlying24 Zc5 (by decide) Z4 Zef _ _ _ g6;simp only [List.cons.injEq, and_true] at e6;subst e6;obtain ⟨r7, v7, e7, h7⟩ := Zc9 Tryz.underlying24 Zc5 (by decide) Z4 Zef _ _ _ g7
   simp only [List.cons.injEq, and_true] at e7;subst e7;obtain ⟨r8, v8, e8, h8⟩ := Zc9 Tryz.underlying45 Znx (by decide) Zba Zl2 _ _ _ g8;simp only [List.cons.injEq, and_true] at e8;subst e8;obtain ⟨r9, e9⟩ := Zo3 _ _ _ g9;unfold Zqn at e9;simp only [List.cons.injEq, and_true] at e9;subst e9;obtain ⟨r10, e10, h10⟩ := Zb0 _ _ _ g10;simp only [List.cons.injEq, and_true] at e10;subst e10;obtain ⟨r11, e11, h11⟩ := Zb0 _ _ _ g11;simp only [List.cons.injEq, and_true] at e11;subst e11;obtain ⟨r12, e12, h12⟩ := Zb0 _ _ _ g12;simp only [List.cons.injEq, and_true] at e12;subst e12;exact ⟨⟨r0, r1, r2, r3, r4, r5, r6, r7, r8, r9, r10, r11, r12⟩, _, _, _, _, _, _, _, rfl, h0, h1, h2, h3, h4, h5, h6, h7, h8, h10, h11, h12⟩
end Go.Proofs.YtpmhelkiicigfaaGreatDoor
namespace Go.Proofs.YtpmhelkiicigfaaGreatDoor
open Go.ChangeShapes Go.WideShapes Go.ChangeAt Go.RowKit
theorem own : ownKnob Tryz.prog.godebug = none := by kernel_rfl
theorem Zpk : laidOutB Tryz.prog = true := by kernel_rfl
section
variable {H : Type} {enc : TypeId × Value → H} {P : Program}
/-- Arguments that lie below read again as they did. -/
theorem Zhl (hl : laidOutB P = true) {W W' : World} {sp : Nat → Bool} : ∀ (ts : List TypeId) (vs : List Value) (ds : List (DataW H)) (ps : List MemPlace),
  (ts.all fun t => P.readableRec t && decide (t < P.types.size)) = true → DataW.TrodAll enc P W 0 (fun _ => true) true ts vs ds ps → (∀ p ∈ ps, W.sameAt W' p) → (∀ p ∈ ps, sp p.block = true) → DataW.TrodAll enc P W' 0 sp true ts vs ds ps
 | [], vs, ds, ps, _, h, _, _ => by
  obtain ⟨rfl, rfl, rfl⟩ := trodAll_nil h;exact trodAll_mk0
 | t :: ts, vs, ds, ps, hr, h, h1, h2 => by
  obtain ⟨v, vs', d, ds', p, q, rfl, rfl, rfl, hp, hq⟩ := trodAll_cons h;simp only [List.all_cons, Bool.and_eq_true, nJ] at hr;exact trodAll_cons_mk (WideElems.Trod_stays hl hr.1.1 hr.1.2 hp (fun x hx => h1 x (by simp [hx])) (fun x hx => h2 x (by simp [hx])))
   (Zhl hl ts vs' ds' q hr.2 hq (fun x hx => h1 x (by simp [hx])) (fun x hx => h2 x (by simp [hx])))
theorem Zny (hl : laidOutB P = true) {f : Func} {s : ChangeSpec} {apart : Bool} {W W' : World} {args : Array Value} {ds gs : List (DataW H)} {before : List MemPlace} {t : TypeId}
  (hW : DataW.Whole enc P f.params.toList s.vars apart W args.toList ds gs before) (hv : s.vars = []) (hfn : s.fn H ds = { results := [.lit (.bool true)], args := ds })
  (hr : f.resultTypes = #[t]) (ht : P.underlying t = some .bool) (hp : (f.params.toList.all fun t => P.readableRec t && decide (t < P.types.size)) = true)
  (hb : Below W.heap.size W W') : s.post enc P f apart true false false W args (.bool true) W' := by
 have hlt : ∀ p ∈ before, p.block < W.heap.size := fun p hp => hW.lt p hp;have hW0 := hW;obtain ⟨p, q, hA, hV, rfl, hfz, hnd⟩ := hW;rw [hv] at hV;obtain ⟨rfl, rfl⟩ := trodVars_none hV;refine ⟨ds, [], p ++ [], [], p, [], hW0, ?_, ?_, ?_, World.keptBut_mono (fun x hx => ⟨hx, .inr (.inl (by simpa using hx))⟩) (hb.frame (· ∈ p ++ [])), fun h => by cases h⟩
 ·rw [List.append_nil, hfn, hr];exact trodAll_mk1 (shut_bool ht true)
 ·rw [List.append_nil, hfn];exact Zhl hl _ _ _ _ hp hA (fun x hx => hb.same (hlt x (by simp [hx]))) (fun x hx => by simpa using hlt x (by simp [hx]))
 ·rw [List.append_nil, hfn, hv]
  rfl
end
end Go.Proofs.YtpmhelkiicigfaaGreatDoor
