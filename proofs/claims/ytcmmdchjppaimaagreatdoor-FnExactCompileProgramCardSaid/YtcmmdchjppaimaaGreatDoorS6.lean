/- Part of the walks that the claim stands on. -/
import Derived.Test.YtcmmdchjppaimaaGreatDoorS2
import Derived.Deep.DeepCutAuto
import Derived.Test.YtcmmdchjppaimaaGreatDoorS1
import Derived.Test.YtcmmdchjppaimaaGreatDoorS4
import Derived.Test.YtcmmdchjppaimaaGreatDoorS5
import Derived.Test.YtcmmdchjppaimaaGreatDoorS3
import Derived.Test.YtcmmdchjppaimaaGreatDoorChecked
import Derived.ProofKit
import Derived.OpenShut
import Derived.ChangeArms
import Derived.Below
set_option maxRecDepth 1000000
set_option maxHeartbeats 40000000
namespace Go.Proofs.YtcmmdchjppaimaaGreatDoor
open Go.RowKit
section
section
variable {S K : Za6 Zd} {mK : Zd → Int → Zd} {cK sK : Zd → Nat}
theorem Zdd (l : List ByteArray) (v : Value) (F : Nat → Prop) (w : World) (k : Int) (hk : 1 ≤ k) (hk1 : k + (Zh (fun _ => 1) l : Nat) ≤ 1099511627776) (hr : Zah Zbe 1 9 F w l v) :
  Calls Tryz.prog 45 #[v, .int .i64 k] w fun e w' => e = .returned (.int .i64 (k + (Zh (fun _ => 1) l : Nat))) ∧ Zah Zbe 1 9 F w' (Zcd Zf5 (fun _ => 1) l k) v ∧ Zb (fun y => ¬ F y) w w' ∧ Below 0 w w' := by
 have hr0 := hr;obtain ⟨A, cp, rfl, hc, hcm, hel⟩ := hr;have HCM := zh hcm;unfold maxLen at hcm
 by_cases h0 : l.length = 0
 ·obtain rfl : l = [] := List.eq_nil_of_length_eq_zero h0;have HR := zh hr0;clear hel hr0;go_enter Tryz.func45, Tryz.ntmps45;go_wp2_with fail;refine wp_loop_rounds 1 ?_;rw [rounds_succ];go_wp2_with fail;go_ret;exact ⟨by simp [Zh], HR.o, Zb.refl _ _, Below.refl _ _⟩
 clear hr0;obtain ⟨b, o, cur0, tag, rfl, hFb, hb0, hcp, hall⟩ := hel (by omega);have HS0 : Hd (SAt Zbe 1 9 F b o (o + cp * 1) tag w (Zd4 Zf5 (fun _ => 1) l k 0)) := zh (by rw [Zdt]; exact ⟨cur0, hb0, hcp.2, hall⟩);have HO0 := zh hcp.1;have HK1 := zh hk1;clear hel hb0 hcp hall hk1;have HFB := zh hFb;go_enter Tryz.func45, Tryz.ntmps45;go_wp2_with fail
 go_loopw [1, 5] (fun kv i wr => ∃ j : Nat, j ≤ l.length ∧ i = .int .i64 j ∧ kv = .int .i64 (k + (Zh (fun _ => 1) (l.take j) : Nat)) ∧ SAt Zbe 1 9 F b o (o + cp * 1) tag wr (Zd4 Zf5 (fun _ => 1) l k j) ∧ Zb (fun y => ¬ F y) w wr ∧ Below 0 w wr) (fun _ i _ => l.length - (intOf i).toNat)
 case atStart => exact ⟨0, Nat.zero_le _, rfl, by simp [Zh], HS0.o, Zb.refl _ _, Below.refl _ _⟩
 case round =>
  obtain ⟨j, hj, rfl, rfl, hat, hkw, hk0⟩ := hrel;have HAT := zh hat;have HKW := zh hkw;have HK0W := zh hk0;have HLE := zh (Za7 (fun _ => 1) l j);obtain ⟨y, hy⟩ : ∃ y : Int, k + (Zh (fun _ => 1) (l.take j) : Nat) = y := ⟨_, rfl⟩;have hy1 : 1 ≤ y := by omega
  have hy2 : y ≤ 1099511627776 := by have := HK1.o; have := HLE.o; omega
  rw [hy];have HY := zh hy;clear hy hat hkw hk0 HLE
  by_cases hlt : j < l.length
  ·have hlt' : (j : Int) < l.length := by omega
   have HCT := zh (Zbv (fun _ => 1) l j hlt);have HCL := zh (Za7 (fun _ => 1) l (j + 1));obtain ⟨cur, cs, hb, hs, hst⟩ := HAT.o.open_ Zw.is (i := j) (by rw [Z6]; exact hlt);rw [Zgd Zf5 (fun _ => 1) l k j hlt] at hs;have HB := zh hb;have HST := zh (hst (by decide));obtain ⟨rfl, _⟩ := hs;clear hst hb;have HK : Hd (Zb (fun y => y ≠ b ∧ ¬ ((F y ∧ y ≠ b) ∧ tag y = j)) wr wr) := zh (Zb.refl _ _);have HK0 : Hd (Below 0 wr wr) := zh (Below.refl _ _);have HCE := zh (show (fun _ : ByteArray => (1 : Nat)) l[j] = 1 from rfl);have n0_1 : y + 1 + 1 = y + 2 := by omega
   go_wp2_with fail;clear  n0_1;refine (Zbq (y) _ (by omega) (by have := HCE.o; have := HCT.o; have := HCL.o; have := HK1.o; have := HY.o; omega)).mono ?_;rintro e w1 ⟨rfl, hb1⟩;replace HST := zh (HST.o.keep (Below.block hb1 _ HST.o.lt));replace HK := zh (HK.o.trans (Zb.later hb1));replace HK0 := zh (HK0.o.trans (Below.mono hb1 (Nat.zero_le _)));clear hb1;have c0 := HST.o.cell (q := 0) rfl;have f0 := HST.o.frozen (o + j);simp only [Nat.add_zero, Nat.mul_one] at c0;have n1_1 : y + 1 + 1 = y + 2 := by omega
   have n1_2 : y + 2 + 1 = y + 3 := by omega
   replace HST := zh (HST.o.set 0 (by simp) (.string (Zax (y))));simp only [List.set_cons_zero, List.set_cons_succ, Nat.add_zero, Nat.mul_one] at HST;replace HK := zh (HK.o.set (B := b) (fun h => h.1 rfl) (o + j) (.string (Zax (y))));replace HK0 := zh (HK0.o.setCell (p := ⟨b, o + j, none⟩) (Nat.zero_le _) (.string (Zax (y))));go_wp2_with fail
   go_roundw
   case rel =>
    refine ⟨j + 1, by omega, by go_num, by have := HCE.o; have := HCT.o; have := HCL.o; have := HK1.o; have := HY.o; congr 1; omega, ?_, HKW.o.trans (HK.o.mono fun z h => ⟨fun e => h (by rw [e]; exact HFB.o), fun h2 => h h2.1.1⟩), HK0W.o.trans HK0.o⟩;rw [Zdu _ _ _ _ _ hlt, HY.o];exact SAt.put Zw.is HAT.o (i := j) (by rw [Z6]; exact hlt) HB.o (show St _ b (o + j * 1) cur _ _ from by rw [Nat.mul_one]; exact HST.o) (HK.o.mono fun z h => ⟨h.1.2, fun h2 => h.2 h2.2⟩) ⟨rfl, (show (Zax (y)).size ≤ maxLen by have := HCE.o; have := HCT.o; have := HCL.o; have := HK1.o; have := HY.o; have := Zdi (k := y) (by omega); unfold maxLen; omega)⟩
   case measure => simp [intOf]; omega
  ·have hjl : j = l.length := by omega
   go_wp2_with fail;go_ret;subst hjl;have hrow := HAT.o.row HFB.o (c := cp) (by rw [Z6]; exact hc) HCM.o ⟨HO0.o, Nat.le_refl _⟩;rw [Z6] at hrow;refine ⟨Zae ?_, hrow, HKW.o, HK0W.o⟩;have := HY.o;rw [List.take_length] at this;exact this.symm
theorem Zeg (l : List Zam) (v : Value) (F : Nat → Prop) (w : World) (k : Int) (hk : 1 ≤ k) (hk1 : k + (Zh Zl l : Nat) ≤ 1099511627776) (hr : Zah Zaa 3 101 F w l v) :
  Calls Tryz.prog 44 #[v, .int .i64 k] w fun e w' => e = .returned (.int .i64 (k + (Zh Zl l : Nat))) ∧ Zah Zaa 3 101 F w' (Zcd Zbu Zl l k) v ∧ Zb (fun y => ¬ F y) w w' ∧ Below 0 w w' := by
 have hr0 := hr;obtain ⟨A, cp, rfl, hc, hcm, hel⟩ := hr;have HCM := zh hcm;unfold maxLen at hcm
 by_cases h0 : l.length = 0
 ·obtain rfl : l = [] := List.eq_nil_of_length_eq_zero h0;have HR := zh hr0;clear hel hr0;go_enter Tryz.func44, Tryz.ntmps44;go_wp2_with fail;refine wp_loop_rounds 1 ?_;rw [rounds_succ];go_wp2_with fail;go_ret;exact ⟨by simp [Zh], HR.o, Zb.refl _ _, Below.refl _ _⟩
 clear hr0;obtain ⟨b, o, cur0, tag, rfl, hFb, hb0, hcp, hall⟩ := hel (by omega);have HS0 : Hd (SAt Zaa 3 101 F b o (o + cp * 3) tag w (Zd4 Zbu Zl l k 0)) := zh (by rw [Zdt]; exact ⟨cur0, hb0, hcp.2, hall⟩);have HO0 := zh hcp.1;have HK1 := zh hk1;clear hel hb0 hcp hall hk1;have HFB := zh hFb;go_enter Tryz.func44, Tryz.ntmps44;go_wp2_with fail
 go_loopw [1, 5] (fun kv i wr => ∃ j : Nat, j ≤ l.length ∧ i = .int .i64 j ∧ kv = .int .i64 (k + (Zh Zl (l.take j) : Nat)) ∧ SAt Zaa 3 101 F b o (o + cp * 3) tag wr (Zd4 Zbu Zl l k j) ∧ Zb (fun y => ¬ F y) w wr ∧ Below 0 w wr) (fun _ i _ => l.length - (intOf i).toNat)
 case atStart => exact ⟨0, Nat.zero_le _, rfl, by simp [Zh], HS0.o, Zb.refl _ _, Below.refl _ _⟩
 case round =>
  obtain ⟨j, hj, rfl, rfl, hat, hkw, hk0⟩ := hrel;have HAT := zh hat;have HKW := zh hkw;have HK0W := zh hk0;have HLE := zh (Za7 Zl l j);obtain ⟨y, hy⟩ : ∃ y : Int, k + (Zh Zl (l.take j) : Nat) = y := ⟨_, rfl⟩;have hy1 : 1 ≤ y := by omega
  have hy2 : y ≤ 1099511627776 := by have := HK1.o; have := HLE.o; omega
  rw [hy];have HY := zh hy;clear hy hat hkw hk0 HLE
  by_cases hlt : j < l.length
  ·have hlt' : (j : Int) < l.length := by omega
   have HCT := zh (Zbv Zl l j hlt);have HCL := zh (Za7 Zl l (j + 1));obtain ⟨cur, cs, hb, hs, hst⟩ := HAT.o.open_ Zj.is (i := j) (by rw [Z6]; exact hlt);rw [Zgd Zbu Zl l k j hlt] at hs;have HB := zh hb;have HST := zh (hst (by decide));obtain ⟨tg, aE, rfl, aK, aL, aM⟩ := hs;have Rfields := zh aL;clear aK aL aM;clear hst hb;have HK : Hd (Zb (fun y => y ≠ b ∧ ¬ ((F y ∧ y ≠ b) ∧ tag y = j)) wr wr) := zh (Zb.refl _ _);have HK0 : Hd (Below 0 wr wr) := zh (Below.refl _ _);have HCE := zh (show Zl l[j] = 2 + (Zh (fun _ => 1) l[j].fields) from rfl);have n0_1 : y + 1 + 1 = y + 2 := by omega
   go_wp2_with fail;clear  n0_1;refine (Zbq (y) _ (by omega) (by have := HCE.o; have := HCT.o; have := HCL.o; have := HK1.o; have := HY.o; omega)).mono ?_;rintro e w1 ⟨rfl, hb1⟩;replace HST := zh (HST.o.keep (Below.block hb1 _ HST.o.lt));replace Rfields := zh (Rfields.o.keep Zw.is (fun _ h => h) (Zb.later hb1));replace HK := zh (HK.o.trans (Zb.later hb1));replace HK0 := zh (HK0.o.trans (Below.mono hb1 (Nat.zero_le _)));clear hb1;have c0 := HST.o.cell (q := 0) rfl;have f0 := HST.o.frozen (o + j * 3);have c1 := HST.o.cell (q := 1) rfl;simp only [Nat.add_zero] at c0;have n1_1 : y + 1 + 1 = y + 2 := by omega
   have n1_2 : y + 2 + 1 = y + 3 := by omega
   go_wp2_with fail;clear c0 f0 c1 n1_1 n1_2;replace HST := zh (HST.o.set 0 (by simp) (.string (Zax (y))));simp only [List.set_cons_zero, List.set_cons_succ, Nat.add_zero] at HST;replace Rfields := zh (Rfields.o.keep Zw.is (fun _ h => h) ((Zb.refl _ w1).set (B := b) (fun h => h.1.1.2 rfl) (o + j * 3) (.string (Zax (y)))));replace HK := zh (HK.o.set (B := b) (fun h => h.1 rfl) (o + j * 3) (.string (Zax (y))));replace HK0 := zh (HK0.o.setCell (p := ⟨b, o + j * 3, none⟩) (Nat.zero_le _) (.string (Zax (y))));refine (Zdd l[j].fields aE _ _ (y + 1) (by omega) (by have := HCE.o; have := HCT.o; have := HCL.o; have := HK1.o; have := HY.o; omega) Rfields.o).mono ?_;rintro e w2 ⟨rfl, hr2, hk2, hz2⟩;replace HST := zh (HST.o.keep (hk2.same b (fun h => h.1.1.2 rfl) HST.o.lt));replace Rfields := zh hr2;replace HK := zh (HK.o.trans (hk2.mono fun y h h2 => h.2 h2.1));replace HK0 := zh (HK0.o.trans hz2);clear hr2 hk2 hz2;obtain ⟨y2, hy2⟩ : ∃ z : Int, y + 1 + (Zh (fun _ => 1) l[j].fields : Nat) = z := ⟨_, rfl⟩;rw [hy2];have HY2 := zh hy2;have hl2 : 1 ≤ y2 := by omega
   have hu2 : y2 ≤ 1099511627776 := by have := HCE.o; have := HCT.o; have := HCL.o; have := HK1.o; have := HY.o; omega
   clear hy2;have c2 := HST.o.cell (q := 2) rfl;have f2 := HST.o.frozen (o + j * 3 + 2);have n2_1 : y2 + 1 + 1 = y2 + 2 := by omega
   have n2_2 : y2 + 2 + 1 = y2 + 3 := by omega
   replace HST := zh (HST.o.set 2 (by simp) (.int .i64 (y2)));simp only [List.set_cons_zero, List.set_cons_succ] at HST;replace Rfields := zh (Rfields.o.keep Zw.is (fun _ h => h) ((Zb.refl _ w2).set (B := b) (fun h => h.1.1.2 rfl) (o + j * 3 + 2) (.int .i64 (y2))));replace HK := zh (HK.o.set (B := b) (fun h => h.1 rfl) (o + j * 3 + 2) (.int .i64 (y2)));replace HK0 := zh (HK0.o.setCell (p := ⟨b, o + j * 3 + 2, none⟩) (Nat.zero_le _) (.int .i64 (y2)));go_wp2_with fail
   go_roundw
   case rel =>
    refine ⟨j + 1, by omega, by go_num, by have := HCE.o; have := HCT.o; have := HCL.o; have := HK1.o; have := HY.o; have := HY2.o; congr 1; omega, ?_, HKW.o.trans (HK.o.mono fun z h => ⟨fun e => h (by rw [e]; exact HFB.o), fun h2 => h h2.1.1⟩), HK0W.o.trans HK0.o⟩;rw [Zdu _ _ _ _ _ hlt, HY.o];exact SAt.put Zj.is HAT.o (i := j) (by rw [Z6]; exact hlt) HB.o HST.o (HK.o.mono fun z h => ⟨h.1.2, fun h2 => h.2 h2.2⟩) ⟨tg, _, by have eHY2 := HY2.o; subst eHY2; rfl, (show (Zax (y)).size ≤ maxLen by have := HCE.o; have := HCT.o; have := HCL.o; have := HK1.o; have := HY.o; have := HY2.o; have := Zdi (k := y) (by omega); unfold maxLen; omega), (by have eHY2 := HY2.o; subst eHY2; exact Rfields.o), (show Zi ((y + 1 + (Zh (fun _ => 1) l[j].fields : Nat))) by have := HCE.o; have := HCT.o; have := HCL.o; have := HK1.o; have := HY.o; have := HY2.o; unfold Zi; omega)⟩
   case measure => simp [intOf]; omega
  ·have hjl : j = l.length := by omega
   go_wp2_with fail;go_ret;subst hjl;have hrow := HAT.o.row HFB.o (c := cp) (by rw [Z6]; exact hc) HCM.o ⟨HO0.o, Nat.le_refl _⟩;rw [Z6] at hrow;refine ⟨Zae ?_, hrow, HKW.o, HK0W.o⟩;have := HY.o;rw [List.take_length] at this;exact this.symm
def Zip (S : Za6 Zd) (mK : Zd → Int → Zd) (cK : Zd → Nat) : Prop := ∀ (l : List Zd) (v : Value) (F : Nat → Prop) (w : World) (k : Int) (hk : 1 ≤ k) (hk1 : k + (Zh cK l : Nat) ≤ 1099511627776) (hr : Zah S 6 68 F w l v),
 Calls Tryz.prog 88 #[v, .int .i64 k] w fun e w' => e = .returned (.int .i64 (k + (Zh cK l : Nat))) ∧ Zah S 6 68 F w' (Zcd mK cK l k) v ∧ Zb (fun y => ¬ F y) w w' ∧ Below 0 w w'
theorem Zld (hS : Zc2 S K 6) (hK : Zb2 K 6) (hkid : Zip S mK cK) : Zip (Zge S) (Zii mK cK) (Zcv cK) := by
 intro l v F w k hk hk1 hr;have hr0 := hr;obtain ⟨A, cp, rfl, hc, hcm, hel⟩ := hr;have HCM := zh hcm;unfold maxLen at hcm
 by_cases h0 : l.length = 0
 ·obtain rfl : l = [] := List.eq_nil_of_length_eq_zero h0;have HR := zh hr0;clear hel hr0;go_enter Tryz.func88, Tryz.ntmps88;go_wp2_with fail;refine wp_loop_rounds 1 ?_;rw [rounds_succ];go_wp2_with fail;go_ret;exact ⟨by simp [Zh], HR.o, Zb.refl _ _, Below.refl _ _⟩
 clear hr0;obtain ⟨b, o, cur0, tag, rfl, hFb, hb0, hcp, hall⟩ := hel (by omega);have HS0 : Hd (SAt (Zge S) 6 68 F b o (o + cp * 6) tag w (Zd4 (Zii mK cK) (Zcv cK) l k 0)) := zh (by rw [Zdt]; exact ⟨cur0, hb0, hcp.2, hall⟩);have HO0 := zh hcp.1;have HK1 := zh hk1;clear hel hb0 hcp hall hk1;have HFB := zh hFb;go_enter Tryz.func88, Tryz.ntmps88;go_wp2_with fail
 go_loopw [1, 5] (fun kv i wr => ∃ j : Nat, j ≤ l.length ∧ i = .int .i64 j ∧ kv = .int .i64 (k + (Zh (Zcv cK) (l.take j) : Nat)) ∧ SAt (Zge S) 6 68 F b o (o + cp * 6) tag wr (Zd4 (Zii mK cK) (Zcv cK) l k j) ∧ Zb (fun y => ¬ F y) w wr ∧ Below 0 w wr) (fun _ i _ => l.length - (intOf i).toNat)
 case atStart => exact ⟨0, Nat.zero_le _, rfl, by simp [Zh], HS0.o, Zb.refl _ _, Below.refl _ _⟩
 case round =>
  obtain ⟨j, hj, rfl, rfl, hat, hkw, hk0⟩ := hrel;have HAT := zh hat;have HKW := zh hkw;have HK0W := zh hk0;have HLE := zh (Za7 (Zcv cK) l j);obtain ⟨y, hy⟩ : ∃ y : Int, k + (Zh (Zcv cK) (l.take j) : Nat) = y := ⟨_, rfl⟩;have hy1 : 1 ≤ y := by omega
  have hy2 : y ≤ 1099511627776 := by have := HK1.o; have := HLE.o; omega
  rw [hy];have HY := zh hy;clear hy hat hkw hk0 HLE
  by_cases hlt : j < l.length
  ·have hlt' : (j : Int) < l.length := by omega
   have HCT := zh (Zbv (Zcv cK) l j hlt);have HCL := zh (Za7 (Zcv cK) l (j + 1));obtain ⟨cur, cs, hb, hs, hst⟩ := HAT.o.open_ (Zel hS hK).is (i := j) (by rw [Z6]; exact hlt);rw [Zgd (Zii mK cK) (Zcv cK) l k j hlt] at hs;have HB := zh hb;have HST := zh (hst (by decide));obtain ⟨tg, vkids, rfl, aH, hop, aI, aM, aJ, hkids⟩ := hs;have Rkids := zh hkids;clear aH hop aI aM aJ hkids;clear hst hb;have HK : Hd (Zb (fun y => y ≠ b ∧ ¬ ((F y ∧ y ≠ b) ∧ tag y = j)) wr wr) := zh (Zb.refl _ _);have HK0 : Hd (Below 0 wr wr) := zh (Below.refl _ _);have HCE := zh (show (Zcv cK) l[j] = 5 + (Zh cK l[j].kids) from rfl);have c0 := HST.o.cell (q := 0) rfl;have f0 := HST.o.frozen (o + j * 6);have c1 := HST.o.cell (q := 1) rfl;have f1 := HST.o.frozen (o + j * 6 + 1);have c2 := HST.o.cell (q := 2) rfl;have f2 := HST.o.frozen (o + j * 6 + 2);have c3 := HST.o.cell (q := 3) rfl;have f3 := HST.o.frozen (o + j * 6 + 3);simp only [Nat.add_zero] at c0;have n0_1 : y + 1 + 1 = y + 2 := by omega
   have n0_2 : y + 2 + 1 = y + 3 := by omega
   have n0_3 : y + 3 + 1 = y + 4 := by omega
   have n0_4 : y + 4 + 1 = y + 5 := by omega
   have n0_5 : y + 5 + 1 = y + 6 := by omega
   go_wp2_with fail;clear c0 f0 c1 f1 c2 f2 c3 f3 n0_1 n0_2 n0_3 n0_4 n0_5;replace HST := zh ((((HST.o.set 0 (by simp) (.int .i64 (y))).set 1 (by simp) (.int .i64 (y + 1))).set 2 (by simp) (.int .i64 (y + 2))).set 3 (by simp) (.int .i64 (y + 3)));simp only [List.set_cons_zero, List.set_cons_succ, Nat.add_zero] at HST;replace Rkids := zh (Rkids.o.keep hS.is (fun _ h => h) (((((Zb.refl _ wr).set (B := b) (fun h => h.1.1.2 rfl) (o + j * 6) (.int .i64 (y))).set (B := b) (fun h => h.1.1.2 rfl) (o + j * 6 + 1) (.int .i64 (y + 1))).set (B := b) (fun h => h.1.1.2 rfl) (o + j * 6 + 2) (.int .i64 (y + 2))).set (B := b) (fun h => h.1.1.2 rfl) (o + j * 6 + 3) (.int .i64 (y + 3))));replace HK := zh ((((HK.o.set (B := b) (fun h => h.1 rfl) (o + j * 6) (.int .i64 (y))).set (B := b) (fun h => h.1 rfl) (o + j * 6 + 1) (.int .i64 (y + 1))).set (B := b) (fun h => h.1 rfl) (o + j * 6 + 2) (.int .i64 (y + 2))).set (B := b) (fun h => h.1 rfl) (o + j * 6 + 3) (.int .i64 (y + 3)));replace HK0 := zh ((((HK0.o.setCell (p := ⟨b, o + j * 6, none⟩) (Nat.zero_le _) (.int .i64 (y))).setCell (p := ⟨b, o + j * 6 + 1, none⟩) (Nat.zero_le _) (.int .i64 (y + 1))).setCell (p := ⟨b, o + j * 6 + 2, none⟩) (Nat.zero_le _) (.int .i64 (y + 2))).setCell (p := ⟨b, o + j * 6 + 3, none⟩) (Nat.zero_le _) (.int .i64 (y + 3)));refine (Zbq (y + 4) _ (by omega) (by have := HCE.o; have := HCT.o; have := HCL.o; have := HK1.o; have := HY.o; omega)).mono ?_;rintro e w1 ⟨rfl, hb1⟩;replace HST := zh (HST.o.keep (Below.block hb1 _ HST.o.lt))
   replace Rkids := zh (Rkids.o.keep hS.is (fun _ h => h) (Zb.later hb1));replace HK := zh (HK.o.trans (Zb.later hb1));replace HK0 := zh (HK0.o.trans (Below.mono hb1 (Nat.zero_le _)));clear hb1;have c4 := HST.o.cell (q := 4) rfl;have f4 := HST.o.frozen (o + j * 6 + 4);have c5 := HST.o.cell (q := 5) rfl;have n1_1 : y + 1 + 1 = y + 2 := by omega
   have n1_2 : y + 2 + 1 = y + 3 := by omega
   have n1_3 : y + 3 + 1 = y + 4 := by omega
   have n1_4 : y + 4 + 1 = y + 5 := by omega
   have n1_5 : y + 5 + 1 = y + 6 := by omega
   have n1_6 : y + 6 + 1 = y + 7 := by omega
   go_wp2_with fail;clear c4 f4 c5 n1_1 n1_2 n1_3 n1_4 n1_5 n1_6;replace HST := zh (HST.o.set 4 (by simp) (.string (Zax (y + 4))));simp only [List.set_cons_zero, List.set_cons_succ] at HST;replace Rkids := zh (Rkids.o.keep hS.is (fun _ h => h) ((Zb.refl _ w1).set (B := b) (fun h => h.1.1.2 rfl) (o + j * 6 + 4) (.string (Zax (y + 4)))));replace HK := zh (HK.o.set (B := b) (fun h => h.1 rfl) (o + j * 6 + 4) (.string (Zax (y + 4))));replace HK0 := zh (HK0.o.setCell (p := ⟨b, o + j * 6 + 4, none⟩) (Nat.zero_le _) (.string (Zax (y + 4))));refine (hkid l[j].kids vkids _ _ (y + 5) (by omega) (by have := HCE.o; have := HCT.o; have := HCL.o; have := HK1.o; have := HY.o; omega) Rkids.o).mono ?_;rintro e w2 ⟨rfl, hr2, hk2, hz2⟩;replace HST := zh (HST.o.keep (hk2.same b (fun h => h.1.1.2 rfl) HST.o.lt));replace Rkids := zh hr2;replace HK := zh (HK.o.trans (hk2.mono fun y h h2 => h.2 h2.1));replace HK0 := zh (HK0.o.trans hz2);clear hr2 hk2 hz2;obtain ⟨y2, hy2⟩ : ∃ z : Int, y + 5 + (Zh cK l[j].kids : Nat) = z := ⟨_, rfl⟩;rw [hy2];have HY2 := zh hy2;have hl2 : 1 ≤ y2 := by omega
   have hu2 : y2 ≤ 1099511627776 := by have := HCE.o; have := HCT.o; have := HCL.o; have := HK1.o; have := HY.o; omega
   clear hy2;go_wp2_with fail
   go_roundw
   case rel =>
    refine ⟨j + 1, by omega, by go_num, by have := HCE.o; have := HCT.o; have := HCL.o; have := HK1.o; have := HY.o; have := HY2.o; congr 1; omega, ?_, HKW.o.trans (HK.o.mono fun z h => ⟨fun e => h (by rw [e]; exact HFB.o), fun h2 => h h2.1.1⟩), HK0W.o.trans HK0.o⟩;rw [Zdu _ _ _ _ _ hlt, HY.o];exact SAt.put (Zel hS hK).is HAT.o (i := j) (by rw [Z6]; exact hlt) HB.o HST.o (HK.o.mono fun z h => ⟨h.1.2, fun h2 => h.2 h2.2⟩) ⟨tg, _, by have eHY2 := HY2.o; subst eHY2; rfl, (show Zi (y) by have := HCE.o; have := HCT.o; have := HCL.o; have := HK1.o; have := HY.o; have := HY2.o; unfold Zi; omega), (show Zi (y + 1) by have := HCE.o; have := HCT.o; have := HCL.o; have := HK1.o; have := HY.o; have := HY2.o; unfold Zi; omega), (show Zi (y + 2) by have := HCE.o; have := HCT.o; have := HCL.o; have := HK1.o; have := HY.o; have := HY2.o; unfold Zi; omega), (show Zi (y + 3) by have := HCE.o; have := HCT.o; have := HCL.o; have := HK1.o; have := HY.o; have := HY2.o; unfold Zi; omega), (show (Zax (y + 4)).size ≤ maxLen by have := HCE.o; have := HCT.o; have := HCL.o; have := HK1.o; have := HY.o; have := HY2.o; have := Zdi (k := y + 4) (by omega); unfold maxLen; omega), (by have eHY2 := HY2.o; subst eHY2; exact Rkids.o)⟩
   case measure => simp [intOf]; omega
  ·have hjl : j = l.length := by omega
   go_wp2_with fail;go_ret;subst hjl;have hrow := HAT.o.row HFB.o (c := cp) (by rw [Z6]; exact hc) HCM.o ⟨HO0.o, Nat.le_refl _⟩;rw [Z6] at hrow;refine ⟨Zae ?_, hrow, HKW.o, HK0W.o⟩;have := HY.o;rw [List.take_length] at this;exact this.symm
theorem Zhp : ∀ n, Zip (Zm6 n) (mkN n) (Zk1 n)
 | 0 => by
  intro l v F w k hk hk1 hr;have hr0 := hr;obtain ⟨A, cp, rfl, hc, hcm, hel⟩ := hr;unfold maxLen at hcm;have h0 : l.length = 0 := by
   rcases Nat.eq_zero_or_pos l.length with h | h
   ·exact h
   ·obtain ⟨b, o, cur0, tag, rfl, hFb, hb0, hcp, hall⟩ := hel (by omega);obtain ⟨cs, hs, _⟩ := hall 0 h;exact hs.elim
  obtain rfl : l = [] := List.eq_nil_of_length_eq_zero h0;have HR := zh hr0;clear hel hr0 h0;go_enter Tryz.func88, Tryz.ntmps88;go_wp2_with fail;refine wp_loop_rounds 1 ?_;rw [rounds_succ];go_wp2_with fail;go_ret;exact ⟨by simp [Zh], HR.o, Zb.refl _ _, Below.refl _ _⟩
 | n + 1 => Zld (Zbl n) (Zad n) (Zhp n)
theorem Zi5 (hS : Zc2 S K 6) (hK : Zb2 K 6) (hkid : Zip S mK cK) (l : List Zaw) (v : Value) (F : Nat → Prop) (w : World) (k : Int) (hk : 1 ≤ k) (hk1 : k + (Zh (Zat cK) l : Nat) ≤ 1099511627776) (hr : Zah (Zcw S) 9 70 F w l v) :
  Calls Tryz.prog 43 #[v, .int .i64 k] w fun e w' => e = .returned (.int .i64 (k + (Zh (Zat cK) l : Nat))) ∧ Zah (Zcw S) 9 70 F w' (Zcd (Zex mK cK) (Zat cK) l k) v ∧ Zb (fun y => ¬ F y) w w' ∧ Below 0 w w' := by
 have hr0 := hr;obtain ⟨A, cp, rfl, hc, hcm, hel⟩ := hr;have HCM := zh hcm;unfold maxLen at hcm
 by_cases h0 : l.length = 0
 ·obtain rfl : l = [] := List.eq_nil_of_length_eq_zero h0;have HR := zh hr0;clear hel hr0;go_enter Tryz.func43, Tryz.ntmps43;go_wp2_with fail;refine wp_loop_rounds 1 ?_;rw [rounds_succ];go_wp2_with fail;go_ret;exact ⟨by simp [Zh], HR.o, Zb.refl _ _, Below.refl _ _⟩
 clear hr0;obtain ⟨b, o, cur0, tag, rfl, hFb, hb0, hcp, hall⟩ := hel (by omega);have HS0 : Hd (SAt (Zcw S) 9 70 F b o (o + cp * 9) tag w (Zd4 (Zex mK cK) (Zat cK) l k 0)) := zh (by rw [Zdt]; exact ⟨cur0, hb0, hcp.2, hall⟩);have HO0 := zh hcp.1;have HK1 := zh hk1;clear hel hb0 hcp hall hk1;have HFB := zh hFb;go_enter Tryz.func43, Tryz.ntmps43;go_wp2_with fail
 go_loopw [1, 5] (fun kv i wr => ∃ j : Nat, j ≤ l.length ∧ i = .int .i64 j ∧ kv = .int .i64 (k + (Zh (Zat cK) (l.take j) : Nat)) ∧ SAt (Zcw S) 9 70 F b o (o + cp * 9) tag wr (Zd4 (Zex mK cK) (Zat cK) l k j) ∧ Zb (fun y => ¬ F y) w wr ∧ Below 0 w wr) (fun _ i _ => l.length - (intOf i).toNat)
 case atStart => exact ⟨0, Nat.zero_le _, rfl, by simp [Zh], HS0.o, Zb.refl _ _, Below.refl _ _⟩
 case round =>
  obtain ⟨j, hj, rfl, rfl, hat, hkw, hk0⟩ := hrel;have HAT := zh hat;have HKW := zh hkw;have HK0W := zh hk0;have HLE := zh (Za7 (Zat cK) l j);obtain ⟨y, hy⟩ : ∃ y : Int, k + (Zh (Zat cK) (l.take j) : Nat) = y := ⟨_, rfl⟩;have hy1 : 1 ≤ y := by omega
  have hy2 : y ≤ 1099511627776 := by have := HK1.o; have := HLE.o; omega
  rw [hy];have HY := zh hy;clear hy hat hkw hk0 HLE
  by_cases hlt : j < l.length
  ·have hlt' : (j : Int) < l.length := by omega
   have HCT := zh (Zbv (Zat cK) l j hlt);have HCL := zh (Za7 (Zat cK) l (j + 1));obtain ⟨cur, cs, hb, hs, hst⟩ := HAT.o.open_ (Zai hS hK).is (i := j) (by rw [Z6]; exact hlt);rw [Zgd (Zex mK cK) (Zat cK) l k j hlt] at hs;have HB := zh hb;have HST := zh (hst (by decide));obtain ⟨tg, vslots, vbodykids, rfl, aK, hparams, hslots, hbody_kind, hbody_op, hbody_number, hbody_line, hbody_text, hbody_kids⟩ := hs;have Rslots := zh hslots;have Rbody_kids := zh hbody_kids;clear aK hparams hslots hbody_kind hbody_op hbody_number hbody_line hbody_text hbody_kids;clear hst hb;have HK : Hd (Zb (fun y => y ≠ b ∧ ¬ ((F y ∧ y ≠ b) ∧ tag y = j)) wr wr) := zh (Zb.refl _ _);have HK0 : Hd (Below 0 wr wr) := zh (Below.refl _ _);have HCE := zh (show (Zat cK) l[j] = 7 + (Zh (fun _ => 1) l[j].slots + (Zh cK l[j].body.kids)) from rfl);have n0_1 : y + 1 + 1 = y + 2 := by omega
   go_wp2_with fail;clear  n0_1;refine (Zbq (y) _ (by omega) (by have := HCE.o; have := HCT.o; have := HCL.o; have := HK1.o; have := HY.o; omega)).mono ?_;rintro e w1 ⟨rfl, hb1⟩;replace HST := zh (HST.o.keep (Below.block hb1 _ HST.o.lt));replace Rslots := zh (Rslots.o.keep Zw.is (fun _ h => h) (Zb.later hb1));replace Rbody_kids := zh (Rbody_kids.o.keep hS.is (fun _ h => h) (Zb.later hb1));replace HK := zh (HK.o.trans (Zb.later hb1));replace HK0 := zh (HK0.o.trans (Below.mono hb1 (Nat.zero_le _)));clear hb1;have c0 := HST.o.cell (q := 0) rfl;have f0 := HST.o.frozen (o + j * 9);have c1 := HST.o.cell (q := 1) rfl;have f1 := HST.o.frozen (o + j * 9 + 1);have c2 := HST.o.cell (q := 2) rfl;simp only [Nat.add_zero] at c0;have n1_1 : y + 1 + 1 = y + 2 := by omega
   have n1_2 : y + 2 + 1 = y + 3 := by omega
   have n1_3 : y + 3 + 1 = y + 4 := by omega
   go_wp2_with fail;clear c0 f0 c1 f1 c2 n1_1 n1_2 n1_3;replace HST := zh ((HST.o.set 0 (by simp) (.string (Zax (y)))).set 1 (by simp) (.int .i64 (y + 1)));simp only [List.set_cons_zero, List.set_cons_succ, Nat.add_zero] at HST;replace Rslots := zh (Rslots.o.keep Zw.is (fun _ h => h) (((Zb.refl _ w1).set (B := b) (fun h => h.1.1.2 rfl) (o + j * 9) (.string (Zax (y)))).set (B := b) (fun h => h.1.1.2 rfl) (o + j * 9 + 1) (.int .i64 (y + 1))));replace Rbody_kids := zh (Rbody_kids.o.keep hS.is (fun _ h => h) (((Zb.refl _ w1).set (B := b) (fun h => h.1.1.2 rfl) (o + j * 9) (.string (Zax (y)))).set (B := b) (fun h => h.1.1.2 rfl) (o + j * 9 + 1) (.int .i64 (y + 1))));replace HK := zh ((HK.o.set (B := b) (fun h => h.1 rfl) (o + j * 9) (.string (Zax (y)))).set (B := b) (fun h => h.1 rfl) (o + j * 9 + 1) (.int .i64 (y + 1)));replace HK0 := zh ((HK0.o.setCell (p := ⟨b, o + j * 9, none⟩) (Nat.zero_le _) (.string (Zax (y)))).setCell (p := ⟨b, o + j * 9 + 1, none⟩) (Nat.zero_le _) (.int .i64 (y + 1)));refine (Zdd l[j].slots vslots _ _ (y + 2) (by omega) (by have := HCE.o; have := HCT.o; have := HCL.o; have := HK1.o; have := HY.o; omega) Rslots.o).mono ?_;rintro e w2 ⟨rfl, hr2, hk2, hz2⟩;replace HST := zh (HST.o.keep (hk2.same b (fun h => h.1.1.2 rfl) HST.o.lt));replace Rslots := zh hr2;replace Rbody_kids := zh (Rbody_kids.o.keep hS.is (fun _ h => h) (hk2.mono fun y h h2 => absurd (h.2.symm.trans h2.2) (by decide)));replace HK := zh (HK.o.trans (hk2.mono fun y h h2 => h.2 h2.1))
   replace HK0 := zh (HK0.o.trans hz2);clear hr2 hk2 hz2;obtain ⟨y2, hy2⟩ : ∃ z : Int, y + 2 + (Zh (fun _ => 1) l[j].slots : Nat) = z := ⟨_, rfl⟩;rw [hy2];have HY2 := zh hy2;have hl2 : 1 ≤ y2 := by omega
   have hu2 : y2 ≤ 1099511627776 := by have := HCE.o; have := HCT.o; have := HCL.o; have := HK1.o; have := HY.o; omega
   clear hy2;have c3 := HST.o.cell (q := 3) rfl;have f3 := HST.o.frozen (o + j * 9 + 3);have c4 := HST.o.cell (q := 4) rfl;have f4 := HST.o.frozen (o + j * 9 + 4);have c5 := HST.o.cell (q := 5) rfl;have f5 := HST.o.frozen (o + j * 9 + 5);have c6 := HST.o.cell (q := 6) rfl;have f6 := HST.o.frozen (o + j * 9 + 6);have n2_1 : y2 + 1 + 1 = y2 + 2 := by omega
   have n2_2 : y2 + 2 + 1 = y2 + 3 := by omega
   have n2_3 : y2 + 3 + 1 = y2 + 4 := by omega
   have n2_4 : y2 + 4 + 1 = y2 + 5 := by omega
   have n2_5 : y2 + 5 + 1 = y2 + 6 := by omega
   go_wp2_with fail;clear c3 f3 c4 f4 c5 f5 c6 f6 n2_1 n2_2 n2_3 n2_4 n2_5;replace HST := zh ((((HST.o.set 3 (by simp) (.int .i64 (y2))).set 4 (by simp) (.int .i64 (y2 + 1))).set 5 (by simp) (.int .i64 (y2 + 2))).set 6 (by simp) (.int .i64 (y2 + 3)));simp only [List.set_cons_zero, List.set_cons_succ] at HST;replace Rslots := zh (Rslots.o.keep Zw.is (fun _ h => h) (((((Zb.refl _ w2).set (B := b) (fun h => h.1.1.2 rfl) (o + j * 9 + 3) (.int .i64 (y2))).set (B := b) (fun h => h.1.1.2 rfl) (o + j * 9 + 4) (.int .i64 (y2 + 1))).set (B := b) (fun h => h.1.1.2 rfl) (o + j * 9 + 5) (.int .i64 (y2 + 2))).set (B := b) (fun h => h.1.1.2 rfl) (o + j * 9 + 6) (.int .i64 (y2 + 3))));replace Rbody_kids := zh (Rbody_kids.o.keep hS.is (fun _ h => h) (((((Zb.refl _ w2).set (B := b) (fun h => h.1.1.2 rfl) (o + j * 9 + 3) (.int .i64 (y2))).set (B := b) (fun h => h.1.1.2 rfl) (o + j * 9 + 4) (.int .i64 (y2 + 1))).set (B := b) (fun h => h.1.1.2 rfl) (o + j * 9 + 5) (.int .i64 (y2 + 2))).set (B := b) (fun h => h.1.1.2 rfl) (o + j * 9 + 6) (.int .i64 (y2 + 3))));replace HK := zh ((((HK.o.set (B := b) (fun h => h.1 rfl) (o + j * 9 + 3) (.int .i64 (y2))).set (B := b) (fun h => h.1 rfl) (o + j * 9 + 4) (.int .i64 (y2 + 1))).set (B := b) (fun h => h.1 rfl) (o + j * 9 + 5) (.int .i64 (y2 + 2))).set (B := b) (fun h => h.1 rfl) (o + j * 9 + 6) (.int .i64 (y2 + 3)));replace HK0 := zh ((((HK0.o.setCell (p := ⟨b, o + j * 9 + 3, none⟩) (Nat.zero_le _) (.int .i64 (y2))).setCell (p := ⟨b, o + j * 9 + 4, none⟩) (Nat.zero_le _) (.int .i64 (y2 + 1))).setCell (p := ⟨b, o + j * 9 + 5, none⟩) (Nat.zero_le _) (.int .i64 (y2 + 2))).setCell (p := ⟨b, o + j * 9 + 6, none⟩) (Nat.zero_le _) (.int .i64 (y2 + 3)))
   refine (Zbq (y2 + 4) _ (by omega) (by have := HCE.o; have := HCT.o; have := HCL.o; have := HK1.o; have := HY.o; have := HY2.o; omega)).mono ?_;rintro e w3 ⟨rfl, hb3⟩;replace HST := zh (HST.o.keep (Below.block hb3 _ HST.o.lt));replace Rslots := zh (Rslots.o.keep Zw.is (fun _ h => h) (Zb.later hb3));replace Rbody_kids := zh (Rbody_kids.o.keep hS.is (fun _ h => h) (Zb.later hb3));replace HK := zh (HK.o.trans (Zb.later hb3));replace HK0 := zh (HK0.o.trans (Below.mono hb3 (Nat.zero_le _)));clear hb3;have c7 := HST.o.cell (q := 7) rfl;have f7 := HST.o.frozen (o + j * 9 + 7);have c8 := HST.o.cell (q := 8) rfl;have n3_1 : y2 + 1 + 1 = y2 + 2 := by omega
   have n3_2 : y2 + 2 + 1 = y2 + 3 := by omega
   have n3_3 : y2 + 3 + 1 = y2 + 4 := by omega
   have n3_4 : y2 + 4 + 1 = y2 + 5 := by omega
   have n3_5 : y2 + 5 + 1 = y2 + 6 := by omega
   have n3_6 : y2 + 6 + 1 = y2 + 7 := by omega
   go_wp2_with fail;clear c7 f7 c8 n3_1 n3_2 n3_3 n3_4 n3_5 n3_6;replace HST := zh (HST.o.set 7 (by simp) (.string (Zax (y2 + 4))));simp only [List.set_cons_zero, List.set_cons_succ] at HST;replace Rslots := zh (Rslots.o.keep Zw.is (fun _ h => h) ((Zb.refl _ w3).set (B := b) (fun h => h.1.1.2 rfl) (o + j * 9 + 7) (.string (Zax (y2 + 4)))));replace Rbody_kids := zh (Rbody_kids.o.keep hS.is (fun _ h => h) ((Zb.refl _ w3).set (B := b) (fun h => h.1.1.2 rfl) (o + j * 9 + 7) (.string (Zax (y2 + 4)))));replace HK := zh (HK.o.set (B := b) (fun h => h.1 rfl) (o + j * 9 + 7) (.string (Zax (y2 + 4))));replace HK0 := zh (HK0.o.setCell (p := ⟨b, o + j * 9 + 7, none⟩) (Nat.zero_le _) (.string (Zax (y2 + 4))));refine (hkid l[j].body.kids vbodykids _ _ (y2 + 5) (by omega) (by have := HCE.o; have := HCT.o; have := HCL.o; have := HK1.o; have := HY.o; have := HY2.o; omega) Rbody_kids.o).mono ?_;rintro e w4 ⟨rfl, hr4, hk4, hz4⟩;replace HST := zh (HST.o.keep (hk4.same b (fun h => h.1.1.2 rfl) HST.o.lt));replace Rbody_kids := zh hr4;replace Rslots := zh (Rslots.o.keep Zw.is (fun _ h => h) (hk4.mono fun y h h2 => absurd (h.2.symm.trans h2.2) (by decide)));replace HK := zh (HK.o.trans (hk4.mono fun y h h2 => h.2 h2.1));replace HK0 := zh (HK0.o.trans hz4);clear hr4 hk4 hz4;obtain ⟨y4, hy4⟩ : ∃ z : Int, y2 + 5 + (Zh cK l[j].body.kids : Nat) = z := ⟨_, rfl⟩;rw [hy4];have HY4 := zh hy4;have hl4 : 1 ≤ y4 := by omega
   have hu4 : y4 ≤ 1099511627776 := by have := HCE.o; have := HCT.o; have := HCL.o; have := HK1.o; have := HY.o; have := HY2.o; omega
   clear hy4;go_wp2_with fail
   go_roundw
   case rel =>
    refine ⟨j + 1, by omega, by go_num, by have := HCE.o; have := HCT.o; have := HCL.o; have := HK1.o; have := HY.o; have := HY2.o; have := HY4.o; congr 1; omega, ?_, HKW.o.trans (HK.o.mono fun z h => ⟨fun e => h (by rw [e]; exact HFB.o), fun h2 => h h2.1.1⟩), HK0W.o.trans HK0.o⟩;rw [Zdu _ _ _ _ _ hlt, HY.o];exact SAt.put (Zai hS hK).is HAT.o (i := j) (by rw [Z6]; exact hlt) HB.o HST.o (HK.o.mono fun z h => ⟨h.1.2, fun h2 => h.2 h2.2⟩) ⟨tg, _, _, by have eHY2 := HY2.o; subst eHY2; have eHY4 := HY4.o; subst eHY4; rfl, (show (Zax (y)).size ≤ maxLen by have := HCE.o; have := HCT.o; have := HCL.o; have := HK1.o; have := HY.o; have := HY2.o; have := HY4.o; have := Zdi (k := y) (by omega); unfold maxLen; omega), (show Zi (y + 1) by have := HCE.o; have := HCT.o; have := HCL.o; have := HK1.o; have := HY.o; have := HY2.o; have := HY4.o; unfold Zi; omega), (by have eHY2 := HY2.o; subst eHY2; have eHY4 := HY4.o; subst eHY4; exact Rslots.o), (show Zi ((y + 2 + (Zh (fun _ => 1) l[j].slots : Nat))) by have := HCE.o; have := HCT.o; have := HCL.o; have := HK1.o; have := HY.o; have := HY2.o; have := HY4.o; unfold Zi; omega), (show Zi ((y + 2 + (Zh (fun _ => 1) l[j].slots : Nat)) + 1) by have := HCE.o; have := HCT.o; have := HCL.o; have := HK1.o; have := HY.o; have := HY2.o; have := HY4.o; unfold Zi; omega), (show Zi ((y + 2 + (Zh (fun _ => 1) l[j].slots : Nat)) + 2) by have := HCE.o; have := HCT.o; have := HCL.o; have := HK1.o; have := HY.o; have := HY2.o; have := HY4.o; unfold Zi; omega), (show Zi ((y + 2 + (Zh (fun _ => 1) l[j].slots : Nat)) + 3) by have := HCE.o; have := HCT.o; have := HCL.o; have := HK1.o; have := HY.o; have := HY2.o; have := HY4.o; unfold Zi; omega), (show (Zax ((y + 2 + (Zh (fun _ => 1) l[j].slots : Nat)) + 4)).size ≤ maxLen by have := HCE.o; have := HCT.o; have := HCL.o; have := HK1.o; have := HY.o; have := HY2.o; have := HY4.o; have := Zdi (k := (y + 2 + (Zh (fun _ => 1) l[j].slots : Nat)) + 4) (by omega); unfold maxLen; omega), (by have eHY2 := HY2.o; subst eHY2; have eHY4 := HY4.o; subst eHY4; exact Rbody_kids.o)⟩
   case measure => simp [intOf]; omega
  ·have hjl : j = l.length := by omega
   go_wp2_with fail;go_ret;subst hjl;have hrow := HAT.o.row HFB.o (c := cp) (by rw [Z6]; exact hc) HCM.o ⟨HO0.o, Nat.le_refl _⟩;rw [Z6] at hrow;refine ⟨Zae ?_, hrow, HKW.o, HK0W.o⟩;have := HY.o;rw [List.take_length] at this;exact this.symm
theorem Zj0 (hS : Zc2 S K 6) (hK : Zb2 K 6) (hkid : Zip S mK cK) (r : Zu) (cs : List Value) (F : Nat → Prop) (w : World) (k : Int) (hk : 1 ≤ k) (hk1 : k + ((Zcr cK) r : Nat) ≤ 1099511627776) (h : (Zfh S) F w r cs) :
  Calls Tryz.prog 11 #[.agg cs.toArray, .int .i64 k] w fun e w' => e = .returned (.int .i64 (k + ((Zcr cK) r : Nat))) ∧ (Zfh S) F w' ((Znt mK cK) r k) cs ∧ Zb (fun y => ¬ F y) w w' ∧ Below 0 w w' := by
 obtain ⟨tag, vroutines, aC, aD, rfl, hroutines, aF, aG, hmain⟩ := (Zbb hS hK).trim h;clear h;have HCE := zh (show (Zcr cK) r = Zh (Zat cK) r.routines + Zh Zl r.aA + Zh (fun _ => 1) r.globals from rfl);have HK1 := zh hk1;clear hk1;have HP := zh (heap_alloc_new w (.cells #[vroutines, aC, aD, .int .i64 r.main] 37));have HK := zh (Zb.later (F := fun y => ¬ (F y ∧ y < w.heap.size)) ((Za.refl w).alloc (.cells #[vroutines, aC, aD, .int .i64 r.main] 37)));have HK0 := zh ((Below.refl 0 w).alloc (Nat.zero_le _) (.cells #[vroutines, aC, aD, .int .i64 r.main] 37));have Rroutines := zh (hroutines.later (Zai hS hK).is ((Za.refl w).alloc (.cells #[vroutines, aC, aD, .int .i64 r.main] 37)));clear hroutines;have Rrecords := zh (aF.later Zj.is ((Za.refl w).alloc (.cells #[vroutines, aC, aD, .int .i64 r.main] 37)));clear aF;have Rglobals := zh (aG.later Zw.is ((Za.refl w).alloc (.cells #[vroutines, aC, aD, .int .i64 r.main] 37)));clear aG;have Hmain := zh hmain;clear hmain;go_enter Tryz.func11, Tryz.ntmps11;go_wp2_with fail;refine (Zi5 hS hK hkid r.routines vroutines _ _ k (by omega) (by have := HCE.o; have := HK1.o; omega) Rroutines.o).mono ?_;rintro e w0 ⟨rfl, hr0, hk0, hz0⟩;replace HP := zh ((hk0.same _ (fun h => Nat.lt_irrefl _ h.1.2) (Zc HP.o)).trans HP.o)
 replace Rroutines := zh hr0;replace Rrecords := zh (Rrecords.o.keep Zj.is (fun _ h => h) (hk0.mono fun y h h2 => absurd (h.2.symm.trans h2.2) (by decide)));replace Rglobals := zh (Rglobals.o.keep Zw.is (fun _ h => h) (hk0.mono fun y h h2 => absurd (h.2.symm.trans h2.2) (by decide)));replace HK := zh (HK.o.trans (hk0.mono fun y h h2 => h h2.1));replace HK0 := zh (HK0.o.trans hz0);clear hr0 hk0 hz0;obtain ⟨y0, hy0⟩ : ∃ z : Int, k + (Zh (Zat cK) r.routines : Nat) = z := ⟨_, rfl⟩;rw [hy0];have HY0 := zh hy0;have hl0 : 1 ≤ y0 := by omega
 have hu0 : y0 ≤ 1099511627776 := by have := HCE.o; have := HK1.o; omega
 clear hy0;have p1 := cq HP.o 1;simp only [nD, nE, nF] at p1;go_wp2_with fail;refine (Zeg r.aA aC _ _ y0 (by omega) (by have := HCE.o; have := HK1.o; have := HY0.o; omega) Rrecords.o).mono ?_;rintro e w1 ⟨rfl, hr1, hk1, hz1⟩;clear p1;replace HP := zh ((hk1.same _ (fun h => Nat.lt_irrefl _ h.1.2) (Zc HP.o)).trans HP.o);replace Rrecords := zh hr1;replace Rroutines := zh (Rroutines.o.keep (Zai hS hK).is (fun _ h => h) (hk1.mono fun y h h2 => absurd (h.2.symm.trans h2.2) (by decide)));replace Rglobals := zh (Rglobals.o.keep Zw.is (fun _ h => h) (hk1.mono fun y h h2 => absurd (h.2.symm.trans h2.2) (by decide)));replace HK := zh (HK.o.trans (hk1.mono fun y h h2 => h h2.1));replace HK0 := zh (HK0.o.trans hz1);clear hr1 hk1 hz1;obtain ⟨y1, hy1⟩ : ∃ z : Int, y0 + (Zh Zl r.aA : Nat) = z := ⟨_, rfl⟩;rw [hy1];have HY1 := zh hy1;have hl1 : 1 ≤ y1 := by omega
 have hu1 : y1 ≤ 1099511627776 := by have := HCE.o; have := HK1.o; have := HY0.o; omega
 clear hy1;have p2 := cq HP.o 2;simp only [nD, nE, nF] at p2;go_wp2_with fail;refine (Zdd r.globals aD _ _ y1 (by omega) (by have := HCE.o; have := HK1.o; have := HY0.o; have := HY1.o; omega) Rglobals.o).mono ?_;rintro e w2 ⟨rfl, hr2, hk2, hz2⟩;clear p2;replace HP := zh ((hk2.same _ (fun h => Nat.lt_irrefl _ h.1.2) (Zc HP.o)).trans HP.o);replace Rglobals := zh hr2;replace Rroutines := zh (Rroutines.o.keep (Zai hS hK).is (fun _ h => h) (hk2.mono fun y h h2 => absurd (h.2.symm.trans h2.2) (by decide)));replace Rrecords := zh (Rrecords.o.keep Zj.is (fun _ h => h) (hk2.mono fun y h h2 => absurd (h.2.symm.trans h2.2) (by decide)));replace HK := zh (HK.o.trans (hk2.mono fun y h h2 => h h2.1));replace HK0 := zh (HK0.o.trans hz2);clear hr2 hk2 hz2;obtain ⟨y2, hy2⟩ : ∃ z : Int, y1 + (Zh (fun _ => 1) r.globals : Nat) = z := ⟨_, rfl⟩;rw [hy2];have HY2 := zh hy2;have hl2 : 1 ≤ y2 := by omega
 have hu2 : y2 ≤ 1099511627776 := by have := HCE.o; have := HK1.o; have := HY0.o; have := HY1.o; omega
 clear hy2;go_wp2_with fail;go_ret;refine ⟨Zae (by have := HCE.o; have := HK1.o; have := HY0.o; have := HY1.o; have := HY2.o; omega), ?_, HK.o.mono fun y h h2 => h h2.1, HK0.o⟩
 ·have eHY0 := HY0.o; subst eHY0;have eHY1 := HY1.o; subst eHY1;exact ⟨tag, _, _, _, rfl, Rroutines.o.keep (Zai hS hK).is (fun b hb => ⟨hb.1.1, hb.2⟩) (Zb.refl _ _), Rrecords.o.keep Zj.is (fun b hb => ⟨hb.1.1, hb.2⟩) (Zb.refl _ _), Rglobals.o.keep Zw.is (fun b hb => ⟨hb.1.1, hb.2⟩) (Zb.refl _ _), Hmain.o⟩
theorem Zg5 (l : List Zar) (v : Value) (F : Nat → Prop) (w : World) (k : Int) (hk : 1 ≤ k) (hk1 : k + (Zh Zn l : Nat) ≤ 1099511627776) (hr : Zah Zaj 4 72 F w l v) :
  Calls Tryz.prog 46 #[v, .int .i64 k] w fun e w' => e = .returned (.int .i64 (k + (Zh Zn l : Nat))) ∧ Zah Zaj 4 72 F w' (Zcd Zbx Zn l k) v ∧ Zb (fun y => ¬ F y) w w' ∧ Below 0 w w' := by
 have hr0 := hr;obtain ⟨A, cp, rfl, hc, hcm, hel⟩ := hr;have HCM := zh hcm;unfold maxLen at hcm
 by_cases h0 : l.length = 0
 ·obtain rfl : l = [] := List.eq_nil_of_length_eq_zero h0;have HR := zh hr0;clear hel hr0;go_enter Tryz.func46, Tryz.ntmps46;go_wp2_with fail;refine wp_loop_rounds 1 ?_;rw [rounds_succ];go_wp2_with fail;go_ret;exact ⟨by simp [Zh], HR.o, Zb.refl _ _, Below.refl _ _⟩
 clear hr0;obtain ⟨b, o, cur0, tag, rfl, hFb, hb0, hcp, hall⟩ := hel (by omega);have HS0 : Hd (SAt Zaj 4 72 F b o (o + cp * 4) tag w (Zd4 Zbx Zn l k 0)) := zh (by rw [Zdt]; exact ⟨cur0, hb0, hcp.2, hall⟩);have HO0 := zh hcp.1;have HK1 := zh hk1;clear hel hb0 hcp hall hk1;have HFB := zh hFb;go_enter Tryz.func46, Tryz.ntmps46;go_wp2_with fail
 go_loopw [1, 5] (fun kv i wr => ∃ j : Nat, j ≤ l.length ∧ i = .int .i64 j ∧ kv = .int .i64 (k + (Zh Zn (l.take j) : Nat)) ∧ SAt Zaj 4 72 F b o (o + cp * 4) tag wr (Zd4 Zbx Zn l k j) ∧ Zb (fun y => ¬ F y) w wr ∧ Below 0 w wr) (fun _ i _ => l.length - (intOf i).toNat)
 case atStart => exact ⟨0, Nat.zero_le _, rfl, by simp [Zh], HS0.o, Zb.refl _ _, Below.refl _ _⟩
 case round =>
  obtain ⟨j, hj, rfl, rfl, hat, hkw, hk0⟩ := hrel;have HAT := zh hat;have HKW := zh hkw;have HK0W := zh hk0;have HLE := zh (Za7 Zn l j);obtain ⟨y, hy⟩ : ∃ y : Int, k + (Zh Zn (l.take j) : Nat) = y := ⟨_, rfl⟩;have hy1 : 1 ≤ y := by omega
  have hy2 : y ≤ 1099511627776 := by have := HK1.o; have := HLE.o; omega
  rw [hy];have HY := zh hy;clear hy hat hkw hk0 HLE
  by_cases hlt : j < l.length
  ·have hlt' : (j : Int) < l.length := by omega
   have HCT := zh (Zbv Zn l j hlt);have HCL := zh (Za7 Zn l (j + 1));obtain ⟨cur, cs, hb, hs, hst⟩ := HAT.o.open_ Zac.is (i := j) (by rw [Z6]; exact hlt);rw [Zgd Zbx Zn l k j hlt] at hs;have HB := zh hb;have HST := zh (hst (by decide));obtain ⟨rfl, aK, hparams, hslots, hentry⟩ := hs;clear aK hparams hslots hentry;clear hst hb;have HK : Hd (Zb (fun y => y ≠ b ∧ ¬ ((F y ∧ y ≠ b) ∧ tag y = j)) wr wr) := zh (Zb.refl _ _);have HK0 : Hd (Below 0 wr wr) := zh (Below.refl _ _);have HCE := zh (show Zn l[j] = 4 from rfl);have n0_1 : y + 1 + 1 = y + 2 := by omega
   go_wp2_with fail;clear  n0_1;refine (Zbq (y) _ (by omega) (by have := HCE.o; have := HCT.o; have := HCL.o; have := HK1.o; have := HY.o; omega)).mono ?_;rintro e w1 ⟨rfl, hb1⟩;replace HST := zh (HST.o.keep (Below.block hb1 _ HST.o.lt));replace HK := zh (HK.o.trans (Zb.later hb1));replace HK0 := zh (HK0.o.trans (Below.mono hb1 (Nat.zero_le _)));clear hb1;have c0 := HST.o.cell (q := 0) rfl;have f0 := HST.o.frozen (o + j * 4);have c1 := HST.o.cell (q := 1) rfl;have f1 := HST.o.frozen (o + j * 4 + 1);have c2 := HST.o.cell (q := 2) rfl;have f2 := HST.o.frozen (o + j * 4 + 2);have c3 := HST.o.cell (q := 3) rfl;have f3 := HST.o.frozen (o + j * 4 + 3);simp only [Nat.add_zero] at c0;have n1_1 : y + 1 + 1 = y + 2 := by omega
   have n1_2 : y + 2 + 1 = y + 3 := by omega
   have n1_3 : y + 3 + 1 = y + 4 := by omega
   have n1_4 : y + 4 + 1 = y + 5 := by omega
   have n1_5 : y + 5 + 1 = y + 6 := by omega
   replace HST := zh ((((HST.o.set 0 (by simp) (.string (Zax (y)))).set 1 (by simp) (.int .i64 (y + 1))).set 2 (by simp) (.int .i64 (y + 2))).set 3 (by simp) (.int .i64 (y + 3)));simp only [List.set_cons_zero, List.set_cons_succ, Nat.add_zero] at HST;replace HK := zh ((((HK.o.set (B := b) (fun h => h.1 rfl) (o + j * 4) (.string (Zax (y)))).set (B := b) (fun h => h.1 rfl) (o + j * 4 + 1) (.int .i64 (y + 1))).set (B := b) (fun h => h.1 rfl) (o + j * 4 + 2) (.int .i64 (y + 2))).set (B := b) (fun h => h.1 rfl) (o + j * 4 + 3) (.int .i64 (y + 3)));replace HK0 := zh ((((HK0.o.setCell (p := ⟨b, o + j * 4, none⟩) (Nat.zero_le _) (.string (Zax (y)))).setCell (p := ⟨b, o + j * 4 + 1, none⟩) (Nat.zero_le _) (.int .i64 (y + 1))).setCell (p := ⟨b, o + j * 4 + 2, none⟩) (Nat.zero_le _) (.int .i64 (y + 2))).setCell (p := ⟨b, o + j * 4 + 3, none⟩) (Nat.zero_le _) (.int .i64 (y + 3)));go_wp2_with fail
   go_roundw
   case rel =>
    refine ⟨j + 1, by omega, by go_num, by have := HCE.o; have := HCT.o; have := HCL.o; have := HK1.o; have := HY.o; congr 1; omega, ?_, HKW.o.trans (HK.o.mono fun z h => ⟨fun e => h (by rw [e]; exact HFB.o), fun h2 => h h2.1.1⟩), HK0W.o.trans HK0.o⟩;rw [Zdu _ _ _ _ _ hlt, HY.o];exact SAt.put Zac.is HAT.o (i := j) (by rw [Z6]; exact hlt) HB.o HST.o (HK.o.mono fun z h => ⟨h.1.2, fun h2 => h.2 h2.2⟩) ⟨rfl, (show (Zax (y)).size ≤ maxLen by have := HCE.o; have := HCT.o; have := HCL.o; have := HK1.o; have := HY.o; have := Zdi (k := y) (by omega); unfold maxLen; omega), (show Zi (y + 1) by have := HCE.o; have := HCT.o; have := HCL.o; have := HK1.o; have := HY.o; unfold Zi; omega), (show Zi (y + 2) by have := HCE.o; have := HCT.o; have := HCL.o; have := HK1.o; have := HY.o; unfold Zi; omega), (show Zi (y + 3) by have := HCE.o; have := HCT.o; have := HCL.o; have := HK1.o; have := HY.o; unfold Zi; omega)⟩
   case measure => simp [intOf]; omega
  ·have hjl : j = l.length := by omega
   go_wp2_with fail;go_ret;subst hjl;have hrow := HAT.o.row HFB.o (c := cp) (by rw [Z6]; exact hc) HCM.o ⟨HO0.o, Nat.le_refl _⟩;rw [Z6] at hrow;refine ⟨Zae ?_, hrow, HKW.o, HK0W.o⟩;have := HY.o;rw [List.take_length] at this;exact this.symm
theorem Zle (l : List Ze) (v : Value) (F : Nat → Prop) (w : World) (k : Int) (hk : 1 ≤ k) (hk1 : k + (Zh Zal l : Nat) ≤ 1099511627776) (hr : Zah Zbi 5 134 F w l v) :
  Calls Tryz.prog 47 #[v, .int .i64 k] w fun e w' => e = .returned (.int .i64 (k + (Zh Zal l : Nat))) ∧ Zah Zbi 5 134 F w' (Zcd Zd8 Zal l k) v ∧ Zb (fun y => ¬ F y) w w' ∧ Below 0 w w' := by
 have hr0 := hr;obtain ⟨A, cp, rfl, hc, hcm, hel⟩ := hr;have HCM := zh hcm;unfold maxLen at hcm
 by_cases h0 : l.length = 0
 ·obtain rfl : l = [] := List.eq_nil_of_length_eq_zero h0;have HR := zh hr0;clear hel hr0;go_enter Tryz.func47, Tryz.ntmps47;go_wp2_with fail;refine wp_loop_rounds 1 ?_;rw [rounds_succ];go_wp2_with fail;go_ret;exact ⟨by simp [Zh], HR.o, Zb.refl _ _, Below.refl _ _⟩
 clear hr0;obtain ⟨b, o, cur0, tag, rfl, hFb, hb0, hcp, hall⟩ := hel (by omega);have HS0 : Hd (SAt Zbi 5 134 F b o (o + cp * 5) tag w (Zd4 Zd8 Zal l k 0)) := zh (by rw [Zdt]; exact ⟨cur0, hb0, hcp.2, hall⟩);have HO0 := zh hcp.1;have HK1 := zh hk1;clear hel hb0 hcp hall hk1;have HFB := zh hFb;go_enter Tryz.func47, Tryz.ntmps47;go_wp2_with fail
 go_loopw [1, 5] (fun kv i wr => ∃ j : Nat, j ≤ l.length ∧ i = .int .i64 j ∧ kv = .int .i64 (k + (Zh Zal (l.take j) : Nat)) ∧ SAt Zbi 5 134 F b o (o + cp * 5) tag wr (Zd4 Zd8 Zal l k j) ∧ Zb (fun y => ¬ F y) w wr ∧ Below 0 w wr) (fun _ i _ => l.length - (intOf i).toNat)
 case atStart => exact ⟨0, Nat.zero_le _, rfl, by simp [Zh], HS0.o, Zb.refl _ _, Below.refl _ _⟩
 case round =>
  obtain ⟨j, hj, rfl, rfl, hat, hkw, hk0⟩ := hrel;have HAT := zh hat;have HKW := zh hkw;have HK0W := zh hk0;have HLE := zh (Za7 Zal l j);obtain ⟨y, hy⟩ : ∃ y : Int, k + (Zh Zal (l.take j) : Nat) = y := ⟨_, rfl⟩;have hy1 : 1 ≤ y := by omega
  have hy2 : y ≤ 1099511627776 := by have := HK1.o; have := HLE.o; omega
  rw [hy];have HY := zh hy;clear hy hat hkw hk0 HLE
  by_cases hlt : j < l.length
  ·have hlt' : (j : Int) < l.length := by omega
   have HCT := zh (Zbv Zal l j hlt);have HCL := zh (Za7 Zal l (j + 1));obtain ⟨cur, cs, hb, hs, hst⟩ := HAT.o.open_ Z9.is (i := j) (by rw [Z6]; exact hlt);rw [Zgd Zd8 Zal l k j hlt] at hs;have HB := zh hb;have HST := zh (hst (by decide));obtain ⟨rfl, hop, ha, hb, aM, aJ⟩ := hs;clear hop ha hb aM aJ;clear hst hb;have HK : Hd (Zb (fun y => y ≠ b ∧ ¬ ((F y ∧ y ≠ b) ∧ tag y = j)) wr wr) := zh (Zb.refl _ _);have HK0 : Hd (Below 0 wr wr) := zh (Below.refl _ _);have HCE := zh (show Zal l[j] = 5 from rfl);have c0 := HST.o.cell (q := 0) rfl;have f0 := HST.o.frozen (o + j * 5);have c1 := HST.o.cell (q := 1) rfl;have f1 := HST.o.frozen (o + j * 5 + 1);have c2 := HST.o.cell (q := 2) rfl;have f2 := HST.o.frozen (o + j * 5 + 2);have c3 := HST.o.cell (q := 3) rfl;have f3 := HST.o.frozen (o + j * 5 + 3);simp only [Nat.add_zero] at c0;have n0_1 : y + 1 + 1 = y + 2 := by omega
   have n0_2 : y + 2 + 1 = y + 3 := by omega
   have n0_3 : y + 3 + 1 = y + 4 := by omega
   have n0_4 : y + 4 + 1 = y + 5 := by omega
   have n0_5 : y + 5 + 1 = y + 6 := by omega
   go_wp2_with fail;clear c0 f0 c1 f1 c2 f2 c3 f3 n0_1 n0_2 n0_3 n0_4 n0_5;replace HST := zh ((((HST.o.set 0 (by simp) (.int .i64 (y))).set 1 (by simp) (.int .i64 (y + 1))).set 2 (by simp) (.int .i64 (y + 2))).set 3 (by simp) (.int .i64 (y + 3)));simp only [List.set_cons_zero, List.set_cons_succ, Nat.add_zero] at HST;replace HK := zh ((((HK.o.set (B := b) (fun h => h.1 rfl) (o + j * 5) (.int .i64 (y))).set (B := b) (fun h => h.1 rfl) (o + j * 5 + 1) (.int .i64 (y + 1))).set (B := b) (fun h => h.1 rfl) (o + j * 5 + 2) (.int .i64 (y + 2))).set (B := b) (fun h => h.1 rfl) (o + j * 5 + 3) (.int .i64 (y + 3)));replace HK0 := zh ((((HK0.o.setCell (p := ⟨b, o + j * 5, none⟩) (Nat.zero_le _) (.int .i64 (y))).setCell (p := ⟨b, o + j * 5 + 1, none⟩) (Nat.zero_le _) (.int .i64 (y + 1))).setCell (p := ⟨b, o + j * 5 + 2, none⟩) (Nat.zero_le _) (.int .i64 (y + 2))).setCell (p := ⟨b, o + j * 5 + 3, none⟩) (Nat.zero_le _) (.int .i64 (y + 3)));refine (Zbq (y + 4) _ (by omega) (by have := HCE.o; have := HCT.o; have := HCL.o; have := HK1.o; have := HY.o; omega)).mono ?_;rintro e w1 ⟨rfl, hb1⟩;replace HST := zh (HST.o.keep (Below.block hb1 _ HST.o.lt));replace HK := zh (HK.o.trans (Zb.later hb1));replace HK0 := zh (HK0.o.trans (Below.mono hb1 (Nat.zero_le _)));clear hb1;have c4 := HST.o.cell (q := 4) rfl;have f4 := HST.o.frozen (o + j * 5 + 4);have n1_1 : y + 1 + 1 = y + 2 := by omega
   have n1_2 : y + 2 + 1 = y + 3 := by omega
   have n1_3 : y + 3 + 1 = y + 4 := by omega
   have n1_4 : y + 4 + 1 = y + 5 := by omega
   have n1_5 : y + 5 + 1 = y + 6 := by omega
   have n1_6 : y + 6 + 1 = y + 7 := by omega
   replace HST := zh (HST.o.set 4 (by simp) (.string (Zax (y + 4))));simp only [List.set_cons_zero, List.set_cons_succ] at HST;replace HK := zh (HK.o.set (B := b) (fun h => h.1 rfl) (o + j * 5 + 4) (.string (Zax (y + 4))));replace HK0 := zh (HK0.o.setCell (p := ⟨b, o + j * 5 + 4, none⟩) (Nat.zero_le _) (.string (Zax (y + 4))));go_wp2_with fail
   go_roundw
   case rel =>
    refine ⟨j + 1, by omega, by go_num, by have := HCE.o; have := HCT.o; have := HCL.o; have := HK1.o; have := HY.o; congr 1; omega, ?_, HKW.o.trans (HK.o.mono fun z h => ⟨fun e => h (by rw [e]; exact HFB.o), fun h2 => h h2.1.1⟩), HK0W.o.trans HK0.o⟩;rw [Zdu _ _ _ _ _ hlt, HY.o];exact SAt.put Z9.is HAT.o (i := j) (by rw [Z6]; exact hlt) HB.o HST.o (HK.o.mono fun z h => ⟨h.1.2, fun h2 => h.2 h2.2⟩) ⟨rfl, (show Zi (y) by have := HCE.o; have := HCT.o; have := HCL.o; have := HK1.o; have := HY.o; unfold Zi; omega), (show Zi (y + 1) by have := HCE.o; have := HCT.o; have := HCL.o; have := HK1.o; have := HY.o; unfold Zi; omega), (show Zi (y + 2) by have := HCE.o; have := HCT.o; have := HCL.o; have := HK1.o; have := HY.o; unfold Zi; omega), (show Zi (y + 3) by have := HCE.o; have := HCT.o; have := HCL.o; have := HK1.o; have := HY.o; unfold Zi; omega), (show (Zax (y + 4)).size ≤ maxLen by have := HCE.o; have := HCT.o; have := HCL.o; have := HK1.o; have := HY.o; have := Zdi (k := y + 4) (by omega); unfold maxLen; omega)⟩
   case measure => simp [intOf]; omega
  ·have hjl : j = l.length := by omega
   go_wp2_with fail;go_ret;subst hjl;have hrow := HAT.o.row HFB.o (c := cp) (by rw [Z6]; exact hc) HCM.o ⟨HO0.o, Nat.le_refl _⟩;rw [Z6] at hrow;refine ⟨Zae ?_, hrow, HKW.o, HK0W.o⟩;have := HY.o;rw [List.take_length] at this;exact this.symm
theorem Zm1 (r : Zfi) (cs : List Value) (F : Nat → Prop) (w : World) (k : Int) (hk : 1 ≤ k) (hk1 : k + (Zb8 r : Nat) ≤ 1099511627776) (h : Zj6 F w r cs) :
  Calls Tryz.prog 12 #[.agg cs.toArray, .int .i64 k] w fun e w' => e = .returned (.int .i64 (k + (Zb8 r : Nat))) ∧ Zj6 F w' (Znu r k) cs ∧ Zb (fun y => ¬ F y) w w' ∧ Below 0 w w' := by
 obtain ⟨tag, vroutines, aC, aD, vinstrs, rfl, hroutines, aF, aG, hmain, hinstrs⟩ := Zz.trim h;clear h;have HCE := zh (show Zb8 r = Zh Zn r.routines + Zh Zl r.aA + Zh (fun _ => 1) r.globals + Zh Zal r.instrs from rfl);have HK1 := zh hk1;clear hk1;have HP := zh (heap_alloc_new w (.cells #[vroutines, aC, aD, .int .i64 r.main, vinstrs] 32));have HK := zh (Zb.later (F := fun y => ¬ (F y ∧ y < w.heap.size)) ((Za.refl w).alloc (.cells #[vroutines, aC, aD, .int .i64 r.main, vinstrs] 32)));have HK0 := zh ((Below.refl 0 w).alloc (Nat.zero_le _) (.cells #[vroutines, aC, aD, .int .i64 r.main, vinstrs] 32));have Rroutines := zh (hroutines.later Zac.is ((Za.refl w).alloc (.cells #[vroutines, aC, aD, .int .i64 r.main, vinstrs] 32)));clear hroutines;have Rrecords := zh (aF.later Zj.is ((Za.refl w).alloc (.cells #[vroutines, aC, aD, .int .i64 r.main, vinstrs] 32)));clear aF;have Rglobals := zh (aG.later Zw.is ((Za.refl w).alloc (.cells #[vroutines, aC, aD, .int .i64 r.main, vinstrs] 32)));clear aG;have Hmain := zh hmain;clear hmain;have Rinstrs := zh (hinstrs.later Z9.is ((Za.refl w).alloc (.cells #[vroutines, aC, aD, .int .i64 r.main, vinstrs] 32)));clear hinstrs;go_enter Tryz.func12, Tryz.ntmps12;go_wp2_with fail;refine (Zg5 r.routines vroutines _ _ k (by omega) (by have := HCE.o; have := HK1.o; omega) Rroutines.o).mono ?_
 rintro e w0 ⟨rfl, hr0, hk0, hz0⟩;replace HP := zh ((hk0.same _ (fun h => Nat.lt_irrefl _ h.1.2) (Zc HP.o)).trans HP.o);replace Rroutines := zh hr0;replace Rrecords := zh (Rrecords.o.keep Zj.is (fun _ h => h) (hk0.mono fun y h h2 => absurd (h.2.symm.trans h2.2) (by decide)));replace Rglobals := zh (Rglobals.o.keep Zw.is (fun _ h => h) (hk0.mono fun y h h2 => absurd (h.2.symm.trans h2.2) (by decide)));replace Rinstrs := zh (Rinstrs.o.keep Z9.is (fun _ h => h) (hk0.mono fun y h h2 => absurd (h.2.symm.trans h2.2) (by decide)));replace HK := zh (HK.o.trans (hk0.mono fun y h h2 => h h2.1));replace HK0 := zh (HK0.o.trans hz0);clear hr0 hk0 hz0;obtain ⟨y0, hy0⟩ : ∃ z : Int, k + (Zh Zn r.routines : Nat) = z := ⟨_, rfl⟩;rw [hy0];have HY0 := zh hy0;have hl0 : 1 ≤ y0 := by omega
 have hu0 : y0 ≤ 1099511627776 := by have := HCE.o; have := HK1.o; omega
 clear hy0;have p1 := cq HP.o 1;simp only [nD, nE, nF] at p1;go_wp2_with fail;refine (Zeg r.aA aC _ _ y0 (by omega) (by have := HCE.o; have := HK1.o; have := HY0.o; omega) Rrecords.o).mono ?_;rintro e w1 ⟨rfl, hr1, hk1, hz1⟩;clear p1;replace HP := zh ((hk1.same _ (fun h => Nat.lt_irrefl _ h.1.2) (Zc HP.o)).trans HP.o);replace Rrecords := zh hr1;replace Rroutines := zh (Rroutines.o.keep Zac.is (fun _ h => h) (hk1.mono fun y h h2 => absurd (h.2.symm.trans h2.2) (by decide)));replace Rglobals := zh (Rglobals.o.keep Zw.is (fun _ h => h) (hk1.mono fun y h h2 => absurd (h.2.symm.trans h2.2) (by decide)));replace Rinstrs := zh (Rinstrs.o.keep Z9.is (fun _ h => h) (hk1.mono fun y h h2 => absurd (h.2.symm.trans h2.2) (by decide)));replace HK := zh (HK.o.trans (hk1.mono fun y h h2 => h h2.1));replace HK0 := zh (HK0.o.trans hz1);clear hr1 hk1 hz1;obtain ⟨y1, hy1⟩ : ∃ z : Int, y0 + (Zh Zl r.aA : Nat) = z := ⟨_, rfl⟩;rw [hy1];have HY1 := zh hy1;have hl1 : 1 ≤ y1 := by omega
 have hu1 : y1 ≤ 1099511627776 := by have := HCE.o; have := HK1.o; have := HY0.o; omega
 clear hy1;have p2 := cq HP.o 2;simp only [nD, nE, nF] at p2;go_wp2_with fail;refine (Zdd r.globals aD _ _ y1 (by omega) (by have := HCE.o; have := HK1.o; have := HY0.o; have := HY1.o; omega) Rglobals.o).mono ?_;rintro e w2 ⟨rfl, hr2, hk2, hz2⟩;clear p2;replace HP := zh ((hk2.same _ (fun h => Nat.lt_irrefl _ h.1.2) (Zc HP.o)).trans HP.o);replace Rglobals := zh hr2;replace Rroutines := zh (Rroutines.o.keep Zac.is (fun _ h => h) (hk2.mono fun y h h2 => absurd (h.2.symm.trans h2.2) (by decide)));replace Rrecords := zh (Rrecords.o.keep Zj.is (fun _ h => h) (hk2.mono fun y h h2 => absurd (h.2.symm.trans h2.2) (by decide)));replace Rinstrs := zh (Rinstrs.o.keep Z9.is (fun _ h => h) (hk2.mono fun y h h2 => absurd (h.2.symm.trans h2.2) (by decide)));replace HK := zh (HK.o.trans (hk2.mono fun y h h2 => h h2.1));replace HK0 := zh (HK0.o.trans hz2);clear hr2 hk2 hz2;obtain ⟨y2, hy2⟩ : ∃ z : Int, y1 + (Zh (fun _ => 1) r.globals : Nat) = z := ⟨_, rfl⟩;rw [hy2];have HY2 := zh hy2;have hl2 : 1 ≤ y2 := by omega
 have hu2 : y2 ≤ 1099511627776 := by have := HCE.o; have := HK1.o; have := HY0.o; have := HY1.o; omega
 clear hy2;have p4 := cq HP.o 4;simp only [nD, nE, nF] at p4;go_wp2_with fail;refine (Zle r.instrs vinstrs _ _ y2 (by omega) (by have := HCE.o; have := HK1.o; have := HY0.o; have := HY1.o; have := HY2.o; omega) Rinstrs.o).mono ?_;rintro e w3 ⟨rfl, hr3, hk3, hz3⟩;clear p4;replace HP := zh ((hk3.same _ (fun h => Nat.lt_irrefl _ h.1.2) (Zc HP.o)).trans HP.o);replace Rinstrs := zh hr3;replace Rroutines := zh (Rroutines.o.keep Zac.is (fun _ h => h) (hk3.mono fun y h h2 => absurd (h.2.symm.trans h2.2) (by decide)));replace Rrecords := zh (Rrecords.o.keep Zj.is (fun _ h => h) (hk3.mono fun y h h2 => absurd (h.2.symm.trans h2.2) (by decide)));replace Rglobals := zh (Rglobals.o.keep Zw.is (fun _ h => h) (hk3.mono fun y h h2 => absurd (h.2.symm.trans h2.2) (by decide)));replace HK := zh (HK.o.trans (hk3.mono fun y h h2 => h h2.1));replace HK0 := zh (HK0.o.trans hz3);clear hr3 hk3 hz3;obtain ⟨y3, hy3⟩ : ∃ z : Int, y2 + (Zh Zal r.instrs : Nat) = z := ⟨_, rfl⟩;rw [hy3];have HY3 := zh hy3;have hl3 : 1 ≤ y3 := by omega
 have hu3 : y3 ≤ 1099511627776 := by have := HCE.o; have := HK1.o; have := HY0.o; have := HY1.o; have := HY2.o; omega
 clear hy3;go_wp2_with fail;go_ret;refine ⟨Zae (by have := HCE.o; have := HK1.o; have := HY0.o; have := HY1.o; have := HY2.o; have := HY3.o; omega), ?_, HK.o.mono fun y h h2 => h h2.1, HK0.o⟩
 ·have eHY0 := HY0.o; subst eHY0;have eHY1 := HY1.o; subst eHY1;have eHY2 := HY2.o; subst eHY2;exact ⟨tag, _, _, _, _, rfl, Rroutines.o.keep Zac.is (fun b hb => ⟨hb.1.1, hb.2⟩) (Zb.refl _ _), Rrecords.o.keep Zj.is (fun b hb => ⟨hb.1.1, hb.2⟩) (Zb.refl _ _), Rglobals.o.keep Zw.is (fun b hb => ⟨hb.1.1, hb.2⟩) (Zb.refl _ _), Hmain.o, Rinstrs.o.keep Z9.is (fun b hb => ⟨hb.1.1, hb.2⟩) (Zb.refl _ _)⟩
end
end
section
section
variable {S K : Za6 Zd} {mK : Zd → Int → Zd} {cK sK : Zd → Nat}
theorem Zgq (l : List ByteArray) (v : Value) (F : Nat → Prop) (w : World) (k : Int) (hk : 1 ≤ k) (hk1 : k + (Zh (fun _ => 1) l : Nat) ≤ 1099511627776) (hr : Z5 Zbe 1 F w (Zcd Zf5 (fun _ => 1) l k) v) :
  Calls Tryz.prog 50 #[v, .int .i64 k] w fun e w' => e = .returned (.int .i64 (k + (Zh (fun _ => 1) l : Nat))) ∧ Below w.heap.size w w' := by
 obtain ⟨A, cp, rfl, hc, hcm, hel⟩ := hr;have HEL := zh hel;clear hel;simp only [Zb3] at hc ⊢;unfold maxLen at hcm;have HK1 := zh hk1;clear hk1;go_enter Tryz.func50, Tryz.ntmps50;go_wp2_with fail
 go_loopw [1, 5] (fun kv i wr => ∃ j : Nat, j ≤ l.length ∧ i = .int .i64 j ∧ kv = .int .i64 (k + (Zh (fun _ => 1) (l.take j) : Nat)) ∧ Below w.heap.size w wr) (fun _ i _ => l.length - (intOf i).toNat)
 case atStart => exact ⟨0, Nat.zero_le _, rfl, by simp [Zh], Below.refl _ _⟩
 case round =>
  obtain ⟨j, hj, rfl, rfl, hbel⟩ := hrel;have HBL := zh hbel;have HLE := zh (Za7 (fun _ => 1) l j);obtain ⟨y, hy⟩ : ∃ y : Int, k + (Zh (fun _ => 1) (l.take j) : Nat) = y := ⟨_, rfl⟩;have hy1 : 1 ≤ y := by omega
  have hy2 : y ≤ 1099511627776 := by have := HK1.o; have := HLE.o; omega
  rw [hy];have HY := zh hy;clear hy HLE hbel
  by_cases hlt : j < l.length
  ·have hlt' : (j : Int) < l.length := by omega
   have HCT := zh (Zbv (fun _ => 1) l j hlt);have HCL := zh (Za7 (fun _ => 1) l (j + 1));obtain ⟨b, o, cs, rfl, hF, hbl, hE, hcell⟩ := HEL.o j (by rw [Zb3]; exact hlt);rw [Zg9 Zf5 (fun _ => 1) l k j hlt, HY.o] at hE;obtain ⟨rfl, _⟩ := hE;have HC := zh hcell;clear hcell;have HCE := zh (show (fun _ : ByteArray => (1 : Nat)) l[j] = 1 from rfl);go_upto_region 4 with (fail);refine Z3 [] [] (by kernel_rfl) (fun W1 hW1 => ?_);have hW1L : Za wr W1 := by rw [hW1]; exact (Za.refl _).drew
   replace HBL := zh (HBL.o.trans (Below.mono hW1L HBL.o.size));clear hW1 hW1L;have cW : W1.cell? ⟨b, o + j, none⟩ = some (.string (Zax (y))) := by have hh := (HBL.o.cell (p := ⟨b, o + j * 1 + 0, none⟩) hbl).trans (HC.o 0 _ rfl); rw [Nat.mul_one] at hh; exact hh
   have hbW : b < W1.heap.size := Nat.lt_of_lt_of_le hbl HBL.o.size;have ysame : ((Zax (y)).toList == (Zax (y)).toList) = true := by simp
   refine tU 0 12 (v := ?_) rfl rfl (fun x hx => ?_) ?_;rotate_left
   ·go_simp;first|done|with_reducible rfl
   simp only [Act.put, nA, nB, nC];refine tU 1 13 (v := ?_) rfl rfl (fun x hx => ?_) ?_;rotate_left
   ·go_simp;first|done|with_reducible rfl
   simp only [Act.put, nA, nB, nC];refine tU 2 14 (v := ?_) rfl rfl (fun x hx => ?_) ?_;rotate_left
   ·go_simp;first|done|with_reducible rfl|rw[if_neg (by omega)]|rw[if_pos (by omega)]
   simp only [Act.put, nA, nB, nC];refine tU 3 15 (v := ?_) rfl rfl (fun x hx => ?_) ?_;rotate_left
   ·have x0 := (hx.cell ⟨b, o + j, none⟩ hbW).trans cW; go_simp;first|done|with_reducible rfl
   simp only [Act.put, nA, nB, nC];refine tU 4 16 (v := ?_) rfl rfl (fun x hx => ?_) ?_;rotate_left
   ·go_simp;first|done|with_reducible rfl
   simp only [Act.put, nA, nB, nC];refine Zca 5 (by kernel_rfl) rfl rfl ?_;go_wp2_with fail;refine (Zbq (y) W1 (by omega) (by have := HCE.o; have := HCT.o; have := HCL.o; have := HK1.o; have := HY.o; omega)).mono ?_;rintro e w1 ⟨rfl, hb1⟩;go_wp2_with fail;refine ⟨hb1, ?_⟩;refine tU 6 18 (v := ?_) rfl rfl (fun x hx => ?_) ?_;rotate_left
   ·go_simp;first|done|with_reducible rfl
   simp only [Act.put, nA, nB, nC];refine Zag [] (by kernel_rfl) rfl rfl ?_;replace HBL := zh (HBL.o.trans (Below.mono hb1 HBL.o.size));clear hb1 cW hbW ysame;have n1_1 : y + 1 + 1 = y + 2 := by omega
   go_wp2_with fail
   go_roundw
   case rel => exact ⟨j + 1, by omega, by go_num, by have := HCE.o; have := HCT.o; have := HCL.o; have := HK1.o; have := HY.o; congr 1; omega, HBL.o⟩
   case measure => simp [intOf]; omega
  ·have hjl : j = l.length := by omega
   go_wp2_with fail;go_ret;subst hjl;refine ⟨Zae ?_, HBL.o⟩;have := HY.o;rw [List.take_length] at this;exact this.symm
theorem Zhi (l : List Zam) (v : Value) (F : Nat → Prop) (w : World) (k : Int) (hk : 1 ≤ k) (hk1 : k + (Zh Zl l : Nat) ≤ 1099511627776) (hr : Z5 Zao 3 F w (Zcd Zbu Zl l k) v) :
  Calls Tryz.prog 49 #[v, .int .i64 k] w fun e w' => e = .returned (.int .i64 (k + (Zh Zl l : Nat))) ∧ Below w.heap.size w w' := by
 obtain ⟨A, cp, rfl, hc, hcm, hel⟩ := hr;have HEL := zh hel;clear hel;simp only [Zb3] at hc ⊢;unfold maxLen at hcm;have HK1 := zh hk1;clear hk1;go_enter Tryz.func49, Tryz.ntmps49;go_wp2_with fail
 go_loopw [1, 5] (fun kv i wr => ∃ j : Nat, j ≤ l.length ∧ i = .int .i64 j ∧ kv = .int .i64 (k + (Zh Zl (l.take j) : Nat)) ∧ Below w.heap.size w wr) (fun _ i _ => l.length - (intOf i).toNat)
 case atStart => exact ⟨0, Nat.zero_le _, rfl, by simp [Zh], Below.refl _ _⟩
 case round =>
  obtain ⟨j, hj, rfl, rfl, hbel⟩ := hrel;have HBL := zh hbel;have HLE := zh (Za7 Zl l j);obtain ⟨y, hy⟩ : ∃ y : Int, k + (Zh Zl (l.take j) : Nat) = y := ⟨_, rfl⟩;have hy1 : 1 ≤ y := by omega
  have hy2 : y ≤ 1099511627776 := by have := HK1.o; have := HLE.o; omega
  rw [hy];have HY := zh hy;clear hy HLE hbel
  by_cases hlt : j < l.length
  ·have hlt' : (j : Int) < l.length := by omega
   have HCT := zh (Zbv Zl l j hlt);have HCL := zh (Za7 Zl l (j + 1));obtain ⟨b, o, cs, rfl, hF, hbl, hE, hcell⟩ := HEL.o j (by rw [Zb3]; exact hlt);rw [Zg9 Zbu Zl l k j hlt, HY.o] at hE;have hE' : ∃ aE, cs = [.string (Zax (y)), aE, .int .i64 ((y + 1 + (Zh (fun _ => 1) l[j].fields : Nat)))] ∧ Z5 Zbe 1 F w (Zcd Zf5 (fun _ => 1) l[j].fields (y + 1)) aE := by
    obtain ⟨aE, e, aK, aL, aM⟩ := hE;exact ⟨_, e, aL⟩
   obtain ⟨aE, rfl, aL⟩ := hE';clear hE;have Rfields := zh aL;clear aL;have HC := zh hcell;clear hcell;have HCE := zh (show Zl l[j] = 2 + (Zh (fun _ => 1) l[j].fields) from rfl);go_upto_region 4 with (fail);refine Z3 [] [] (by kernel_rfl) (fun W1 hW1 => ?_);have hW1L : Za wr W1 := by rw [hW1]; exact (Za.refl _).drew
   replace HBL := zh (HBL.o.trans (Below.mono hW1L HBL.o.size));clear hW1 hW1L;have cW : W1.cell? ⟨b, o + j * 3, none⟩ = some (.string (Zax (y))) := by have hh := (HBL.o.cell (p := ⟨b, o + j * 3 + 0, none⟩) hbl).trans (HC.o 0 _ rfl); exact hh
   have hbW : b < W1.heap.size := Nat.lt_of_lt_of_le hbl HBL.o.size;have ysame : ((Zax (y)).toList == (Zax (y)).toList) = true := by simp
   refine tU 0 12 (v := ?_) rfl rfl (fun x hx => ?_) ?_;rotate_left
   ·go_simp;first|done|with_reducible rfl
   simp only [Act.put, nA, nB, nC];refine tU 1 13 (v := ?_) rfl rfl (fun x hx => ?_) ?_;rotate_left
   ·go_simp;first|done|with_reducible rfl
   simp only [Act.put, nA, nB, nC];refine tU 2 14 (v := ?_) rfl rfl (fun x hx => ?_) ?_;rotate_left
   ·go_simp;first|done|with_reducible rfl|rw[if_neg (by omega)]|rw[if_pos (by omega)]
   simp only [Act.put, nA, nB, nC];refine tU 3 15 (v := ?_) rfl rfl (fun x hx => ?_) ?_;rotate_left
   ·go_simp;first|done|with_reducible rfl
   simp only [Act.put, nA, nB, nC];refine tU 4 16 (v := ?_) rfl rfl (fun x hx => ?_) ?_;rotate_left
   ·have x0 := (hx.cell ⟨b, o + j * 3, none⟩ hbW).trans cW; go_simp;first|done|with_reducible rfl
   simp only [Act.put, nA, nB, nC];refine tU 5 17 (v := ?_) rfl rfl (fun x hx => ?_) ?_;rotate_left
   ·go_simp;first|done|with_reducible rfl
   simp only [Act.put, nA, nB, nC];refine Zca 6 (by kernel_rfl) rfl rfl ?_;go_wp2_with fail;refine (Zbq (y) W1 (by omega) (by have := HCE.o; have := HCT.o; have := HCL.o; have := HK1.o; have := HY.o; omega)).mono ?_;rintro e w1 ⟨rfl, hb1⟩;go_wp2_with fail;refine ⟨hb1, ?_⟩;refine tU 7 19 (v := ?_) rfl rfl (fun x hx => ?_) ?_;rotate_left
   ·go_simp;first|done|with_reducible rfl
   simp only [Act.put, nA, nB, nC];refine Zag [] (by kernel_rfl) rfl rfl ?_;replace HBL := zh (HBL.o.trans (Below.mono hb1 HBL.o.size));clear hb1 cW hbW ysame;have c1 : w1.cell? ⟨b, o + j * 3 + 1, none⟩ = some (aE) := by have hh := (HBL.o.cell (p := ⟨b, o + j * 3 + 1, none⟩) hbl).trans (HC.o 1 _ rfl); exact hh
   have n1_1 : y + 1 + 1 = y + 2 := by omega
   go_wp2_with fail;clear c1 n1_1;have HR2 : Hd (Z5 Zbe 1 F w (Zcd Zf5 (fun _ => 1) l[j].fields (y + 1)) aE) := zh (by exact Rfields.o);refine (Zgq l[j].fields aE F _ (y + 1) (by omega) (by have := HCE.o; have := HCT.o; have := HCL.o; have := HK1.o; have := HY.o; omega) (HR2.o.keep Zt (fun _ h => h) (Zb.later HBL.o))).mono ?_;rintro e w2 ⟨rfl, hb2⟩;replace HBL := zh (HBL.o.trans (Below.mono hb2 HBL.o.size));clear hb2 HR2;obtain ⟨y2, hy2⟩ : ∃ z : Int, y + 1 + (Zh (fun _ => 1) l[j].fields : Nat) = z := ⟨_, rfl⟩;rw [hy2];have HY2 := zh hy2;have hl2 : 1 ≤ y2 := by omega
   have hu2 : y2 ≤ 1099511627776 := by have := HCE.o; have := HCT.o; have := HCL.o; have := HK1.o; have := HY.o; omega
   have ht2 : decide (y2 < 0) = false := by simp; omega
   clear hy2;have c2 : w2.cell? ⟨b, o + j * 3 + 2, none⟩ = some (.int .i64 (y2)) := by rw [← HY2.o]; have hh := (HBL.o.cell (p := ⟨b, o + j * 3 + 2, none⟩) hbl).trans (HC.o 2 _ rfl); exact hh
   have n2_1 : y2 + 1 + 1 = y2 + 2 := by omega
   go_wp2_with fail
   go_roundw
   case rel => exact ⟨j + 1, by omega, by go_num, by have := HCE.o; have := HCT.o; have := HCL.o; have := HK1.o; have := HY.o; have := HY2.o; congr 1; omega, HBL.o⟩
   case measure => simp [intOf]; omega
  ·have hjl : j = l.length := by omega
   go_wp2_with fail;go_ret;subst hjl;refine ⟨Zae ?_, HBL.o⟩;have := HY.o;rw [List.take_length] at this;exact this.symm
theorem Zg6 (l : List Zar) (v : Value) (F : Nat → Prop) (w : World) (k : Int) (hk : 1 ≤ k) (hk1 : k + (Zh Zn l : Nat) ≤ 1099511627776) (hr : Z5 Zaj 4 F w (Zcd Zbx Zn l k) v) :
  Calls Tryz.prog 48 #[v, .int .i64 k] w fun e w' => e = .returned (.int .i64 (k + (Zh Zn l : Nat))) ∧ Below w.heap.size w w' := by
 obtain ⟨A, cp, rfl, hc, hcm, hel⟩ := hr;have HEL := zh hel;clear hel;simp only [Zb3] at hc ⊢;unfold maxLen at hcm;have HK1 := zh hk1;clear hk1;go_enter Tryz.func48, Tryz.ntmps48;go_wp2_with fail
 go_loopw [1, 5] (fun kv i wr => ∃ j : Nat, j ≤ l.length ∧ i = .int .i64 j ∧ kv = .int .i64 (k + (Zh Zn (l.take j) : Nat)) ∧ Below w.heap.size w wr) (fun _ i _ => l.length - (intOf i).toNat)
 case atStart => exact ⟨0, Nat.zero_le _, rfl, by simp [Zh], Below.refl _ _⟩
 case round =>
  obtain ⟨j, hj, rfl, rfl, hbel⟩ := hrel;have HBL := zh hbel;have HLE := zh (Za7 Zn l j);obtain ⟨y, hy⟩ : ∃ y : Int, k + (Zh Zn (l.take j) : Nat) = y := ⟨_, rfl⟩;have hy1 : 1 ≤ y := by omega
  have hy2 : y ≤ 1099511627776 := by have := HK1.o; have := HLE.o; omega
  rw [hy];have HY := zh hy;clear hy HLE hbel
  by_cases hlt : j < l.length
  ·have hlt' : (j : Int) < l.length := by omega
   have HCT := zh (Zbv Zn l j hlt);have HCL := zh (Za7 Zn l (j + 1));obtain ⟨b, o, cs, rfl, hF, hbl, hE, hcell⟩ := HEL.o j (by rw [Zb3]; exact hlt);rw [Zg9 Zbx Zn l k j hlt, HY.o] at hE;have hE' : cs = [.string (Zax (y)), .int .i64 (y + 1), .int .i64 (y + 2), .int .i64 (y + 3)] := by
    obtain ⟨e, aK, hparams, hslots, hentry⟩ := hE;exact e
   obtain rfl := hE';clear hE;have HC := zh hcell;clear hcell;have HCE := zh (show Zn l[j] = 4 from rfl);go_upto_region 4 with (fail);refine Z3 [] [] (by kernel_rfl) (fun W1 hW1 => ?_);have hW1L : Za wr W1 := by rw [hW1]; exact (Za.refl _).drew
   replace HBL := zh (HBL.o.trans (Below.mono hW1L HBL.o.size));clear hW1 hW1L;have cW : W1.cell? ⟨b, o + j * 4, none⟩ = some (.string (Zax (y))) := by have hh := (HBL.o.cell (p := ⟨b, o + j * 4 + 0, none⟩) hbl).trans (HC.o 0 _ rfl); exact hh
   have hbW : b < W1.heap.size := Nat.lt_of_lt_of_le hbl HBL.o.size;have ysame : ((Zax (y)).toList == (Zax (y)).toList) = true := by simp
   refine tU 0 12 (v := ?_) rfl rfl (fun x hx => ?_) ?_;rotate_left
   ·go_simp;first|done|with_reducible rfl
   simp only [Act.put, nA, nB, nC];refine tU 1 13 (v := ?_) rfl rfl (fun x hx => ?_) ?_;rotate_left
   ·go_simp;first|done|with_reducible rfl
   simp only [Act.put, nA, nB, nC];refine tU 2 14 (v := ?_) rfl rfl (fun x hx => ?_) ?_;rotate_left
   ·go_simp;first|done|with_reducible rfl|rw[if_neg (by omega)]|rw[if_pos (by omega)]
   simp only [Act.put, nA, nB, nC];refine tU 3 15 (v := ?_) rfl rfl (fun x hx => ?_) ?_;rotate_left
   ·go_simp;first|done|with_reducible rfl
   simp only [Act.put, nA, nB, nC];refine tU 4 16 (v := ?_) rfl rfl (fun x hx => ?_) ?_;rotate_left
   ·have x0 := (hx.cell ⟨b, o + j * 4, none⟩ hbW).trans cW; go_simp;first|done|with_reducible rfl
   simp only [Act.put, nA, nB, nC];refine tU 5 17 (v := ?_) rfl rfl (fun x hx => ?_) ?_;rotate_left
   ·go_simp;first|done|with_reducible rfl
   simp only [Act.put, nA, nB, nC];refine Zca 6 (by kernel_rfl) rfl rfl ?_;go_wp2_with fail;refine (Zbq (y) W1 (by omega) (by have := HCE.o; have := HCT.o; have := HCL.o; have := HK1.o; have := HY.o; omega)).mono ?_;rintro e w1 ⟨rfl, hb1⟩;go_wp2_with fail;refine ⟨hb1, ?_⟩;refine tU 7 19 (v := ?_) rfl rfl (fun x hx => ?_) ?_;rotate_left
   ·go_simp;first|done|with_reducible rfl
   simp only [Act.put, nA, nB, nC];refine Zag [] (by kernel_rfl) rfl rfl ?_;replace HBL := zh (HBL.o.trans (Below.mono hb1 HBL.o.size));clear hb1 cW hbW ysame;have c1 : w1.cell? ⟨b, o + j * 4 + 1, none⟩ = some (.int .i64 (y + 1)) := by have hh := (HBL.o.cell (p := ⟨b, o + j * 4 + 1, none⟩) hbl).trans (HC.o 1 _ rfl); exact hh
   have c2 : w1.cell? ⟨b, o + j * 4 + 2, none⟩ = some (.int .i64 (y + 2)) := by have hh := (HBL.o.cell (p := ⟨b, o + j * 4 + 2, none⟩) hbl).trans (HC.o 2 _ rfl); exact hh
   have c3 : w1.cell? ⟨b, o + j * 4 + 3, none⟩ = some (.int .i64 (y + 3)) := by have hh := (HBL.o.cell (p := ⟨b, o + j * 4 + 3, none⟩) hbl).trans (HC.o 3 _ rfl); exact hh
   have n1_1 : y + 1 + 1 = y + 2 := by omega
   have n1_2 : y + 2 + 1 = y + 3 := by omega
   have n1_3 : y + 3 + 1 = y + 4 := by omega
   have n1_4 : y + 4 + 1 = y + 5 := by omega
   go_wp2_with fail
   go_roundw
   case rel => exact ⟨j + 1, by omega, by go_num, by have := HCE.o; have := HCT.o; have := HCL.o; have := HK1.o; have := HY.o; congr 1; omega, HBL.o⟩
   case measure => simp [intOf]; omega
  ·have hjl : j = l.length := by omega
   go_wp2_with fail;go_ret;subst hjl;refine ⟨Zae ?_, HBL.o⟩;have := HY.o;rw [List.take_length] at this;exact this.symm
theorem Zlf (l : List Ze) (v : Value) (F : Nat → Prop) (w : World) (k : Int) (hk : 1 ≤ k) (hk1 : k + (Zh Zal l : Nat) ≤ 1099511627776) (hr : Z5 Zbi 5 F w (Zcd Zd8 Zal l k) v) :
  Calls Tryz.prog 51 #[v, .int .i64 k] w fun e w' => e = .returned (.int .i64 (k + (Zh Zal l : Nat))) ∧ Below w.heap.size w w' := by
 obtain ⟨A, cp, rfl, hc, hcm, hel⟩ := hr;have HEL := zh hel;clear hel;simp only [Zb3] at hc ⊢;unfold maxLen at hcm;have HK1 := zh hk1;clear hk1;go_enter Tryz.func51, Tryz.ntmps51;go_wp2_with fail
 go_loopw [1, 5] (fun kv i wr => ∃ j : Nat, j ≤ l.length ∧ i = .int .i64 j ∧ kv = .int .i64 (k + (Zh Zal (l.take j) : Nat)) ∧ Below w.heap.size w wr) (fun _ i _ => l.length - (intOf i).toNat)
 case atStart => exact ⟨0, Nat.zero_le _, rfl, by simp [Zh], Below.refl _ _⟩
 case round =>
  obtain ⟨j, hj, rfl, rfl, hbel⟩ := hrel;have HBL := zh hbel;have HLE := zh (Za7 Zal l j);obtain ⟨y, hy⟩ : ∃ y : Int, k + (Zh Zal (l.take j) : Nat) = y := ⟨_, rfl⟩;have hy1 : 1 ≤ y := by omega
  have hy2 : y ≤ 1099511627776 := by have := HK1.o; have := HLE.o; omega
  rw [hy];have HY := zh hy;clear hy HLE hbel
  by_cases hlt : j < l.length
  ·have hlt' : (j : Int) < l.length := by omega
   have HCT := zh (Zbv Zal l j hlt);have HCL := zh (Za7 Zal l (j + 1));obtain ⟨b, o, cs, rfl, hF, hbl, hE, hcell⟩ := HEL.o j (by rw [Zb3]; exact hlt);rw [Zg9 Zd8 Zal l k j hlt, HY.o] at hE;have hE' : cs = [.int .i64 (y), .int .i64 (y + 1), .int .i64 (y + 2), .int .i64 (y + 3), .string (Zax (y + 4))] := by
    obtain ⟨e, hop, ha, hb, aM, aJ⟩ := hE;exact e
   obtain rfl := hE';clear hE;have HC := zh hcell;clear hcell;have HCE := zh (show Zal l[j] = 5 from rfl);have c0 : wr.cell? ⟨b, o + j * 5, none⟩ = some (.int .i64 (y)) := by have hh := (HBL.o.cell (p := ⟨b, o + j * 5 + 0, none⟩) hbl).trans (HC.o 0 _ rfl); exact hh
   have c1 : wr.cell? ⟨b, o + j * 5 + 1, none⟩ = some (.int .i64 (y + 1)) := by have hh := (HBL.o.cell (p := ⟨b, o + j * 5 + 1, none⟩) hbl).trans (HC.o 1 _ rfl); exact hh
   have c2 : wr.cell? ⟨b, o + j * 5 + 2, none⟩ = some (.int .i64 (y + 2)) := by have hh := (HBL.o.cell (p := ⟨b, o + j * 5 + 2, none⟩) hbl).trans (HC.o 2 _ rfl); exact hh
   have c3 : wr.cell? ⟨b, o + j * 5 + 3, none⟩ = some (.int .i64 (y + 3)) := by have hh := (HBL.o.cell (p := ⟨b, o + j * 5 + 3, none⟩) hbl).trans (HC.o 3 _ rfl); exact hh
   have n0_1 : y + 1 + 1 = y + 2 := by omega
   have n0_2 : y + 2 + 1 = y + 3 := by omega
   have n0_3 : y + 3 + 1 = y + 4 := by omega
   have n0_4 : y + 4 + 1 = y + 5 := by omega
   go_upto_region 16 with (fail);clear c0 c1 c2 c3 n0_1 n0_2 n0_3 n0_4;refine Z3 [] [] (by kernel_rfl) (fun W1 hW1 => ?_);have hW1L : Za wr W1 := by rw [hW1]; exact (Za.refl _).drew
   replace HBL := zh (HBL.o.trans (Below.mono hW1L HBL.o.size));clear hW1 hW1L;have cW : W1.cell? ⟨b, o + j * 5 + 4, none⟩ = some (.string (Zax (y + 4))) := by have hh := (HBL.o.cell (p := ⟨b, o + j * 5 + 4, none⟩) hbl).trans (HC.o 4 _ rfl); exact hh
   have hbW : b < W1.heap.size := Nat.lt_of_lt_of_le hbl HBL.o.size;have ysame : ((Zax (y + 4)).toList == (Zax (y + 4)).toList) = true := by simp
   refine tU 0 48 (v := ?_) rfl rfl (fun x hx => ?_) ?_;rotate_left
   ·go_simp;first|done|with_reducible rfl
   simp only [Act.put, nA, nB, nC];refine tU 1 49 (v := ?_) rfl rfl (fun x hx => ?_) ?_;rotate_left
   ·go_simp;first|done|with_reducible rfl
   simp only [Act.put, nA, nB, nC];refine tU 2 50 (v := ?_) rfl rfl (fun x hx => ?_) ?_;rotate_left
   ·go_simp;first|done|with_reducible rfl|rw[if_neg (by omega)]|rw[if_pos (by omega)]
   simp only [Act.put, nA, nB, nC];refine tU 3 51 (v := ?_) rfl rfl (fun x hx => ?_) ?_;rotate_left
   ·go_simp;first|done|with_reducible rfl
   simp only [Act.put, nA, nB, nC];refine tU 4 52 (v := ?_) rfl rfl (fun x hx => ?_) ?_;rotate_left
   ·have x0 := (hx.cell ⟨b, o + j * 5 + 4, none⟩ hbW).trans cW; go_simp;first|done|with_reducible rfl
   simp only [Act.put, nA, nB, nC];refine tU 5 53 (v := ?_) rfl rfl (fun x hx => ?_) ?_;rotate_left
   ·go_simp;first|done|with_reducible rfl
   simp only [Act.put, nA, nB, nC];refine Zca 6 (by kernel_rfl) rfl rfl ?_;go_wp2_with fail;refine (Zbq (y + 4) W1 (by omega) (by have := HCE.o; have := HCT.o; have := HCL.o; have := HK1.o; have := HY.o; omega)).mono ?_;rintro e w1 ⟨rfl, hb1⟩;go_wp2_with fail;refine ⟨hb1, ?_⟩;refine tU 7 55 (v := ?_) rfl rfl (fun x hx => ?_) ?_;rotate_left
   ·go_simp;first|done|with_reducible rfl
   simp only [Act.put, nA, nB, nC];refine Zag [] (by kernel_rfl) rfl rfl ?_;replace HBL := zh (HBL.o.trans (Below.mono hb1 HBL.o.size));clear hb1 cW hbW ysame;have n1_1 : y + 1 + 1 = y + 2 := by omega
   have n1_2 : y + 2 + 1 = y + 3 := by omega
   have n1_3 : y + 3 + 1 = y + 4 := by omega
   have n1_4 : y + 4 + 1 = y + 5 := by omega
   have n1_5 : y + 5 + 1 = y + 6 := by omega
   go_wp2_with fail
   go_roundw
   case rel => exact ⟨j + 1, by omega, by go_num, by have := HCE.o; have := HCT.o; have := HCL.o; have := HK1.o; have := HY.o; congr 1; omega, HBL.o⟩
   case measure => simp [intOf]; omega
  ·have hjl : j = l.length := by omega
   go_wp2_with fail;go_ret;subst hjl;refine ⟨Zae ?_, HBL.o⟩;have := HY.o;rw [List.take_length] at this;exact this.symm
theorem Ziq (r : Zfi) (cs : List Value) (F : Nat → Prop) (w : World) (k : Int) (hk : 1 ≤ k) (hk1 : k + (Zb8 r : Nat) ≤ 1099511627776) (h : Zmi F w (Znu r k) cs) :
  Calls Tryz.prog 13 #[.agg cs.toArray, .int .i64 k] w fun e w' => e = .returned (.int .i64 (k + (Zb8 r : Nat))) ∧ Below w.heap.size w w' := by
 have h' : ∃ vroutines aC aD vinstrs, cs = [vroutines, aC, aD, .int .i64 r.main, vinstrs] ∧ Z5 Zaj 4 F w (Zcd Zbx Zn r.routines (k)) vroutines ∧ Z5 Zao 3 F w (Zcd Zbu Zl r.aA (k + (Zh Zn r.routines : Nat))) aC ∧ Z5 Zbe 1 F w (Zcd Zf5 (fun _ => 1) r.globals (k + (Zh Zn r.routines : Nat) + (Zh Zl r.aA : Nat))) aD ∧ Z5 Zbi 5 F w (Zcd Zd8 Zal r.instrs (k + (Zh Zn r.routines : Nat) + (Zh Zl r.aA : Nat) + (Zh (fun _ => 1) r.globals : Nat))) vinstrs := by
  obtain ⟨vroutines, aC, aD, vinstrs, e, hroutines, aF, aG, hmain, hinstrs⟩ := h;exact ⟨_, _, _, _, e, hroutines, aF, aG, hinstrs⟩
 obtain ⟨vroutines, aC, aD, vinstrs, rfl, hroutines, aF, aG, hinstrs⟩ := h';clear h;have HCE := zh (show Zb8 r = Zh Zn r.routines + Zh Zl r.aA + Zh (fun _ => 1) r.globals + Zh Zal r.instrs from rfl);have HK1 := zh hk1;clear hk1;have HP := zh (heap_alloc_new w (.cells #[vroutines, aC, aD, .int .i64 r.main, vinstrs] 32));have HB := zh ((Below.refl w.heap.size w).alloc (Nat.le_refl _) (.cells #[vroutines, aC, aD, .int .i64 r.main, vinstrs] 32));have Rroutines := zh hroutines;clear hroutines;have Rrecords := zh aF;clear aF;have Rglobals := zh aG;clear aG;have Rinstrs := zh hinstrs;clear hinstrs;go_enter Tryz.func13, Tryz.ntmps13;go_wp2_with fail;refine (Zg6 r.routines vroutines F _ k (by omega) (by have := HCE.o; have := HK1.o; omega) (Rroutines.o.later Zau HB.o)).mono ?_;rintro e w0 ⟨rfl, hb0⟩;replace HP := zC hb0 HP;replace HB := zh (HB.o.trans (Below.mono hb0 HB.o.size));clear hb0;obtain ⟨y0, hy0⟩ : ∃ z : Int, k + (Zh Zn r.routines : Nat) = z := ⟨_, rfl⟩;rw [hy0];rw [hy0] at Rrecords Rglobals Rinstrs;have HY0 := zh hy0;have hl0 : 1 ≤ y0 := by omega
 have hu0 : y0 ≤ 1099511627776 := by have := HCE.o; have := HK1.o; omega
 have ht0 : decide (y0 < 0) = false := by simp; omega
 clear hy0;have p1 := cq HP.o 1;simp only [nD, nE, nF] at p1;go_wp2_with fail;refine (Zhi r.aA aC F _ y0 (by omega) (by have := HCE.o; have := HK1.o; have := HY0.o; omega) (Rrecords.o.later Z7 HB.o)).mono ?_;rintro e w1 ⟨rfl, hb1⟩;clear p1;replace HP := zC hb1 HP;replace HB := zh (HB.o.trans (Below.mono hb1 HB.o.size));clear hb1;obtain ⟨y1, hy1⟩ : ∃ z : Int, y0 + (Zh Zl r.aA : Nat) = z := ⟨_, rfl⟩;rw [hy1];rw [hy1] at Rglobals Rinstrs;have HY1 := zh hy1;have hl1 : 1 ≤ y1 := by omega
 have hu1 : y1 ≤ 1099511627776 := by have := HCE.o; have := HK1.o; have := HY0.o; omega
 have ht1 : decide (y1 < 0) = false := by simp; omega
 clear hy1;have p2 := cq HP.o 2;simp only [nD, nE, nF] at p2;go_wp2_with fail;refine (Zgq r.globals aD F _ y1 (by omega) (by have := HCE.o; have := HK1.o; have := HY0.o; have := HY1.o; omega) (Rglobals.o.later Zt HB.o)).mono ?_;rintro e w2 ⟨rfl, hb2⟩;clear p2;replace HP := zC hb2 HP;replace HB := zh (HB.o.trans (Below.mono hb2 HB.o.size));clear hb2;obtain ⟨y2, hy2⟩ : ∃ z : Int, y1 + (Zh (fun _ => 1) r.globals : Nat) = z := ⟨_, rfl⟩;rw [hy2];rw [hy2] at Rinstrs;have HY2 := zh hy2;have hl2 : 1 ≤ y2 := by omega
 have hu2 : y2 ≤ 1099511627776 := by have := HCE.o; have := HK1.o; have := HY0.o; have := HY1.o; omega
 have ht2 : decide (y2 < 0) = false := by simp; omega
 clear hy2;have p4 := cq HP.o 4;simp only [nD, nE, nF] at p4;go_wp2_with fail;refine (Zlf r.instrs vinstrs F _ y2 (by omega) (by have := HCE.o; have := HK1.o; have := HY0.o; have := HY1.o; have := HY2.o; omega) (Rinstrs.o.later Zcf HB.o)).mono ?_;rintro e w3 ⟨rfl, hb3⟩;clear p4;replace HP := zC hb3 HP;replace HB := zh (HB.o.trans (Below.mono hb3 HB.o.size));clear hb3;obtain ⟨y3, hy3⟩ : ∃ z : Int, y2 + (Zh Zal r.instrs : Nat) = z := ⟨_, rfl⟩;rw [hy3];have HY3 := zh hy3;have hl3 : 1 ≤ y3 := by omega
 have hu3 : y3 ≤ 1099511627776 := by have := HCE.o; have := HK1.o; have := HY0.o; have := HY1.o; have := HY2.o; omega
 have ht3 : decide (y3 < 0) = false := by simp; omega
 clear hy3;go_wp2_with fail;go_ret;exact ⟨Zae (by have := HCE.o; have := HK1.o; have := HY0.o; have := HY1.o; have := HY2.o; have := HY3.o; omega), HB.o⟩
end
end
section
section
variable {S K : Za6 Zd} {mK : Zd → Int → Zd} {cK sK : Zd → Nat}
theorem Zdq (l : List ByteArray) (v v' : Value) (F G : Nat → Prop) (w : World) (hr : Z5 Zbe 1 F w l v) (gr : Z5 Zbe 1 G w l v') :
  Calls Tryz.prog 40 #[v, v'] w fun e w' => e = .returned (.bool true) ∧ Below w.heap.size w w' := by
 obtain ⟨A, c, rfl, hc, hcm, hel⟩ := hr;obtain ⟨A', c', rfl, hc', hcm', gel⟩ := gr;unfold maxLen at hcm hcm';have HEL := zh hel;have GEL := zh gel;clear hel gel;go_enter Tryz.func40, Tryz.ntmps40;go_wp2_with fail
 go_loopw [5] (fun i wr => ∃ j : Nat, j ≤ l.length ∧ i = .int .i64 j ∧ Below w.heap.size w wr) (fun i _ => l.length - (intOf i).toNat)
 case atStart => exact ⟨0, Nat.zero_le _, rfl, Below.refl _ _⟩
 case round =>
  obtain ⟨j, hj, rfl, hbel⟩ := hrel;have hsz := hbel.size
  by_cases hlt : j < l.length
  ·obtain ⟨b, o, cs, rfl, hF, hbl, hE, hcell⟩ := HEL.o j hlt;obtain ⟨b2, o2, cs2, rfl, hF2, hbl2, hG, hcell2⟩ := GEL.o j hlt
   skip
   skip
   obtain ⟨rfl, hsm⟩ := hE;obtain ⟨rfl, _⟩ := hG;have hlt' : (j : Int) < l.length := by omega
   have e0 := (hbel.cell (p := ⟨b, o + j * 1 + 0, none⟩) hbl).trans (hcell 0 _ rfl);have g0 := (hbel.cell (p := ⟨b2, o2 + j * 1 + 0, none⟩) hbl2).trans (hcell2 0 _ rfl);simp only [Nat.mul_one, Nat.add_zero] at e0 g0;have ysame : (l[j].toList == l[j].toList) = true := by simp
   obtain ⟨s, hs⟩ : ∃ s, l[j] = s := ⟨_, rfl⟩;rw [hs] at e0 g0 ysame;have hbr : b < wr.heap.size := Nat.lt_of_lt_of_le hbl hsz;have hb2r : b2 < wr.heap.size := Nat.lt_of_lt_of_le hbl2 hsz;clear hcell hcell2 hsm hs;go_upto_region 6 with (fail);refine Zuj (fun W hW => ?_);have hWL : Za wr W := by rw [hW]; exact (Za.refl _).drew
   have eW0 := (hWL.cell ⟨b, o + j, none⟩ hbr).trans e0;have gW0 := (hWL.cell ⟨b2, o2 + j, none⟩ hb2r).trans g0;have hbW : b < W.heap.size := Nat.lt_of_lt_of_le hbr hWL.size;have hb2W : b2 < W.heap.size := Nat.lt_of_lt_of_le hb2r hWL.size;clear hW
   repeat go_big_quiet_step (fail)
   refine wpQuiet_nil ?_;clear e0 g0;have hb5 := hbel.trans (Below.mono hWL hbel.size);clear hWL eW0 gW0;go_wp2_with fail
   go_roundw
   case rel => exact ⟨j + 1, by omega, by go_num, hb5⟩
   case measure => simp [intOf]; omega
  ·have hjl : j = l.length := by omega
   go_wp2_with fail;go_ret;exact ⟨rfl, hbel⟩
theorem Zir (r : Zam) (cs cs' : List Value) (F G : Nat → Prop) (w : World) (h : Zao F w r cs) (g : Zao G w r cs') :
  Calls Tryz.prog 84 #[.agg cs.toArray, .agg cs'.toArray] w fun e w' => e = .returned (.bool true) ∧ Below w.heap.size w w' := by
 obtain ⟨aE, rfl, aK, aL, aM⟩ := h;obtain ⟨vfields', rfl, _, aP, _⟩ := g;have yname : (r.name.toList == r.name.toList) = true := by simp
 clear aK;have Hfields := zh aL;have Gfields := zh aP;clear aL aP;clear aM;have HP := zh ((Za.refl _).alloc (.cells #[.string r.name, vfields', .int .i64 r.line] 101) |>.block _ (by simp) |>.trans (heap_alloc_new w (.cells #[.string r.name, aE, .int .i64 r.line] 101)));have HZ := zh (heap_alloc_new (w.alloc (.cells #[.string r.name, aE, .int .i64 r.line] 101)) (.cells #[.string r.name, vfields', .int .i64 r.line] 101));simp only [Zbj] at HZ;have HB := zh (((Below.refl w.heap.size w).alloc (Nat.le_refl _) (.cells #[.string r.name, aE, .int .i64 r.line] 101)).alloc (by simp) (.cells #[.string r.name, vfields', .int .i64 r.line] 101));go_enter Tryz.func84, Tryz.ntmps84;go_wp2_with fail;refine (Zdq r.fields aE vfields' F G _ (Hfields.o.later Zt HB.o) (Gfields.o.later Zt HB.o)).mono ?_;rintro e w1 ⟨rfl, hb1⟩;replace HP := zC hb1 HP;replace HZ := zC hb1 HZ;replace HB := zh (HB.o.trans (Below.mono hb1 HB.o.size));clear hb1;have p0 := cz3 HP.o;have z0 := cz3 HZ.o;go_wp2_with fail;go_ret;exact ⟨rfl, HB.o⟩
theorem Zez (l : List Zam) (v v' : Value) (F G : Nat → Prop) (w : World) (hr : Z5 Zao 3 F w l v) (gr : Z5 Zao 3 G w l v') :
  Calls Tryz.prog 39 #[v, v'] w fun e w' => e = .returned (.bool true) ∧ Below w.heap.size w w' := by
 obtain ⟨A, c, rfl, hc, hcm, hel⟩ := hr;obtain ⟨A', c', rfl, hc', hcm', gel⟩ := gr;unfold maxLen at hcm hcm';have HEL := zh hel;have GEL := zh gel;clear hel gel;go_enter Tryz.func39, Tryz.ntmps39;go_wp2_with fail
 go_loopw [5] (fun i wr => ∃ j : Nat, j ≤ l.length ∧ i = .int .i64 j ∧ Below w.heap.size w wr) (fun i _ => l.length - (intOf i).toNat)
 case atStart => exact ⟨0, Nat.zero_le _, rfl, Below.refl _ _⟩
 case round =>
  obtain ⟨j, hj, rfl, hbel⟩ := hrel;have hsz := hbel.size
  by_cases hlt : j < l.length
  ·obtain ⟨b, o, cs, rfl, hF, hbl, hE, hcell⟩ := HEL.o j hlt;obtain ⟨b2, o2, cs2, rfl, hF2, hbl2, hG, hcell2⟩ := GEL.o j hlt;have hE' := hE;have hG' := hG;obtain ⟨aE, rfl, hfacts⟩ := hE;obtain ⟨vfields', rfl, hfacts2⟩ := hG;have hlt' : (j : Int) < l.length := by omega
   have e0 := (hbel.cell (p := ⟨b, o + j * 3 + 0, none⟩) hbl).trans (hcell 0 _ rfl);have e1 := (hbel.cell (p := ⟨b, o + j * 3 + 1, none⟩) hbl).trans (hcell 1 _ rfl);have e2 := (hbel.cell (p := ⟨b, o + j * 3 + 2, none⟩) hbl).trans (hcell 2 _ rfl);have g0 := (hbel.cell (p := ⟨b2, o2 + j * 3 + 0, none⟩) hbl2).trans (hcell2 0 _ rfl);have g1 := (hbel.cell (p := ⟨b2, o2 + j * 3 + 1, none⟩) hbl2).trans (hcell2 1 _ rfl);have g2 := (hbel.cell (p := ⟨b2, o2 + j * 3 + 2, none⟩) hbl2).trans (hcell2 2 _ rfl);simp only [Nat.mul_one, Nat.add_zero] at e0 g0;have HE2 := zh (Z7.keep (G := F) hE' (fun _ h => h) (Zb.later hbel));have HG2 := zh (Z7.keep (G := G) hG' (fun _ h => h) (Zb.later hbel));have hbr : b < wr.heap.size := Nat.lt_of_lt_of_le hbl hsz;have hb2r : b2 < wr.heap.size := Nat.lt_of_lt_of_le hbl2 hsz;clear hE' hG' hcell hcell2 hfacts hfacts2;go_upto_region 6 with (fail);refine Z3 [8, 9] [] (by kernel_rfl) (fun W hW => ?_);have hWL : Za wr W := by rw [hW]; exact (Za.refl _).drew
   have eW0 := (hWL.cell ⟨b, o + j * 3, none⟩ hbr).trans e0;have eW1 := (hWL.cell ⟨b, o + j * 3 + 1, none⟩ hbr).trans e1;have eW2 := (hWL.cell ⟨b, o + j * 3 + 2, none⟩ hbr).trans e2;have gW0 := (hWL.cell ⟨b2, o2 + j * 3, none⟩ hb2r).trans g0;have gW1 := (hWL.cell ⟨b2, o2 + j * 3 + 1, none⟩ hb2r).trans g1;have gW2 := (hWL.cell ⟨b2, o2 + j * 3 + 2, none⟩ hb2r).trans g2;have hbW : b < W.heap.size := Nat.lt_of_lt_of_le hbr hWL.size;have hb2W : b2 < W.heap.size := Nat.lt_of_lt_of_le hb2r hWL.size;clear hW;refine tU 0 17 (v := ?_) rfl rfl (fun x hx => ?_) ?_;rotate_left
   ·go_simp;first|done|with_reducible rfl
   simp only [Act.put, nA, nB, nC];refine tU 1 18 (v := ?_) rfl rfl (fun x hx => ?_) ?_;rotate_left
   ·go_simp;first|done|with_reducible rfl
   simp only [Act.put, nA, nB, nC];refine tU 2 19 (v := ?_) rfl rfl (fun x hx => ?_) ?_;rotate_left
   ·go_simp;first|done|with_reducible rfl|rw[if_neg (by omega)]|rw[if_pos (by omega)]
   simp only [Act.put, nA, nB, nC];refine tU 3 20 (v := ?_) rfl rfl (fun x hx => ?_) ?_;rotate_left
   ·have x0 := (hx.cell ⟨b, o + j * 3, none⟩ hbW).trans eW0; have x1 := (hx.cell ⟨b, o + j * 3 + 1, none⟩ hbW).trans eW1; have x2 := (hx.cell ⟨b, o + j * 3 + 2, none⟩ hbW).trans eW2; have y0 := (hx.cell ⟨b2, o2 + j * 3, none⟩ hb2W).trans gW0; have y1 := (hx.cell ⟨b2, o2 + j * 3 + 1, none⟩ hb2W).trans gW1; have y2 := (hx.cell ⟨b2, o2 + j * 3 + 2, none⟩ hb2W).trans gW2; go_simp;first|done|with_reducible rfl
   simp only [Act.put, nA, nB, nC];refine tU 4 21 (v := ?_) rfl rfl (fun x hx => ?_) ?_;rotate_left
   ·go_simp;first|done|with_reducible rfl
   simp only [Act.put, nA, nB, nC];refine tU 5 22 (v := ?_) rfl rfl (fun x hx => ?_) ?_;rotate_left
   ·go_simp;first|done|with_reducible rfl
   simp only [Act.put, nA, nB, nC];refine tU 6 23 (v := ?_) rfl rfl (fun x hx => ?_) ?_;rotate_left
   ·go_simp;first|done|with_reducible rfl|rw[if_neg (by omega)]|rw[if_pos (by omega)]
   simp only [Act.put, nA, nB, nC];refine tU 7 24 (v := ?_) rfl rfl (fun x hx => ?_) ?_;rotate_left
   ·have x0 := (hx.cell ⟨b, o + j * 3, none⟩ hbW).trans eW0; have x1 := (hx.cell ⟨b, o + j * 3 + 1, none⟩ hbW).trans eW1; have x2 := (hx.cell ⟨b, o + j * 3 + 2, none⟩ hbW).trans eW2; have y0 := (hx.cell ⟨b2, o2 + j * 3, none⟩ hb2W).trans gW0; have y1 := (hx.cell ⟨b2, o2 + j * 3 + 1, none⟩ hb2W).trans gW1; have y2 := (hx.cell ⟨b2, o2 + j * 3 + 2, none⟩ hb2W).trans gW2; go_simp;first|done|with_reducible rfl
   simp only [Act.put, nA, nB, nC];refine Zag [_, _] (by kernel_rfl) rfl rfl ?_;simp only [List.getElem_toArray, List.getElem_cons_succ, List.getElem_cons_zero];clear e0 g0 e1 g1 e2 g2;have HB2 := zh (hbel.trans (Below.mono hWL hbel.size));have HE3 := zh (Z7.keep (G := F) HE2.o (fun _ h => h) (Zb.later hWL));have HG3 := zh (Z7.keep (G := G) HG2.o (fun _ h => h) (Zb.later hWL));clear hWL eW0 gW0 eW1 gW1 eW2 gW2;go_wp2_with fail;refine (Zir l[j] _ _ F G W HE3.o HG3.o).mono ?_;rintro e w4 ⟨rfl, hb4⟩;have hb5 := HB2.o.trans (Below.mono hb4 HB2.o.size);clear hb4;go_wp2_with fail
   go_roundw
   case rel => exact ⟨j + 1, by omega, by go_num, hb5⟩
   case measure => simp [intOf]; omega
  ·have hjl : j = l.length := by omega
   go_wp2_with fail;go_ret;exact ⟨rfl, hbel⟩
def Zlg (K : Za6 Zd) : Prop := ∀ (l : List Zd) (v v' : Value) (F G : Nat → Prop) (w : World) (hr : Z5 K 6 F w l v) (gr : Z5 K 6 G w l v'),
 Calls Tryz.prog 169 #[v, v'] w fun e w' => e = .returned (.bool true) ∧ Below w.heap.size w w'
theorem Zjm (hK : Zb2 K 6) (hkid : Zlg K) (r : Zd) (cs cs' : List Value) (F G : Nat → Prop) (w : World) (h : (Zdf K) F w r cs) (g : (Zdf K) G w r cs') :
  Calls Tryz.prog 141 #[.agg cs.toArray, .agg cs'.toArray] w fun e w' => e = .returned (.bool true) ∧ Below w.heap.size w w' := by
 obtain ⟨vkids, rfl, aH, hop, aI, aM, aJ, hkids⟩ := h;obtain ⟨vkids', rfl, _, _, _, _, _, gkids⟩ := g;have ytext : (r.text.toList == r.text.toList) = true := by simp
 clear aH;clear hop;clear aI;clear aM;clear aJ;have Hkids := zh hkids;have Gkids := zh gkids;clear hkids gkids;have HP := zh ((Za.refl _).alloc (.cells #[.int .i64 r.kind, .int .i64 r.op, .int .i64 r.aB, .int .i64 r.line, .string r.text, vkids'] 68) |>.block _ (by simp) |>.trans (heap_alloc_new w (.cells #[.int .i64 r.kind, .int .i64 r.op, .int .i64 r.aB, .int .i64 r.line, .string r.text, vkids] 68)));have HZ := zh (heap_alloc_new (w.alloc (.cells #[.int .i64 r.kind, .int .i64 r.op, .int .i64 r.aB, .int .i64 r.line, .string r.text, vkids] 68)) (.cells #[.int .i64 r.kind, .int .i64 r.op, .int .i64 r.aB, .int .i64 r.line, .string r.text, vkids'] 68));simp only [Zbj] at HZ;have HB := zh (((Below.refl w.heap.size w).alloc (Nat.le_refl _) (.cells #[.int .i64 r.kind, .int .i64 r.op, .int .i64 r.aB, .int .i64 r.line, .string r.text, vkids] 68)).alloc (by simp) (.cells #[.int .i64 r.kind, .int .i64 r.op, .int .i64 r.aB, .int .i64 r.line, .string r.text, vkids'] 68));go_enter Tryz.func141, Tryz.ntmps141;go_wp2_with fail;refine (hkid r.kids vkids vkids' F G _ (Hkids.o.later hK HB.o) (Gkids.o.later hK HB.o)).mono ?_;rintro e w5 ⟨rfl, hb5⟩;replace HP := zC hb5 HP;replace HZ := zC hb5 HZ;replace HB := zh (HB.o.trans (Below.mono hb5 HB.o.size));clear hb5;have p0 := cz6 HP.o;have z0 := cz6 HZ.o;go_wp2_with fail;go_ret;exact ⟨rfl, HB.o⟩
theorem Zm2 (hK : Zb2 K 6) (hkid : Zlg K) : Zlg (Zdf K) := by
 intro l v v' F G w hr gr;obtain ⟨A, c, rfl, hc, hcm, hel⟩ := hr;obtain ⟨A', c', rfl, hc', hcm', gel⟩ := gr;unfold maxLen at hcm hcm';have HEL := zh hel;have GEL := zh gel;clear hel gel;go_enter Tryz.func169, Tryz.ntmps169;go_wp2_with fail
 go_loopw [5] (fun i wr => ∃ j : Nat, j ≤ l.length ∧ i = .int .i64 j ∧ Below w.heap.size w wr) (fun i _ => l.length - (intOf i).toNat)
 case atStart => exact ⟨0, Nat.zero_le _, rfl, Below.refl _ _⟩
 case round =>
  obtain ⟨j, hj, rfl, hbel⟩ := hrel;have hsz := hbel.size
  by_cases hlt : j < l.length
  ·obtain ⟨b, o, cs, rfl, hF, hbl, hE, hcell⟩ := HEL.o j hlt;obtain ⟨b2, o2, cs2, rfl, hF2, hbl2, hG, hcell2⟩ := GEL.o j hlt;have hE' := hE;have hG' := hG;obtain ⟨vkids, rfl, hfacts⟩ := hE;obtain ⟨vkids', rfl, hfacts2⟩ := hG;have hlt' : (j : Int) < l.length := by omega
   have e0 := (hbel.cell (p := ⟨b, o + j * 6 + 0, none⟩) hbl).trans (hcell 0 _ rfl);have e1 := (hbel.cell (p := ⟨b, o + j * 6 + 1, none⟩) hbl).trans (hcell 1 _ rfl);have e2 := (hbel.cell (p := ⟨b, o + j * 6 + 2, none⟩) hbl).trans (hcell 2 _ rfl);have e3 := (hbel.cell (p := ⟨b, o + j * 6 + 3, none⟩) hbl).trans (hcell 3 _ rfl);have e4 := (hbel.cell (p := ⟨b, o + j * 6 + 4, none⟩) hbl).trans (hcell 4 _ rfl);have e5 := (hbel.cell (p := ⟨b, o + j * 6 + 5, none⟩) hbl).trans (hcell 5 _ rfl);have g0 := (hbel.cell (p := ⟨b2, o2 + j * 6 + 0, none⟩) hbl2).trans (hcell2 0 _ rfl);have g1 := (hbel.cell (p := ⟨b2, o2 + j * 6 + 1, none⟩) hbl2).trans (hcell2 1 _ rfl);have g2 := (hbel.cell (p := ⟨b2, o2 + j * 6 + 2, none⟩) hbl2).trans (hcell2 2 _ rfl);have g3 := (hbel.cell (p := ⟨b2, o2 + j * 6 + 3, none⟩) hbl2).trans (hcell2 3 _ rfl);have g4 := (hbel.cell (p := ⟨b2, o2 + j * 6 + 4, none⟩) hbl2).trans (hcell2 4 _ rfl);have g5 := (hbel.cell (p := ⟨b2, o2 + j * 6 + 5, none⟩) hbl2).trans (hcell2 5 _ rfl);simp only [Nat.mul_one, Nat.add_zero] at e0 g0;have HE2 := zh ((Zcl hK).keep (G := F) hE' (fun _ h => h) (Zb.later hbel));have HG2 := zh ((Zcl hK).keep (G := G) hG' (fun _ h => h) (Zb.later hbel));have hbr : b < wr.heap.size := Nat.lt_of_lt_of_le hbl hsz;have hb2r : b2 < wr.heap.size := Nat.lt_of_lt_of_le hbl2 hsz;clear hE' hG' hcell hcell2 hfacts hfacts2;go_upto_region 6 with (fail);refine Z3 [8, 9] [] (by kernel_rfl) (fun W hW => ?_);have hWL : Za wr W := by rw [hW]; exact (Za.refl _).drew
   have eW0 := (hWL.cell ⟨b, o + j * 6, none⟩ hbr).trans e0;have eW1 := (hWL.cell ⟨b, o + j * 6 + 1, none⟩ hbr).trans e1;have eW2 := (hWL.cell ⟨b, o + j * 6 + 2, none⟩ hbr).trans e2;have eW3 := (hWL.cell ⟨b, o + j * 6 + 3, none⟩ hbr).trans e3;have eW4 := (hWL.cell ⟨b, o + j * 6 + 4, none⟩ hbr).trans e4;have eW5 := (hWL.cell ⟨b, o + j * 6 + 5, none⟩ hbr).trans e5;have gW0 := (hWL.cell ⟨b2, o2 + j * 6, none⟩ hb2r).trans g0;have gW1 := (hWL.cell ⟨b2, o2 + j * 6 + 1, none⟩ hb2r).trans g1;have gW2 := (hWL.cell ⟨b2, o2 + j * 6 + 2, none⟩ hb2r).trans g2;have gW3 := (hWL.cell ⟨b2, o2 + j * 6 + 3, none⟩ hb2r).trans g3;have gW4 := (hWL.cell ⟨b2, o2 + j * 6 + 4, none⟩ hb2r).trans g4;have gW5 := (hWL.cell ⟨b2, o2 + j * 6 + 5, none⟩ hb2r).trans g5;have hbW : b < W.heap.size := Nat.lt_of_lt_of_le hbr hWL.size;have hb2W : b2 < W.heap.size := Nat.lt_of_lt_of_le hb2r hWL.size;clear hW;refine tU 0 17 (v := ?_) rfl rfl (fun x hx => ?_) ?_;rotate_left
   ·go_simp;first|done|with_reducible rfl
   simp only [Act.put, nA, nB, nC];refine tU 1 18 (v := ?_) rfl rfl (fun x hx => ?_) ?_;rotate_left
   ·go_simp;first|done|with_reducible rfl
   simp only [Act.put, nA, nB, nC];refine tU 2 19 (v := ?_) rfl rfl (fun x hx => ?_) ?_;rotate_left
   ·go_simp;first|done|with_reducible rfl|rw[if_neg (by omega)]|rw[if_pos (by omega)]
   simp only [Act.put, nA, nB, nC];refine tU 3 20 (v := ?_) rfl rfl (fun x hx => ?_) ?_;rotate_left
   ·have x0 := (hx.cell ⟨b, o + j * 6, none⟩ hbW).trans eW0; have x1 := (hx.cell ⟨b, o + j * 6 + 1, none⟩ hbW).trans eW1; have x2 := (hx.cell ⟨b, o + j * 6 + 2, none⟩ hbW).trans eW2; have x3 := (hx.cell ⟨b, o + j * 6 + 3, none⟩ hbW).trans eW3; have x4 := (hx.cell ⟨b, o + j * 6 + 4, none⟩ hbW).trans eW4; have x5 := (hx.cell ⟨b, o + j * 6 + 5, none⟩ hbW).trans eW5; have y0 := (hx.cell ⟨b2, o2 + j * 6, none⟩ hb2W).trans gW0; have y1 := (hx.cell ⟨b2, o2 + j * 6 + 1, none⟩ hb2W).trans gW1; have y2 := (hx.cell ⟨b2, o2 + j * 6 + 2, none⟩ hb2W).trans gW2; have y3 := (hx.cell ⟨b2, o2 + j * 6 + 3, none⟩ hb2W).trans gW3; have y4 := (hx.cell ⟨b2, o2 + j * 6 + 4, none⟩ hb2W).trans gW4; have y5 := (hx.cell ⟨b2, o2 + j * 6 + 5, none⟩ hb2W).trans gW5; go_simp;first|done|with_reducible rfl
   simp only [Act.put, nA, nB, nC];refine tU 4 21 (v := ?_) rfl rfl (fun x hx => ?_) ?_;rotate_left
   ·go_simp;first|done|with_reducible rfl
   simp only [Act.put, nA, nB, nC];refine tU 5 22 (v := ?_) rfl rfl (fun x hx => ?_) ?_;rotate_left
   ·go_simp;first|done|with_reducible rfl
   simp only [Act.put, nA, nB, nC];refine tU 6 23 (v := ?_) rfl rfl (fun x hx => ?_) ?_;rotate_left
   ·go_simp;first|done|with_reducible rfl|rw[if_neg (by omega)]|rw[if_pos (by omega)]
   simp only [Act.put, nA, nB, nC];refine tU 7 24 (v := ?_) rfl rfl (fun x hx => ?_) ?_;rotate_left
   ·have x0 := (hx.cell ⟨b, o + j * 6, none⟩ hbW).trans eW0; have x1 := (hx.cell ⟨b, o + j * 6 + 1, none⟩ hbW).trans eW1; have x2 := (hx.cell ⟨b, o + j * 6 + 2, none⟩ hbW).trans eW2; have x3 := (hx.cell ⟨b, o + j * 6 + 3, none⟩ hbW).trans eW3; have x4 := (hx.cell ⟨b, o + j * 6 + 4, none⟩ hbW).trans eW4; have x5 := (hx.cell ⟨b, o + j * 6 + 5, none⟩ hbW).trans eW5; have y0 := (hx.cell ⟨b2, o2 + j * 6, none⟩ hb2W).trans gW0; have y1 := (hx.cell ⟨b2, o2 + j * 6 + 1, none⟩ hb2W).trans gW1; have y2 := (hx.cell ⟨b2, o2 + j * 6 + 2, none⟩ hb2W).trans gW2; have y3 := (hx.cell ⟨b2, o2 + j * 6 + 3, none⟩ hb2W).trans gW3; have y4 := (hx.cell ⟨b2, o2 + j * 6 + 4, none⟩ hb2W).trans gW4; have y5 := (hx.cell ⟨b2, o2 + j * 6 + 5, none⟩ hb2W).trans gW5; go_simp;first|done|with_reducible rfl
   simp only [Act.put, nA, nB, nC];refine Zag [_, _] (by kernel_rfl) rfl rfl ?_;simp only [List.getElem_toArray, List.getElem_cons_succ, List.getElem_cons_zero];clear e0 g0 e1 g1 e2 g2 e3 g3 e4 g4 e5 g5;have HB2 := zh (hbel.trans (Below.mono hWL hbel.size));have HE3 := zh ((Zcl hK).keep (G := F) HE2.o (fun _ h => h) (Zb.later hWL));have HG3 := zh ((Zcl hK).keep (G := G) HG2.o (fun _ h => h) (Zb.later hWL));clear hWL eW0 gW0 eW1 gW1 eW2 gW2 eW3 gW3 eW4 gW4 eW5 gW5;go_wp2_with fail;refine (Zjm hK hkid l[j] _ _ F G W HE3.o HG3.o).mono ?_;rintro e w4 ⟨rfl, hb4⟩;have hb5 := HB2.o.trans (Below.mono hb4 HB2.o.size);clear hb4;go_wp2_with fail
   go_roundw
   case rel => exact ⟨j + 1, by omega, by go_num, hb5⟩
   case measure => simp [intOf]; omega
  ·have hjl : j = l.length := by omega
   go_wp2_with fail;go_ret;exact ⟨rfl, hbel⟩
theorem Zjn : ∀ n, Zlg (Zds n)
 | 0 => by
  intro l v v' F G w hr gr;obtain ⟨A, c, rfl, hc, hcm, hel⟩ := hr;obtain ⟨A', c', rfl, hc', hcm', gel⟩ := gr;unfold maxLen at hcm hcm';have h0 : l.length = 0 := by
   rcases Nat.eq_zero_or_pos l.length with h | h
   ·exact h
   ·obtain ⟨b, o, cs, e, hF, hbl, hE, hcell⟩ := hel 0 h;exact hE.elim
  obtain rfl : l = [] := List.eq_nil_of_length_eq_zero h0;clear hel gel h0;go_enter Tryz.func169, Tryz.ntmps169;go_wp2_with fail;refine wp_loop_rounds 1 ?_;rw [rounds_succ];go_wp2_with fail;go_ret;exact ⟨rfl, Below.refl _ _⟩
 | n + 1 => Zm2 (Zad n) (Zjn n)
theorem Zlh (hK : Zb2 K 6) (hkid : Zlg K) (r : Zaw) (cs cs' : List Value) (F G : Nat → Prop) (w : World) (h : (Zby K) F w r cs) (g : (Zby K) G w r cs') :
  Calls Tryz.prog 86 #[.agg cs.toArray, .agg cs'.toArray] w fun e w' => e = .returned (.bool true) ∧ Below w.heap.size w w' := by
 obtain ⟨vslots, vbodykids, rfl, aK, hparams, hslots, hbody_kind, hbody_op, hbody_number, hbody_line, hbody_text, hbody_kids⟩ := h;obtain ⟨vslots', vbodykids', rfl, _, _, gslots, gbody_kind, gbody_op, gbody_number, gbody_line, gbody_text, gbody_kids⟩ := g;have yname : (r.name.toList == r.name.toList) = true := by simp
 have Hbody := zh (show (Zdf K) F w r.body [.int .i64 r.body.kind, .int .i64 r.body.op, .int .i64 r.body.aB, .int .i64 r.body.line, .string r.body.text, vbodykids] from ⟨vbodykids, rfl, hbody_kind, hbody_op, hbody_number, hbody_line, hbody_text, hbody_kids⟩);have Gbody := zh (show (Zdf K) G w r.body [.int .i64 r.body.kind, .int .i64 r.body.op, .int .i64 r.body.aB, .int .i64 r.body.line, .string r.body.text, vbodykids'] from ⟨vbodykids', rfl, gbody_kind, gbody_op, gbody_number, gbody_line, gbody_text, gbody_kids⟩);clear aK;clear hparams;have Hslots := zh hslots;have Gslots := zh gslots;clear hslots gslots;clear hbody_kind gbody_kind;clear hbody_op gbody_op;clear hbody_number gbody_number;clear hbody_line gbody_line;clear hbody_text gbody_text;clear hbody_kids gbody_kids;have HP := zh ((Za.refl _).alloc (.cells #[.string r.name, .int .i64 r.params, vslots', .int .i64 r.body.kind, .int .i64 r.body.op, .int .i64 r.body.aB, .int .i64 r.body.line, .string r.body.text, vbodykids'] 70) |>.block _ (by simp) |>.trans (heap_alloc_new w (.cells #[.string r.name, .int .i64 r.params, vslots, .int .i64 r.body.kind, .int .i64 r.body.op, .int .i64 r.body.aB, .int .i64 r.body.line, .string r.body.text, vbodykids] 70)));have HZ := zh (heap_alloc_new (w.alloc (.cells #[.string r.name, .int .i64 r.params, vslots, .int .i64 r.body.kind, .int .i64 r.body.op, .int .i64 r.body.aB, .int .i64 r.body.line, .string r.body.text, vbodykids] 70)) (.cells #[.string r.name, .int .i64 r.params, vslots', .int .i64 r.body.kind, .int .i64 r.body.op, .int .i64 r.body.aB, .int .i64 r.body.line, .string r.body.text, vbodykids'] 70))
 simp only [Zbj] at HZ;have HB := zh (((Below.refl w.heap.size w).alloc (Nat.le_refl _) (.cells #[.string r.name, .int .i64 r.params, vslots, .int .i64 r.body.kind, .int .i64 r.body.op, .int .i64 r.body.aB, .int .i64 r.body.line, .string r.body.text, vbodykids] 70)).alloc (by simp) (.cells #[.string r.name, .int .i64 r.params, vslots', .int .i64 r.body.kind, .int .i64 r.body.op, .int .i64 r.body.aB, .int .i64 r.body.line, .string r.body.text, vbodykids'] 70));go_enter Tryz.func86, Tryz.ntmps86;go_wp2_with fail;refine (Zdq r.slots vslots vslots' F G _ (Hslots.o.later Zt HB.o) (Gslots.o.later Zt HB.o)).mono ?_;rintro e w2 ⟨rfl, hb2⟩;replace HP := zC hb2 HP;replace HZ := zC hb2 HZ;replace HB := zh (HB.o.trans (Below.mono hb2 HB.o.size));clear hb2;have p0 := cz9 HP.o;have z0 := cz9 HZ.o;go_wp2_with fail;refine (Zjm hK hkid r.body _ _ F G _ ((Zcl hK).keep Hbody.o (fun _ h => h) (Zb.later HB.o)) ((Zcl hK).keep Gbody.o (fun _ h => h) (Zb.later HB.o))).mono ?_;rintro e w3 ⟨rfl, hb3⟩;replace HP := zC hb3 HP;replace HZ := zC hb3 HZ;replace HB := zh (HB.o.trans (Below.mono hb3 HB.o.size));clear hb3;clear p0;have p0 := cz9 HP.o;clear z0;have z0 := cz9 HZ.o;go_wp2_with fail;go_ret;exact ⟨rfl, HB.o⟩
theorem Zj1 (hK : Zb2 K 6) (hkid : Zlg K) (l : List Zaw) (v v' : Value) (F G : Nat → Prop) (w : World) (hr : Z5 (Zby K) 9 F w l v) (gr : Z5 (Zby K) 9 G w l v') :
  Calls Tryz.prog 42 #[v, v'] w fun e w' => e = .returned (.bool true) ∧ Below w.heap.size w w' := by
 obtain ⟨A, c, rfl, hc, hcm, hel⟩ := hr;obtain ⟨A', c', rfl, hc', hcm', gel⟩ := gr;unfold maxLen at hcm hcm';have HEL := zh hel;have GEL := zh gel;clear hel gel;go_enter Tryz.func42, Tryz.ntmps42;go_wp2_with fail
 go_loopw [5] (fun i wr => ∃ j : Nat, j ≤ l.length ∧ i = .int .i64 j ∧ Below w.heap.size w wr) (fun i _ => l.length - (intOf i).toNat)
 case atStart => exact ⟨0, Nat.zero_le _, rfl, Below.refl _ _⟩
 case round =>
  obtain ⟨j, hj, rfl, hbel⟩ := hrel;have hsz := hbel.size
  by_cases hlt : j < l.length
  ·obtain ⟨b, o, cs, rfl, hF, hbl, hE, hcell⟩ := HEL.o j hlt;obtain ⟨b2, o2, cs2, rfl, hF2, hbl2, hG, hcell2⟩ := GEL.o j hlt;have hE' := hE;have hG' := hG;obtain ⟨vslots, vbodykids, rfl, hfacts⟩ := hE;obtain ⟨vslots', vbodykids', rfl, hfacts2⟩ := hG;have hlt' : (j : Int) < l.length := by omega
   have e0 := (hbel.cell (p := ⟨b, o + j * 9 + 0, none⟩) hbl).trans (hcell 0 _ rfl);have e1 := (hbel.cell (p := ⟨b, o + j * 9 + 1, none⟩) hbl).trans (hcell 1 _ rfl);have e2 := (hbel.cell (p := ⟨b, o + j * 9 + 2, none⟩) hbl).trans (hcell 2 _ rfl);have e3 := (hbel.cell (p := ⟨b, o + j * 9 + 3, none⟩) hbl).trans (hcell 3 _ rfl);have e4 := (hbel.cell (p := ⟨b, o + j * 9 + 4, none⟩) hbl).trans (hcell 4 _ rfl);have e5 := (hbel.cell (p := ⟨b, o + j * 9 + 5, none⟩) hbl).trans (hcell 5 _ rfl);have e6 := (hbel.cell (p := ⟨b, o + j * 9 + 6, none⟩) hbl).trans (hcell 6 _ rfl);have e7 := (hbel.cell (p := ⟨b, o + j * 9 + 7, none⟩) hbl).trans (hcell 7 _ rfl);have e8 := (hbel.cell (p := ⟨b, o + j * 9 + 8, none⟩) hbl).trans (hcell 8 _ rfl);have g0 := (hbel.cell (p := ⟨b2, o2 + j * 9 + 0, none⟩) hbl2).trans (hcell2 0 _ rfl);have g1 := (hbel.cell (p := ⟨b2, o2 + j * 9 + 1, none⟩) hbl2).trans (hcell2 1 _ rfl);have g2 := (hbel.cell (p := ⟨b2, o2 + j * 9 + 2, none⟩) hbl2).trans (hcell2 2 _ rfl);have g3 := (hbel.cell (p := ⟨b2, o2 + j * 9 + 3, none⟩) hbl2).trans (hcell2 3 _ rfl);have g4 := (hbel.cell (p := ⟨b2, o2 + j * 9 + 4, none⟩) hbl2).trans (hcell2 4 _ rfl);have g5 := (hbel.cell (p := ⟨b2, o2 + j * 9 + 5, none⟩) hbl2).trans (hcell2 5 _ rfl);have g6 := (hbel.cell (p := ⟨b2, o2 + j * 9 + 6, none⟩) hbl2).trans (hcell2 6 _ rfl);have g7 := (hbel.cell (p := ⟨b2, o2 + j * 9 + 7, none⟩) hbl2).trans (hcell2 7 _ rfl);have g8 := (hbel.cell (p := ⟨b2, o2 + j * 9 + 8, none⟩) hbl2).trans (hcell2 8 _ rfl);simp only [Nat.mul_one, Nat.add_zero] at e0 g0
   have HE2 := zh ((Za9 hK).keep (G := F) hE' (fun _ h => h) (Zb.later hbel));have HG2 := zh ((Za9 hK).keep (G := G) hG' (fun _ h => h) (Zb.later hbel));have hbr : b < wr.heap.size := Nat.lt_of_lt_of_le hbl hsz;have hb2r : b2 < wr.heap.size := Nat.lt_of_lt_of_le hbl2 hsz;clear hE' hG' hcell hcell2 hfacts hfacts2;go_upto_region 6 with (fail);refine Z3 [8, 9] [] (by kernel_rfl) (fun W hW => ?_);have hWL : Za wr W := by rw [hW]; exact (Za.refl _).drew
   have eW0 := (hWL.cell ⟨b, o + j * 9, none⟩ hbr).trans e0;have eW1 := (hWL.cell ⟨b, o + j * 9 + 1, none⟩ hbr).trans e1;have eW2 := (hWL.cell ⟨b, o + j * 9 + 2, none⟩ hbr).trans e2;have eW3 := (hWL.cell ⟨b, o + j * 9 + 3, none⟩ hbr).trans e3;have eW4 := (hWL.cell ⟨b, o + j * 9 + 4, none⟩ hbr).trans e4;have eW5 := (hWL.cell ⟨b, o + j * 9 + 5, none⟩ hbr).trans e5;have eW6 := (hWL.cell ⟨b, o + j * 9 + 6, none⟩ hbr).trans e6;have eW7 := (hWL.cell ⟨b, o + j * 9 + 7, none⟩ hbr).trans e7;have eW8 := (hWL.cell ⟨b, o + j * 9 + 8, none⟩ hbr).trans e8;have gW0 := (hWL.cell ⟨b2, o2 + j * 9, none⟩ hb2r).trans g0;have gW1 := (hWL.cell ⟨b2, o2 + j * 9 + 1, none⟩ hb2r).trans g1;have gW2 := (hWL.cell ⟨b2, o2 + j * 9 + 2, none⟩ hb2r).trans g2;have gW3 := (hWL.cell ⟨b2, o2 + j * 9 + 3, none⟩ hb2r).trans g3;have gW4 := (hWL.cell ⟨b2, o2 + j * 9 + 4, none⟩ hb2r).trans g4;have gW5 := (hWL.cell ⟨b2, o2 + j * 9 + 5, none⟩ hb2r).trans g5;have gW6 := (hWL.cell ⟨b2, o2 + j * 9 + 6, none⟩ hb2r).trans g6;have gW7 := (hWL.cell ⟨b2, o2 + j * 9 + 7, none⟩ hb2r).trans g7;have gW8 := (hWL.cell ⟨b2, o2 + j * 9 + 8, none⟩ hb2r).trans g8;have hbW : b < W.heap.size := Nat.lt_of_lt_of_le hbr hWL.size;have hb2W : b2 < W.heap.size := Nat.lt_of_lt_of_le hb2r hWL.size;clear hW;refine tU 0 17 (v := ?_) rfl rfl (fun x hx => ?_) ?_;rotate_left
   ·go_simp;first|done|with_reducible rfl
   simp only [Act.put, nA, nB, nC];refine tU 1 18 (v := ?_) rfl rfl (fun x hx => ?_) ?_;rotate_left
   ·go_simp;first|done|with_reducible rfl
   simp only [Act.put, nA, nB, nC];refine tU 2 19 (v := ?_) rfl rfl (fun x hx => ?_) ?_;rotate_left
   ·go_simp;first|done|with_reducible rfl|rw[if_neg (by omega)]|rw[if_pos (by omega)]
   simp only [Act.put, nA, nB, nC];refine tU 3 20 (v := ?_) rfl rfl (fun x hx => ?_) ?_;rotate_left
   ·have x0 := (hx.cell ⟨b, o + j * 9, none⟩ hbW).trans eW0; have x1 := (hx.cell ⟨b, o + j * 9 + 1, none⟩ hbW).trans eW1; have x2 := (hx.cell ⟨b, o + j * 9 + 2, none⟩ hbW).trans eW2; have x3 := (hx.cell ⟨b, o + j * 9 + 3, none⟩ hbW).trans eW3; have x4 := (hx.cell ⟨b, o + j * 9 + 4, none⟩ hbW).trans eW4; have x5 := (hx.cell ⟨b, o + j * 9 + 5, none⟩ hbW).trans eW5; have x6 := (hx.cell ⟨b, o + j * 9 + 6, none⟩ hbW).trans eW6; have x7 := (hx.cell ⟨b, o + j * 9 + 7, none⟩ hbW).trans eW7; have x8 := (hx.cell ⟨b, o + j * 9 + 8, none⟩ hbW).trans eW8; have y0 := (hx.cell ⟨b2, o2 + j * 9, none⟩ hb2W).trans gW0; have y1 := (hx.cell ⟨b2, o2 + j * 9 + 1, none⟩ hb2W).trans gW1; have y2 := (hx.cell ⟨b2, o2 + j * 9 + 2, none⟩ hb2W).trans gW2; have y3 := (hx.cell ⟨b2, o2 + j * 9 + 3, none⟩ hb2W).trans gW3; have y4 := (hx.cell ⟨b2, o2 + j * 9 + 4, none⟩ hb2W).trans gW4; have y5 := (hx.cell ⟨b2, o2 + j * 9 + 5, none⟩ hb2W).trans gW5; have y6 := (hx.cell ⟨b2, o2 + j * 9 + 6, none⟩ hb2W).trans gW6; have y7 := (hx.cell ⟨b2, o2 + j * 9 + 7, none⟩ hb2W).trans gW7; have y8 := (hx.cell ⟨b2, o2 + j * 9 + 8, none⟩ hb2W).trans gW8; go_simp;first|done|with_reducible rfl
   simp only [Act.put, nA, nB, nC];refine tU 4 21 (v := ?_) rfl rfl (fun x hx => ?_) ?_;rotate_left
   ·go_simp;first|done|with_reducible rfl
   simp only [Act.put, nA, nB, nC];refine tU 5 22 (v := ?_) rfl rfl (fun x hx => ?_) ?_;rotate_left
   ·go_simp;first|done|with_reducible rfl
   simp only [Act.put, nA, nB, nC];refine tU 6 23 (v := ?_) rfl rfl (fun x hx => ?_) ?_;rotate_left
   ·go_simp;first|done|with_reducible rfl|rw[if_neg (by omega)]|rw[if_pos (by omega)]
   simp only [Act.put, nA, nB, nC];refine tU 7 24 (v := ?_) rfl rfl (fun x hx => ?_) ?_;rotate_left
   ·have x0 := (hx.cell ⟨b, o + j * 9, none⟩ hbW).trans eW0; have x1 := (hx.cell ⟨b, o + j * 9 + 1, none⟩ hbW).trans eW1; have x2 := (hx.cell ⟨b, o + j * 9 + 2, none⟩ hbW).trans eW2; have x3 := (hx.cell ⟨b, o + j * 9 + 3, none⟩ hbW).trans eW3; have x4 := (hx.cell ⟨b, o + j * 9 + 4, none⟩ hbW).trans eW4; have x5 := (hx.cell ⟨b, o + j * 9 + 5, none⟩ hbW).trans eW5; have x6 := (hx.cell ⟨b, o + j * 9 + 6, none⟩ hbW).trans eW6; have x7 := (hx.cell ⟨b, o + j * 9 + 7, none⟩ hbW).trans eW7; have x8 := (hx.cell ⟨b, o + j * 9 + 8, none⟩ hbW).trans eW8; have y0 := (hx.cell ⟨b2, o2 + j * 9, none⟩ hb2W).trans gW0; have y1 := (hx.cell ⟨b2, o2 + j * 9 + 1, none⟩ hb2W).trans gW1; have y2 := (hx.cell ⟨b2, o2 + j * 9 + 2, none⟩ hb2W).trans gW2; have y3 := (hx.cell ⟨b2, o2 + j * 9 + 3, none⟩ hb2W).trans gW3; have y4 := (hx.cell ⟨b2, o2 + j * 9 + 4, none⟩ hb2W).trans gW4; have y5 := (hx.cell ⟨b2, o2 + j * 9 + 5, none⟩ hb2W).trans gW5; have y6 := (hx.cell ⟨b2, o2 + j * 9 + 6, none⟩ hb2W).trans gW6; have y7 := (hx.cell ⟨b2, o2 + j * 9 + 7, none⟩ hb2W).trans gW7; have y8 := (hx.cell ⟨b2, o2 + j * 9 + 8, none⟩ hb2W).trans gW8; go_simp;first|done|with_reducible rfl
   simp only [Act.put, nA, nB, nC];refine Zag [_, _] (by kernel_rfl) rfl rfl ?_;simp only [List.getElem_toArray, List.getElem_cons_succ, List.getElem_cons_zero];clear e0 g0 e1 g1 e2 g2 e3 g3 e4 g4 e5 g5 e6 g6 e7 g7 e8 g8;have HB2 := zh (hbel.trans (Below.mono hWL hbel.size));have HE3 := zh ((Za9 hK).keep (G := F) HE2.o (fun _ h => h) (Zb.later hWL));have HG3 := zh ((Za9 hK).keep (G := G) HG2.o (fun _ h => h) (Zb.later hWL));clear hWL eW0 gW0 eW1 gW1 eW2 gW2 eW3 gW3 eW4 gW4 eW5 gW5 eW6 gW6 eW7 gW7 eW8 gW8;go_wp2_with fail;refine (Zlh hK hkid l[j] _ _ F G W HE3.o HG3.o).mono ?_;rintro e w4 ⟨rfl, hb4⟩;have hb5 := HB2.o.trans (Below.mono hb4 HB2.o.size);clear hb4;go_wp2_with fail
   go_roundw
   case rel => exact ⟨j + 1, by omega, by go_num, hb5⟩
   case measure => simp [intOf]; omega
  ·have hjl : j = l.length := by omega
   go_wp2_with fail;go_ret;exact ⟨rfl, hbel⟩
theorem Zli (hK : Zb2 K 6) (hkid : Zlg K) (r : Zu) (cs cs' : List Value) (F G : Nat → Prop) (w : World) (h : (Zdj K) F w r cs) (g : (Zdj K) G w r cs') :
  Calls Tryz.prog 10 #[.agg cs.toArray, .agg cs'.toArray] w fun e w' => e = .returned (.bool true) ∧ Below w.heap.size w w' := by
 obtain ⟨vroutines, aC, aD, rfl, hroutines, aF, aG, hmain⟩ := h;obtain ⟨vroutines', vrecords', vglobals', rfl, groutines, aN, aO, _⟩ := g;have Hroutines := zh hroutines;have Groutines := zh groutines;clear hroutines groutines;have Hrecords := zh aF;have Grecords := zh aN;clear aF aN;have Hglobals := zh aG;have Gglobals := zh aO;clear aG aO;clear hmain;have HP := zh ((Za.refl _).alloc (.cells #[vroutines', vrecords', vglobals', .int .i64 r.main] 37) |>.block _ (by simp) |>.trans (heap_alloc_new w (.cells #[vroutines, aC, aD, .int .i64 r.main] 37)));have HZ := zh (heap_alloc_new (w.alloc (.cells #[vroutines, aC, aD, .int .i64 r.main] 37)) (.cells #[vroutines', vrecords', vglobals', .int .i64 r.main] 37));simp only [Zbj] at HZ;have HB := zh (((Below.refl w.heap.size w).alloc (Nat.le_refl _) (.cells #[vroutines, aC, aD, .int .i64 r.main] 37)).alloc (by simp) (.cells #[vroutines', vrecords', vglobals', .int .i64 r.main] 37));go_enter Tryz.func10, Tryz.ntmps10;go_wp2_with fail;refine (Zj1 hK hkid r.routines vroutines vroutines' F G _ (Hroutines.o.later (Za9 hK) HB.o) (Groutines.o.later (Za9 hK) HB.o)).mono ?_;rintro e w0 ⟨rfl, hb0⟩;replace HP := zC hb0 HP;replace HZ := zC hb0 HZ;replace HB := zh (HB.o.trans (Below.mono hb0 HB.o.size));clear hb0;have p0 := cz4 HP.o;have z0 := cz4 HZ.o;go_wp2_with fail
 refine (Zez r.aA aC vrecords' F G _ (Hrecords.o.later Z7 HB.o) (Grecords.o.later Z7 HB.o)).mono ?_;rintro e w1 ⟨rfl, hb1⟩;replace HP := zC hb1 HP;replace HZ := zC hb1 HZ;replace HB := zh (HB.o.trans (Below.mono hb1 HB.o.size));clear hb1;clear p0;have p0 := cz4 HP.o;clear z0;have z0 := cz4 HZ.o;go_wp2_with fail;refine (Zdq r.globals aD vglobals' F G _ (Hglobals.o.later Zt HB.o) (Gglobals.o.later Zt HB.o)).mono ?_;rintro e w2 ⟨rfl, hb2⟩;replace HP := zC hb2 HP;replace HZ := zC hb2 HZ;replace HB := zh (HB.o.trans (Below.mono hb2 HB.o.size));clear hb2;clear p0;have p0 := cz4 HP.o;clear z0;have z0 := cz4 HZ.o;go_wp2_with fail;go_ret;exact ⟨rfl, HB.o⟩
theorem Zh1 (r : Zar) (cs cs' : List Value) (F G : Nat → Prop) (w : World) (h : Zaj F w r cs) (g : Zaj G w r cs') :
  Calls Tryz.prog 83 #[.agg cs.toArray, .agg cs'.toArray] w fun e w' => e = .returned (.bool true) ∧ Below w.heap.size w w' := by
 obtain ⟨rfl, aK, hparams, hslots, hentry⟩ := h;obtain ⟨rfl, _, _, _, _⟩ := g;have yname : (r.name.toList == r.name.toList) = true := by simp
 clear aK hparams hslots hentry;go_enter Tryz.func83, Tryz.ntmps83;go_wp2_with fail;go_ret;exact ⟨rfl, ((Below.refl _ _).alloc (Nat.le_refl _) _).alloc (by simp) _⟩
theorem Zhj (l : List Zar) (v v' : Value) (F G : Nat → Prop) (w : World) (hr : Z5 Zaj 4 F w l v) (gr : Z5 Zaj 4 G w l v') :
  Calls Tryz.prog 38 #[v, v'] w fun e w' => e = .returned (.bool true) ∧ Below w.heap.size w w' := by
 obtain ⟨A, c, rfl, hc, hcm, hel⟩ := hr;obtain ⟨A', c', rfl, hc', hcm', gel⟩ := gr;unfold maxLen at hcm hcm';have HEL := zh hel;have GEL := zh gel;clear hel gel;go_enter Tryz.func38, Tryz.ntmps38;go_wp2_with fail
 go_loopw [5] (fun i wr => ∃ j : Nat, j ≤ l.length ∧ i = .int .i64 j ∧ Below w.heap.size w wr) (fun i _ => l.length - (intOf i).toNat)
 case atStart => exact ⟨0, Nat.zero_le _, rfl, Below.refl _ _⟩
 case round =>
  obtain ⟨j, hj, rfl, hbel⟩ := hrel;have hsz := hbel.size
  by_cases hlt : j < l.length
  ·obtain ⟨b, o, cs, rfl, hF, hbl, hE, hcell⟩ := HEL.o j hlt;obtain ⟨b2, o2, cs2, rfl, hF2, hbl2, hG, hcell2⟩ := GEL.o j hlt;have hE' := hE;have hG' := hG;obtain ⟨rfl, hfacts⟩ := hE;obtain ⟨rfl, hfacts2⟩ := hG;have hlt' : (j : Int) < l.length := by omega
   have e0 := (hbel.cell (p := ⟨b, o + j * 4 + 0, none⟩) hbl).trans (hcell 0 _ rfl);have e1 := (hbel.cell (p := ⟨b, o + j * 4 + 1, none⟩) hbl).trans (hcell 1 _ rfl);have e2 := (hbel.cell (p := ⟨b, o + j * 4 + 2, none⟩) hbl).trans (hcell 2 _ rfl);have e3 := (hbel.cell (p := ⟨b, o + j * 4 + 3, none⟩) hbl).trans (hcell 3 _ rfl);have g0 := (hbel.cell (p := ⟨b2, o2 + j * 4 + 0, none⟩) hbl2).trans (hcell2 0 _ rfl);have g1 := (hbel.cell (p := ⟨b2, o2 + j * 4 + 1, none⟩) hbl2).trans (hcell2 1 _ rfl);have g2 := (hbel.cell (p := ⟨b2, o2 + j * 4 + 2, none⟩) hbl2).trans (hcell2 2 _ rfl);have g3 := (hbel.cell (p := ⟨b2, o2 + j * 4 + 3, none⟩) hbl2).trans (hcell2 3 _ rfl);simp only [Nat.mul_one, Nat.add_zero] at e0 g0;have HE2 := zh (Zau.keep (G := F) hE' (fun _ h => h) (Zb.later hbel));have HG2 := zh (Zau.keep (G := G) hG' (fun _ h => h) (Zb.later hbel));have hbr : b < wr.heap.size := Nat.lt_of_lt_of_le hbl hsz;have hb2r : b2 < wr.heap.size := Nat.lt_of_lt_of_le hbl2 hsz;clear hE' hG' hcell hcell2 hfacts hfacts2;go_upto_region 6 with (fail);refine Z3 [8, 9] [] (by kernel_rfl) (fun W hW => ?_);have hWL : Za wr W := by rw [hW]; exact (Za.refl _).drew
   have eW0 := (hWL.cell ⟨b, o + j * 4, none⟩ hbr).trans e0;have eW1 := (hWL.cell ⟨b, o + j * 4 + 1, none⟩ hbr).trans e1;have eW2 := (hWL.cell ⟨b, o + j * 4 + 2, none⟩ hbr).trans e2;have eW3 := (hWL.cell ⟨b, o + j * 4 + 3, none⟩ hbr).trans e3;have gW0 := (hWL.cell ⟨b2, o2 + j * 4, none⟩ hb2r).trans g0;have gW1 := (hWL.cell ⟨b2, o2 + j * 4 + 1, none⟩ hb2r).trans g1;have gW2 := (hWL.cell ⟨b2, o2 + j * 4 + 2, none⟩ hb2r).trans g2;have gW3 := (hWL.cell ⟨b2, o2 + j * 4 + 3, none⟩ hb2r).trans g3;have hbW : b < W.heap.size := Nat.lt_of_lt_of_le hbr hWL.size;have hb2W : b2 < W.heap.size := Nat.lt_of_lt_of_le hb2r hWL.size;clear hW;refine tU 0 17 (v := ?_) rfl rfl (fun x hx => ?_) ?_;rotate_left
   ·go_simp;first|done|with_reducible rfl
   simp only [Act.put, nA, nB, nC];refine tU 1 18 (v := ?_) rfl rfl (fun x hx => ?_) ?_;rotate_left
   ·go_simp;first|done|with_reducible rfl
   simp only [Act.put, nA, nB, nC];refine tU 2 19 (v := ?_) rfl rfl (fun x hx => ?_) ?_;rotate_left
   ·go_simp;first|done|with_reducible rfl|rw[if_neg (by omega)]|rw[if_pos (by omega)]
   simp only [Act.put, nA, nB, nC];refine tU 3 20 (v := ?_) rfl rfl (fun x hx => ?_) ?_;rotate_left
   ·have x0 := (hx.cell ⟨b, o + j * 4, none⟩ hbW).trans eW0; have x1 := (hx.cell ⟨b, o + j * 4 + 1, none⟩ hbW).trans eW1; have x2 := (hx.cell ⟨b, o + j * 4 + 2, none⟩ hbW).trans eW2; have x3 := (hx.cell ⟨b, o + j * 4 + 3, none⟩ hbW).trans eW3; have y0 := (hx.cell ⟨b2, o2 + j * 4, none⟩ hb2W).trans gW0; have y1 := (hx.cell ⟨b2, o2 + j * 4 + 1, none⟩ hb2W).trans gW1; have y2 := (hx.cell ⟨b2, o2 + j * 4 + 2, none⟩ hb2W).trans gW2; have y3 := (hx.cell ⟨b2, o2 + j * 4 + 3, none⟩ hb2W).trans gW3; go_simp;first|done|with_reducible rfl
   simp only [Act.put, nA, nB, nC];refine tU 4 21 (v := ?_) rfl rfl (fun x hx => ?_) ?_;rotate_left
   ·go_simp;first|done|with_reducible rfl
   simp only [Act.put, nA, nB, nC];refine tU 5 22 (v := ?_) rfl rfl (fun x hx => ?_) ?_;rotate_left
   ·go_simp;first|done|with_reducible rfl
   simp only [Act.put, nA, nB, nC];refine tU 6 23 (v := ?_) rfl rfl (fun x hx => ?_) ?_;rotate_left
   ·go_simp;first|done|with_reducible rfl|rw[if_neg (by omega)]|rw[if_pos (by omega)]
   simp only [Act.put, nA, nB, nC];refine tU 7 24 (v := ?_) rfl rfl (fun x hx => ?_) ?_;rotate_left
   ·have x0 := (hx.cell ⟨b, o + j * 4, none⟩ hbW).trans eW0; have x1 := (hx.cell ⟨b, o + j * 4 + 1, none⟩ hbW).trans eW1; have x2 := (hx.cell ⟨b, o + j * 4 + 2, none⟩ hbW).trans eW2; have x3 := (hx.cell ⟨b, o + j * 4 + 3, none⟩ hbW).trans eW3; have y0 := (hx.cell ⟨b2, o2 + j * 4, none⟩ hb2W).trans gW0; have y1 := (hx.cell ⟨b2, o2 + j * 4 + 1, none⟩ hb2W).trans gW1; have y2 := (hx.cell ⟨b2, o2 + j * 4 + 2, none⟩ hb2W).trans gW2; have y3 := (hx.cell ⟨b2, o2 + j * 4 + 3, none⟩ hb2W).trans gW3; go_simp;first|done|with_reducible rfl
   simp only [Act.put, nA, nB, nC];refine Zag [_, _] (by kernel_rfl) rfl rfl ?_;simp only [List.getElem_toArray, List.getElem_cons_succ, List.getElem_cons_zero];clear e0 g0 e1 g1 e2 g2 e3 g3;have HB2 := zh (hbel.trans (Below.mono hWL hbel.size));have HE3 := zh (Zau.keep (G := F) HE2.o (fun _ h => h) (Zb.later hWL));have HG3 := zh (Zau.keep (G := G) HG2.o (fun _ h => h) (Zb.later hWL));clear hWL eW0 gW0 eW1 gW1 eW2 gW2 eW3 gW3;go_wp2_with fail;refine (Zh1 l[j] _ _ F G W HE3.o HG3.o).mono ?_;rintro e w4 ⟨rfl, hb4⟩;have hb5 := HB2.o.trans (Below.mono hb4 HB2.o.size);clear hb4;go_wp2_with fail
   go_roundw
   case rel => exact ⟨j + 1, by omega, by go_num, hb5⟩
   case measure => simp [intOf]; omega
  ·have hjl : j = l.length := by omega
   go_wp2_with fail;go_ret;exact ⟨rfl, hbel⟩
theorem Zm3 (r : Ze) (cs cs' : List Value) (F G : Nat → Prop) (w : World) (h : Zbi F w r cs) (g : Zbi G w r cs') :
  Calls Tryz.prog 85 #[.agg cs.toArray, .agg cs'.toArray] w fun e w' => e = .returned (.bool true) ∧ Below w.heap.size w w' := by
 obtain ⟨rfl, hop, ha, hb, aM, aJ⟩ := h;obtain ⟨rfl, _, _, _, _, _⟩ := g;have ytext : (r.text.toList == r.text.toList) = true := by simp
 clear hop ha hb aM aJ;go_enter Tryz.func85, Tryz.ntmps85;go_wp2_with fail;go_ret;exact ⟨rfl, ((Below.refl _ _).alloc (Nat.le_refl _) _).alloc (by simp) _⟩
theorem Zlv (l : List Ze) (v v' : Value) (F G : Nat → Prop) (w : World) (hr : Z5 Zbi 5 F w l v) (gr : Z5 Zbi 5 G w l v') :
  Calls Tryz.prog 41 #[v, v'] w fun e w' => e = .returned (.bool true) ∧ Below w.heap.size w w' := by
 obtain ⟨A, c, rfl, hc, hcm, hel⟩ := hr;obtain ⟨A', c', rfl, hc', hcm', gel⟩ := gr;unfold maxLen at hcm hcm';have HEL := zh hel;have GEL := zh gel;clear hel gel;go_enter Tryz.func41, Tryz.ntmps41;go_wp2_with fail
 go_loopw [5] (fun i wr => ∃ j : Nat, j ≤ l.length ∧ i = .int .i64 j ∧ Below w.heap.size w wr) (fun i _ => l.length - (intOf i).toNat)
 case atStart => exact ⟨0, Nat.zero_le _, rfl, Below.refl _ _⟩
 case round =>
  obtain ⟨j, hj, rfl, hbel⟩ := hrel;have hsz := hbel.size
  by_cases hlt : j < l.length
  ·obtain ⟨b, o, cs, rfl, hF, hbl, hE, hcell⟩ := HEL.o j hlt;obtain ⟨b2, o2, cs2, rfl, hF2, hbl2, hG, hcell2⟩ := GEL.o j hlt;have hE' := hE;have hG' := hG;obtain ⟨rfl, hfacts⟩ := hE;obtain ⟨rfl, hfacts2⟩ := hG;have hlt' : (j : Int) < l.length := by omega
   have e0 := (hbel.cell (p := ⟨b, o + j * 5 + 0, none⟩) hbl).trans (hcell 0 _ rfl);have e1 := (hbel.cell (p := ⟨b, o + j * 5 + 1, none⟩) hbl).trans (hcell 1 _ rfl);have e2 := (hbel.cell (p := ⟨b, o + j * 5 + 2, none⟩) hbl).trans (hcell 2 _ rfl);have e3 := (hbel.cell (p := ⟨b, o + j * 5 + 3, none⟩) hbl).trans (hcell 3 _ rfl);have e4 := (hbel.cell (p := ⟨b, o + j * 5 + 4, none⟩) hbl).trans (hcell 4 _ rfl);have g0 := (hbel.cell (p := ⟨b2, o2 + j * 5 + 0, none⟩) hbl2).trans (hcell2 0 _ rfl);have g1 := (hbel.cell (p := ⟨b2, o2 + j * 5 + 1, none⟩) hbl2).trans (hcell2 1 _ rfl);have g2 := (hbel.cell (p := ⟨b2, o2 + j * 5 + 2, none⟩) hbl2).trans (hcell2 2 _ rfl);have g3 := (hbel.cell (p := ⟨b2, o2 + j * 5 + 3, none⟩) hbl2).trans (hcell2 3 _ rfl);have g4 := (hbel.cell (p := ⟨b2, o2 + j * 5 + 4, none⟩) hbl2).trans (hcell2 4 _ rfl);simp only [Nat.mul_one, Nat.add_zero] at e0 g0;have HE2 := zh (Zcf.keep (G := F) hE' (fun _ h => h) (Zb.later hbel));have HG2 := zh (Zcf.keep (G := G) hG' (fun _ h => h) (Zb.later hbel));have hbr : b < wr.heap.size := Nat.lt_of_lt_of_le hbl hsz;have hb2r : b2 < wr.heap.size := Nat.lt_of_lt_of_le hbl2 hsz;clear hE' hG' hcell hcell2 hfacts hfacts2;go_upto_region 6 with (fail);refine Z3 [8, 9] [] (by kernel_rfl) (fun W hW => ?_);have hWL : Za wr W := by rw [hW]; exact (Za.refl _).drew
   have eW0 := (hWL.cell ⟨b, o + j * 5, none⟩ hbr).trans e0;have eW1 := (hWL.cell ⟨b, o + j * 5 + 1, none⟩ hbr).trans e1;have eW2 := (hWL.cell ⟨b, o + j * 5 + 2, none⟩ hbr).trans e2;have eW3 := (hWL.cell ⟨b, o + j * 5 + 3, none⟩ hbr).trans e3;have eW4 := (hWL.cell ⟨b, o + j * 5 + 4, none⟩ hbr).trans e4;have gW0 := (hWL.cell ⟨b2, o2 + j * 5, none⟩ hb2r).trans g0;have gW1 := (hWL.cell ⟨b2, o2 + j * 5 + 1, none⟩ hb2r).trans g1;have gW2 := (hWL.cell ⟨b2, o2 + j * 5 + 2, none⟩ hb2r).trans g2;have gW3 := (hWL.cell ⟨b2, o2 + j * 5 + 3, none⟩ hb2r).trans g3;have gW4 := (hWL.cell ⟨b2, o2 + j * 5 + 4, none⟩ hb2r).trans g4;have hbW : b < W.heap.size := Nat.lt_of_lt_of_le hbr hWL.size;have hb2W : b2 < W.heap.size := Nat.lt_of_lt_of_le hb2r hWL.size;clear hW;refine tU 0 17 (v := ?_) rfl rfl (fun x hx => ?_) ?_;rotate_left
   ·go_simp;first|done|with_reducible rfl
   simp only [Act.put, nA, nB, nC];refine tU 1 18 (v := ?_) rfl rfl (fun x hx => ?_) ?_;rotate_left
   ·go_simp;first|done|with_reducible rfl
   simp only [Act.put, nA, nB, nC];refine tU 2 19 (v := ?_) rfl rfl (fun x hx => ?_) ?_;rotate_left
   ·go_simp;first|done|with_reducible rfl|rw[if_neg (by omega)]|rw[if_pos (by omega)]
   simp only [Act.put, nA, nB, nC];refine tU 3 20 (v := ?_) rfl rfl (fun x hx => ?_) ?_;rotate_left
   ·have x0 := (hx.cell ⟨b, o + j * 5, none⟩ hbW).trans eW0; have x1 := (hx.cell ⟨b, o + j * 5 + 1, none⟩ hbW).trans eW1; have x2 := (hx.cell ⟨b, o + j * 5 + 2, none⟩ hbW).trans eW2; have x3 := (hx.cell ⟨b, o + j * 5 + 3, none⟩ hbW).trans eW3; have x4 := (hx.cell ⟨b, o + j * 5 + 4, none⟩ hbW).trans eW4; have y0 := (hx.cell ⟨b2, o2 + j * 5, none⟩ hb2W).trans gW0; have y1 := (hx.cell ⟨b2, o2 + j * 5 + 1, none⟩ hb2W).trans gW1; have y2 := (hx.cell ⟨b2, o2 + j * 5 + 2, none⟩ hb2W).trans gW2; have y3 := (hx.cell ⟨b2, o2 + j * 5 + 3, none⟩ hb2W).trans gW3; have y4 := (hx.cell ⟨b2, o2 + j * 5 + 4, none⟩ hb2W).trans gW4; go_simp;first|done|with_reducible rfl
   simp only [Act.put, nA, nB, nC];refine tU 4 21 (v := ?_) rfl rfl (fun x hx => ?_) ?_;rotate_left
   ·go_simp;first|done|with_reducible rfl
   simp only [Act.put, nA, nB, nC];refine tU 5 22 (v := ?_) rfl rfl (fun x hx => ?_) ?_;rotate_left
   ·go_simp;first|done|with_reducible rfl
   simp only [Act.put, nA, nB, nC];refine tU 6 23 (v := ?_) rfl rfl (fun x hx => ?_) ?_;rotate_left
   ·go_simp;first|done|with_reducible rfl|rw[if_neg (by omega)]|rw[if_pos (by omega)]
   simp only [Act.put, nA, nB, nC];refine tU 7 24 (v := ?_) rfl rfl (fun x hx => ?_) ?_;rotate_left
   ·have x0 := (hx.cell ⟨b, o + j * 5, none⟩ hbW).trans eW0; have x1 := (hx.cell ⟨b, o + j * 5 + 1, none⟩ hbW).trans eW1; have x2 := (hx.cell ⟨b, o + j * 5 + 2, none⟩ hbW).trans eW2; have x3 := (hx.cell ⟨b, o + j * 5 + 3, none⟩ hbW).trans eW3; have x4 := (hx.cell ⟨b, o + j * 5 + 4, none⟩ hbW).trans eW4; have y0 := (hx.cell ⟨b2, o2 + j * 5, none⟩ hb2W).trans gW0; have y1 := (hx.cell ⟨b2, o2 + j * 5 + 1, none⟩ hb2W).trans gW1; have y2 := (hx.cell ⟨b2, o2 + j * 5 + 2, none⟩ hb2W).trans gW2; have y3 := (hx.cell ⟨b2, o2 + j * 5 + 3, none⟩ hb2W).trans gW3; have y4 := (hx.cell ⟨b2, o2 + j * 5 + 4, none⟩ hb2W).trans gW4; go_simp;first|done|with_reducible rfl
   simp only [Act.put, nA, nB, nC];refine Zag [_, _] (by kernel_rfl) rfl rfl ?_;simp only [List.getElem_toArray, List.getElem_cons_succ, List.getElem_cons_zero];clear e0 g0 e1 g1 e2 g2 e3 g3 e4 g4;have HB2 := zh (hbel.trans (Below.mono hWL hbel.size));have HE3 := zh (Zcf.keep (G := F) HE2.o (fun _ h => h) (Zb.later hWL));have HG3 := zh (Zcf.keep (G := G) HG2.o (fun _ h => h) (Zb.later hWL));clear hWL eW0 gW0 eW1 gW1 eW2 gW2 eW3 gW3 eW4 gW4;go_wp2_with fail;refine (Zm3 l[j] _ _ F G W HE3.o HG3.o).mono ?_;rintro e w4 ⟨rfl, hb4⟩;have hb5 := HB2.o.trans (Below.mono hb4 HB2.o.size);clear hb4;go_wp2_with fail
   go_roundw
   case rel => exact ⟨j + 1, by omega, by go_num, hb5⟩
   case measure => simp [intOf]; omega
  ·have hjl : j = l.length := by omega
   go_wp2_with fail;go_ret;exact ⟨rfl, hbel⟩
theorem Zg7 (r : Zfi) (cs cs' : List Value) (F G : Nat → Prop) (w : World) (h : Zmi F w r cs) (g : Zmi G w r cs') :
  Calls Tryz.prog 9 #[.agg cs.toArray, .agg cs'.toArray] w fun e w' => e = .returned (.bool true) ∧ Below w.heap.size w w' := by
 obtain ⟨vroutines, aC, aD, vinstrs, rfl, hroutines, aF, aG, hmain, hinstrs⟩ := h;obtain ⟨vroutines', vrecords', vglobals', vinstrs', rfl, groutines, aN, aO, _, ginstrs⟩ := g;have Hroutines := zh hroutines;have Groutines := zh groutines;clear hroutines groutines;have Hrecords := zh aF;have Grecords := zh aN;clear aF aN;have Hglobals := zh aG;have Gglobals := zh aO;clear aG aO;clear hmain;have Hinstrs := zh hinstrs;have Ginstrs := zh ginstrs;clear hinstrs ginstrs;have HP := zh ((Za.refl _).alloc (.cells #[vroutines', vrecords', vglobals', .int .i64 r.main, vinstrs'] 32) |>.block _ (by simp) |>.trans (heap_alloc_new w (.cells #[vroutines, aC, aD, .int .i64 r.main, vinstrs] 32)));have HZ := zh (heap_alloc_new (w.alloc (.cells #[vroutines, aC, aD, .int .i64 r.main, vinstrs] 32)) (.cells #[vroutines', vrecords', vglobals', .int .i64 r.main, vinstrs'] 32));simp only [Zbj] at HZ;have HB := zh (((Below.refl w.heap.size w).alloc (Nat.le_refl _) (.cells #[vroutines, aC, aD, .int .i64 r.main, vinstrs] 32)).alloc (by simp) (.cells #[vroutines', vrecords', vglobals', .int .i64 r.main, vinstrs'] 32));go_enter Tryz.func9, Tryz.ntmps9;go_wp2_with fail;refine (Zhj r.routines vroutines vroutines' F G _ (Hroutines.o.later Zau HB.o) (Groutines.o.later Zau HB.o)).mono ?_;rintro e w0 ⟨rfl, hb0⟩;replace HP := zC hb0 HP;replace HZ := zC hb0 HZ
 replace HB := zh (HB.o.trans (Below.mono hb0 HB.o.size));clear hb0;have p0 := cz5 HP.o;have z0 := cz5 HZ.o;go_wp2_with fail;refine (Zez r.aA aC vrecords' F G _ (Hrecords.o.later Z7 HB.o) (Grecords.o.later Z7 HB.o)).mono ?_;rintro e w1 ⟨rfl, hb1⟩;replace HP := zC hb1 HP;replace HZ := zC hb1 HZ;replace HB := zh (HB.o.trans (Below.mono hb1 HB.o.size));clear hb1;clear p0;have p0 := cz5 HP.o;clear z0;have z0 := cz5 HZ.o;go_wp2_with fail;refine (Zdq r.globals aD vglobals' F G _ (Hglobals.o.later Zt HB.o) (Gglobals.o.later Zt HB.o)).mono ?_;rintro e w2 ⟨rfl, hb2⟩;replace HP := zC hb2 HP;replace HZ := zC hb2 HZ;replace HB := zh (HB.o.trans (Below.mono hb2 HB.o.size));clear hb2;clear p0;have p0 := cz5 HP.o;clear z0;have z0 := cz5 HZ.o;go_wp2_with fail;refine (Zlv r.instrs vinstrs vinstrs' F G _ (Hinstrs.o.later Zcf HB.o) (Ginstrs.o.later Zcf HB.o)).mono ?_;rintro e w4 ⟨rfl, hb4⟩;replace HP := zC hb4 HP;replace HZ := zC hb4 HZ;replace HB := zh (HB.o.trans (Below.mono hb4 HB.o.size));clear hb4;clear p0;have p0 := cz5 HP.o;clear z0;have z0 := cz5 HZ.o;go_wp2_with fail;go_ret;exact ⟨rfl, HB.o⟩
end
end
theorem Zo4 {N : Nat} {F : Nat → Prop} {w : World} {p : Zu} {A1 A2 A3 : Option Addr} {k1 k2 k3 : Nat} (h : Zfh (Zm6 N) F w p [.slice A1 p.routines.length k1, .slice A2 p.aA.length k2, .slice A3 p.globals.length k3, .int .i64 p.main]) : PgV N (fun b => F b ∧ b < w.heap.size) w p A1 A2 A3 k1 k2 k3 := by
 obtain ⟨v0, v1, v2, e, h0, h1, h2, h3⟩ := (Zbb (Zbl N) (Zad N)).el ((Zbb (Zbl N) (Zad N)).trim h);simp only [List.cons.injEq, and_true] at e;obtain ⟨rfl, rfl, rfl⟩ := e;exact ⟨h0, h1, h2, h3⟩
theorem Zqs (N : Nat) (p : Zu) (cs : List Value) (w : World) (h : Zdj (Zds N) (fun _ => True) w p cs) (ht : Spc w) :
  Calls Tryz.prog 3 #[.agg cs.toArray] w fun e w' => e = .returned (.bool true) ∧ Below w.heap.size w w' := by
 have hh := h;obtain ⟨vr, ve, vg, rfl, hr, he, hg, hm⟩ := h;obtain ⟨Ar, cr, rfl, -⟩ := hr;obtain ⟨Ae, ce, rfl, -⟩ := he;obtain ⟨Ag, cgg, rfl, -⟩ := hg;have HH := zh hh;obtain ⟨w3, hw3⟩ : ∃ z, z = w.alloc (.cells #[.slice Ar p.routines.length cr, .slice Ae p.aA.length ce, .slice Ag p.globals.length cgg, .int .i64 p.main] 26) := ⟨_, rfl⟩;have HL := zh (show Za w w3 by rw [hw3]; exact (Za.refl w).alloc _);have HMB := zh (show w3.heap[w.heap.size]? = some (.cells #[.slice Ar p.routines.length cr, .slice Ae p.aA.length ce, .slice Ag p.globals.length cgg, .int .i64 p.main] 26 (0, 0)) by rw [hw3]; exact heap_alloc_new _ _);have HT := zh (ht.below HL.o);have HLC := zh (Za.refl w3);obtain ⟨⟨qc, qb⟩, hqq⟩ : ∃ z, Zfz (N + 1) p = z := ⟨_, rfl⟩;have HQ := zh hqq;clear hqq hh ht hm;go_enter Tryz.func3, Tryz.ntmps3;go_upto_region 1 with (fail);rw [← hw3];clear hw3;have HMBC := zB HLC HMB;have n0 := cz4 HMBC.o
 by_cases hb1 : (1048576 : Int) < (Zab (szN N) p : Nat)
 ·have HLF := zh (Zan (n := Zab (szN N) p) (l := (1048576 : Int)) (by omega));go_wp2_with fail;refine (Zho (Zad N) (Zg3 N) p _ (fun _ => True) _ 1048576 (by decide) (by decide) ((Zc7 (Zad N)).keep HH.o (fun _ h => h) (Zb.later (HL.o.trans HLC.o)))).mono ?_;rintro e x1 ⟨rfl, hcl⟩;clear HMBC n0;replace HLC := zh (HLC.o.trans hcl);clear hcl;rw [HLF.o];go_wp2_with fail;go_ret;exact ⟨rfl, HL.o.trans HLC.o⟩
 ·have HLF := zh (Za3 (n := Zab (szN N) p) (l := (1048576 : Int)) (by omega));go_wp2_with fail;refine (Zho (Zad N) (Zg3 N) p _ (fun _ => True) _ 1048576 (by decide) (by decide) ((Zc7 (Zad N)).keep HH.o (fun _ h => h) (Zb.later (HL.o.trans HLC.o)))).mono ?_;rintro e y1 ⟨rfl, hcl⟩;clear HMBC n0;replace HLC := zh (HLC.o.trans hcl);clear hcl;rw [HLF.o];have u1 : decide ((1048576 : Int) - (Zab (szN N) p : Nat) < 0) = false := nU (by omega);have hsz : Zab (szN N) p ≤ 1048576 := by omega
  have hbb : (qb != qb) = false := by simp
  have HRK := zh (show (1 : Int) + (Zcr (Zk1 N) p : Nat) ≤ 1099511627776 by have := Znx N p; omega);have HRC := zh (show (1 : Int) + (Zb8 qc : Nat) ≤ 1099511627776 by have h1 := Zqe N N p; rw [HQ.o] at h1; have h2 : Zb8 qc ≤ 400000 + 3 * Zab (szN N) p := h1; omega);have kr : decide ((1 : Int) + (Zcr (Zk1 N) p : Nat) < 0) = false := nU (by omega);have kc_ : decide ((1 : Int) + (Zb8 qc : Nat) < 0) = false := nU (by omega);have HMBC := zB HLC HMB;have n0 := cz4 HMBC.o;go_wp2_with fail;refine (Zd3 (Zbl N) (Zad N) (Zd7 N) p _ (fun _ => True) _ hsz ((Zc7 (Zad N)).keep HH.o (fun _ h => h) (Zb.later (HL.o.trans HLC.o)))).mono ?_;rintro e u1 ⟨cs1, rfl, hsp, hb⟩;clear HMBC n0;obtain ⟨_, v0, v1, v2, rfl, r0, r1, r2, _⟩ := id hsp;obtain ⟨px0, dx0, rfl, -⟩ := r0;obtain ⟨px1, dx1, rfl, -⟩ := r1;obtain ⟨px2, dx2, rfl, -⟩ := r2;have hpv := Zo4 hsp;clear hsp;replace HLC := zh (HLC.o.trans hb);clear hb;go_wp2_with fail;refine (Zjz N _ _ p _ _ _ _ _ _ hpv (fun b hb => hb.2) (HT.o.below HLC.o) hsz).mono ?_;rintro e uow hcp;rw [HQ.o] at hcp;obtain ⟨cs2, F2, rfl, hc, hF, hb⟩ := hcp;obtain ⟨_, v0, v1, v2, v3, rfl, r0, r1, r2, _, r3⟩ := id hc;obtain ⟨pow0, dow0, rfl, -⟩ := r0;obtain ⟨pow1, dow1, rfl, -⟩ := r1;obtain ⟨pow2, dow2, rfl, -⟩ := r2;obtain ⟨pow3, dow3, rfl, -⟩ := r3;have hd := Zfa (T := Zdc) Zz hb hc (fun b h => (hF b h).1);obtain ⟨Yow, hY⟩ : ∃ z, z = uow.alloc (.cells #[.slice pow0 qc.routines.length dow0, .slice pow1 qc.aA.length dow1, .slice pow2 qc.globals.length dow2, .int .i64 qc.main, .slice pow3 qc.instrs.length dow3] Zdc) := ⟨_, rfl⟩
  rw [← hY] at hd;have HYE := zh hY;have HD := zh hd;clear hY hd hb hc;go_upto_region 6 with (fail);rw [← HYE.o];clear HYE;obtain ⟨ho, hl⟩ := HD.o;clear HD;obtain ⟨Bow, hB⟩ : ∃ z, z = uow.heap.size := ⟨_, rfl⟩;rw [← hB] at ho
  try rw [← hB]
  clear hB;replace HLC := zh (HLC.o.trans hl);have HOow := zh ho;clear ho hl;have HLEwx := zh HOow.o.le;have HX3 := zh HLC.o.size;have HMBC := zB HLC HMB;have n0 := cz4 HMBC.o;go_wp2_with fail;refine (Zd3 (Zbl N) (Zad N) (Zd7 N) p _ (fun _ => True) _ hsz ((Zc7 (Zad N)).keep HH.o (fun _ h => h) (Zb.later (HL.o.trans HLC.o)))).mono ?_;rintro e u2 ⟨cs1, rfl, hsp, hb⟩;clear HMBC n0;obtain ⟨_, v0, v1, v2, rfl, r0, r1, r2, _⟩ := id hsp;obtain ⟨px0, dx0, rfl, -⟩ := r0;obtain ⟨px1, dx1, rfl, -⟩ := r1;obtain ⟨px2, dx2, rfl, -⟩ := r2;have hd := Zfa (T := TPg) (Zbb (Zbl N) (Zad N)) hb hsp (fun b h => h);obtain ⟨Yox, hY⟩ : ∃ z, z = u2.alloc (.cells #[.slice px0 p.routines.length dx0, .slice px1 p.aA.length dx1, .slice px2 p.globals.length dx2, .int .i64 p.main] TPg) := ⟨_, rfl⟩;rw [← hY] at hd;have HYE := zh hY;have HD := zh hd;clear hY hd hb hsp;go_upto_region 7 with (fail);rw [← HYE.o];clear HYE;obtain ⟨ho, hl⟩ := HD.o;clear HD;obtain ⟨Box, hB⟩ : ∃ z, z = u2.heap.size := ⟨_, rfl⟩;rw [← hB] at ho
  try rw [← hB]
  clear hB;replace HLC := zh (HLC.o.trans hl);replace HOow := zh (HOow.o.later Zz hl);have HOox := zh ho;clear ho hl;have hpv := Zo4 HOox.o.sp;have HLExg := zh HOox.o.le;have HG3 := zh HLC.o.size;have HXL := zh (Nat.le_trans HOox.o.loB (Nat.le_of_lt HOox.o.hiB));have HKox := zh HOox.o.blk;have sox0 := cz4 HKox.o;go_wp2_with fail;refine (Zgp N _ _ p _ _ _ _ _ _ hpv (fun b hb => hb.2) (HT.o.below HLC.o) hsz).mono ?_;rintro e uog hcp;rw [HQ.o] at hcp;obtain ⟨cs2, F2, rfl, hc, hF, hb⟩ := hcp;obtain ⟨_, v0, v1, v2, v3, rfl, r0, r1, r2, _, r3⟩ := id hc;obtain ⟨pog0, dog0, rfl, -⟩ := r0;obtain ⟨pog1, dog1, rfl, -⟩ := r1;obtain ⟨pog2, dog2, rfl, -⟩ := r2;obtain ⟨pog3, dog3, rfl, -⟩ := r3;have hd := Zfa (T := Zdc) Zz hb hc (fun b h => (hF b h).1);obtain ⟨Yog, hY⟩ : ∃ z, z = uog.alloc (.cells #[.slice pog0 qc.routines.length dog0, .slice pog1 qc.aA.length dog1, .slice pog2 qc.globals.length dog2, .int .i64 qc.main, .slice pog3 qc.instrs.length dog3] Zdc) := ⟨_, rfl⟩;rw [← hY] at hd;have HYE := zh hY;have HD := zh hd;clear hY hd hb hc;go_upto_region 8 with (fail);rw [← HYE.o];clear HYE;obtain ⟨ho, hl⟩ := HD.o;clear HD;obtain ⟨Bog, hB⟩ : ∃ z, z = uog.heap.size := ⟨_, rfl⟩;rw [← hB] at ho
  try rw [← hB]
  clear hB;replace HLC := zh (HLC.o.trans hl);replace HOow := zh (HOow.o.later Zz hl);replace HOox := zh (HOox.o.later (Zbb (Zbl N) (Zad N)) hl);have HOog := zh ho;clear ho hl;clear HKox sox0;clear hpv;have HLEwg := zh (Nat.le_trans HLEwx.o (Nat.le_trans HXL.o HLExg.o));have HKog := zh HOog.o.blk;have sog0 := cz5 HKog.o;have HKow := zh HOow.o.blk;have sow0 := cz5 HKow.o;go_wp2_with fail;refine (Zg7 qc _ _ _ _ _ (Zz.el HOog.o.sp) (Zz.el HOow.o.sp)).mono ?_;rintro e v8 ⟨rfl, hb⟩;clear HKog sog0;clear HKow sow0;replace HLC := zh (HLC.o.trans hb);replace HOow := zh (HOow.o.later Zz hb);replace HOox := zh (HOox.o.later (Zbb (Zbl N) (Zad N)) hb);replace HOog := zh (HOog.o.later Zz hb);clear hb;go_upto_region 10 with (fail);refine Z3 [3, 4] [] (by kernel_rfl) (fun W6 hW6 => ?_);have hlW : Za v8 W6 := by rw [hW6]; exact Below.drew (Za.refl _)
  replace HLC := zh (HLC.o.trans hlW);replace HOow := zh (HOow.o.later Zz hlW);replace HOox := zh (HOox.o.later (Zbb (Zbl N) (Zad N)) hlW);replace HOog := zh (HOog.o.later Zz hlW);clear hlW;clear hW6;refine tU 0 41 (v := ?_) rfl rfl (fun x hx => ?_) ?_;rotate_left
  ·have HLC := zh (HLC.o.trans hx); have HMBC := zB HLC HMB; have n0 := cz4 HMBC.o; have HOX2 := zh (HOox.o.later (Zbb (Zbl N) (Zad N)) hx); have HKox := zh HOX2.o.blk; have sox0 := cz4 HKox.o; go_simp; first|done|with_reducible rfl
  simp only [Act.put, nA, nB, nC];refine tU 1 42 (v := ?_) rfl rfl (fun x hx => ?_) ?_;rotate_left
  ·have HLC := zh (HLC.o.trans hx); have HMBC := zB HLC HMB; have n0 := cz4 HMBC.o; have HOX2 := zh (HOox.o.later (Zbb (Zbl N) (Zad N)) hx); have HKox := zh HOX2.o.blk; have sox0 := cz4 HKox.o; go_simp; first|done|with_reducible rfl
  simp only [Act.put, nA, nB, nC];refine Zca 2 (by kernel_rfl) rfl rfl ?_;go_wp2_with fail;refine (Zd3 (Zbl N) (Zad N) (Zd7 N) p _ (fun _ => True) _ hsz ((Zc7 (Zad N)).keep HH.o (fun _ h => h) (Zb.later (HL.o.trans HLC.o)))).mono ?_;rintro e v6 ⟨cs6, rfl, hsp6, hb⟩;go_wp2_with fail;refine ⟨hb, ?_⟩;replace HLC := zh (HLC.o.trans hb);replace HOow := zh (HOow.o.later Zz hb);replace HOox := zh (HOox.o.later (Zbb (Zbl N) (Zad N)) hb);replace HOog := zh (HOog.o.later Zz hb);clear hb;refine Zag [_, _] (by kernel_rfl) rfl rfl ?_;simp only [List.getElem_toArray, List.getElem_cons_succ, List.getElem_cons_zero];go_wp2_with fail;refine (Zli (Zad N) (Zjn N) p _ _ _ _ _ ((Zbb (Zbl N) (Zad N)).el HOox.o.sp) ((Zbb (Zbl N) (Zad N)).el hsp6)).mono ?_;rintro e v7 ⟨rfl, hb⟩;clear hsp6;replace HLC := zh (HLC.o.trans hb);replace HOow := zh (HOow.o.later Zz hb);replace HOox := zh (HOox.o.later (Zbb (Zbl N) (Zad N)) hb);replace HOog := zh (HOog.o.later Zz hb);clear hb;have HKox := zh HOox.o.blk;have sox0 := cz4 HKox.o;go_wp2_with fail;refine (Zj0 (Zbl N) (Zad N) (Zhp N) p _ _ _ 1 (by decide) HRK.o HOox.o.sp).mono ?_;rintro e v5 ⟨rfl, hsp, hk, hb0⟩;clear HKox sox0;have hbb2 := HOox.o.below hk hb0 HX3.o;replace HLC := zh (show Za w3 _ from Below.trans HLC.o hbb2)
  replace HOow := zh (HOow.o.apart Zz HOox.o hk (.inl HLEwx.o));replace HOog := zh (HOog.o.apart Zz HOox.o hk (.inr HLExg.o));clear hk hsp hb0 hbb2 HOox;have HKog := zh HOog.o.blk;have sog0 := cz5 HKog.o;have HKow := zh HOow.o.blk;have sow0 := cz5 HKow.o;go_wp2_with fail;refine (Zg7 qc _ _ _ _ _ (Zz.el HOog.o.sp) (Zz.el HOow.o.sp)).mono ?_;rintro e v9 ⟨rfl, hb⟩;clear HKog sog0;clear HKow sow0;replace HLC := zh (HLC.o.trans hb);replace HOow := zh (HOow.o.later Zz hb);replace HOog := zh (HOog.o.later Zz hb);clear hb;have HKog := zh HOog.o.blk;have sog0 := cz5 HKog.o;go_wp2_with fail;refine (Zm1 qc _ _ _ 1 (by decide) HRC.o HOog.o.sp).mono ?_;rintro e v10 ⟨rfl, hsp, hk, hb0⟩;clear HKog sog0;have hbb2 := HOog.o.below hk hb0 HG3.o;replace HLC := zh (show Za w3 _ from Below.trans HLC.o hbb2);replace HOow := zh (HOow.o.apart Zz HOog.o hk (.inl HLEwg.o));replace HOog := zh (HOog.o.turned hk hsp);clear hk hsp hb0 hbb2;have HKog := zh HOog.o.blk;have sog0 := cz5 HKog.o;go_wp2_with fail;refine (Ziq qc _ _ _ 1 (by decide) HRC.o (Zz.el HOog.o.sp)).mono ?_;rintro e v11 ⟨rfl, hb⟩;clear HKog sog0;replace HLC := zh (HLC.o.trans hb);replace HOow := zh (HOow.o.later Zz hb);replace HOog := zh (HOog.o.later Zz hb)
  clear hb;have HMBC := zB HLC HMB;have n0 := cz4 HMBC.o;go_wp2_with fail;refine (Zd3 (Zbl N) (Zad N) (Zd7 N) p _ (fun _ => True) _ hsz ((Zc7 (Zad N)).keep HH.o (fun _ h => h) (Zb.later (HL.o.trans HLC.o)))).mono ?_;rintro e u3 ⟨cs1, rfl, hsp, hb⟩;clear HMBC n0;obtain ⟨_, v0, v1, v2, rfl, r0, r1, r2, _⟩ := id hsp;obtain ⟨px0, dx0, rfl, -⟩ := r0;obtain ⟨px1, dx1, rfl, -⟩ := r1;obtain ⟨px2, dx2, rfl, -⟩ := r2;have hpv := Zo4 hsp;clear hsp;replace HLC := zh (HLC.o.trans hb);replace HOow := zh (HOow.o.later Zz hb);replace HOog := zh (HOog.o.later Zz hb);clear hb;go_wp2_with fail;refine (Zgp N _ _ p _ _ _ _ _ _ hpv (fun b hb => hb.2) (HT.o.below HLC.o) hsz).mono ?_;rintro e uoh hcp;rw [HQ.o] at hcp;obtain ⟨cs2, F2, rfl, hc, hF, hb⟩ := hcp;obtain ⟨_, v0, v1, v2, v3, rfl, r0, r1, r2, _, r3⟩ := id hc;obtain ⟨poh0, doh0, rfl, -⟩ := r0;obtain ⟨poh1, doh1, rfl, -⟩ := r1;obtain ⟨poh2, doh2, rfl, -⟩ := r2;obtain ⟨poh3, doh3, rfl, -⟩ := r3;have hd := Zfa (T := Zdc) Zz hb hc (fun b h => (hF b h).1);obtain ⟨Yoh, hY⟩ : ∃ z, z = uoh.alloc (.cells #[.slice poh0 qc.routines.length doh0, .slice poh1 qc.aA.length doh1, .slice poh2 qc.globals.length doh2, .int .i64 qc.main, .slice poh3 qc.instrs.length doh3] Zdc) := ⟨_, rfl⟩;rw [← hY] at hd;have HYE := zh hY;have HD := zh hd;clear hY hd hb hc;go_upto_region 25 with (fail);rw [← HYE.o];clear HYE;obtain ⟨ho, hl⟩ := HD.o;clear HD
  obtain ⟨Boh, hB⟩ : ∃ z, z = uoh.heap.size := ⟨_, rfl⟩;rw [← hB] at ho
  try rw [← hB]
  clear hB;replace HLC := zh (HLC.o.trans hl);replace HOow := zh (HOow.o.later Zz hl);replace HOog := zh (HOog.o.later Zz hl);have HOoh := zh ho;clear ho hl;have HKoh := zh HOoh.o.blk;have soh0 := cz5 HKoh.o;have HKow := zh HOow.o.blk;have sow0 := cz5 HKow.o;go_wp2_with fail;refine (Zg7 qc _ _ _ _ _ (Zz.el HOoh.o.sp) (Zz.el HOow.o.sp)).mono ?_;rintro e v12 ⟨rfl, hb⟩;clear HKoh soh0;clear HKow sow0;replace HLC := zh (HLC.o.trans hb);replace HOow := zh (HOow.o.later Zz hb);replace HOog := zh (HOog.o.later Zz hb);replace HOoh := zh (HOoh.o.later Zz hb);clear hb;have HKog := zh HOog.o.blk;have sog0 := cz5 HKog.o;go_wp2_with fail;refine (Ziq qc _ _ _ 1 (by decide) HRC.o (Zz.el HOog.o.sp)).mono ?_;rintro e v13 ⟨rfl, hb⟩;clear HKog sog0;replace HLC := zh (HLC.o.trans hb);replace HOow := zh (HOow.o.later Zz hb);replace HOog := zh (HOog.o.later Zz hb);replace HOoh := zh (HOoh.o.later Zz hb);clear hb;go_wp2_with fail;go_ret;exact ⟨rfl, HL.o.trans HLC.o⟩
section
open Go.ChangeShapes Go.WideShapes Go.ChangeAt Go.RowKit
theorem Zej {w : World} {a : Addr} {v : Value} (h : w.cell? a = some v) : a.spot = none ∧ a.block < w.heap.size := by
 unfold World.cell? at h
 rcases hh : w.heap[a.block]? with _ | o
 ·rw [hh] at h; cases h
 ·refine ⟨?_, (Array.getElem?_eq_some_iff.1 hh).1⟩;rw [hh] at h
  cases o <;> simp at h
  exact h.1
def Zlj {α : Type} (t : TypeId) (El : Za6 α) : Prop := ∀ {H : Type} {enc : TypeId × Value → H} {w : World} {spare : Nat → Bool} {held : Bool} (n : Nat) (cs : List Value) (x : DataW H × List MemPlace), DataW.trod enc Tryz.prog w 0 spare held n t cs = some x → ∃ a, El (fun _ => True) w a cs
theorem Zd2 : Zlj 3 Zc1 := fun n cs x h => by
 obtain ⟨m, e, _, hw⟩ := DataW.trod_int Tryz.underlying3 h;have := bounds_i64 hw;exact ⟨m, e, by unfold Zi; omega⟩
theorem Zep : Zlj 9 Zbe := fun n cs x h => by
 obtain ⟨s, e, _, hs⟩ := DataW.trod_string Tryz.underlying9 h;exact ⟨s, e, hs⟩
theorem Zqt {α : Type} {El : Za6 α} {size : Nat} {S E : TypeId} (hS : Tryz.prog.underlying S = some (.slice E)) (hc : Tryz.prog.cellsOf E = size) (h0 : 0 < size) (hE : Zb2 El size) (hel : Zlj E El) : Zlj S (Zt6 El size) := by
 intro H enc w spare held n cs x h
 rcases DataW.trod_slice hS h with ⟨rfl, _⟩ | ⟨a, len, cap, elems, rest, m, _, rfl, _, _, hlc, hcm, hel2, hall, _, _⟩
 ·exact ⟨[], _, rfl, Z5.nil _ _ _ _⟩
 ·by_cases hz : len = 0
  ·subst hz;exact ⟨[], _, rfl, some a, cap, rfl, Nat.zero_le _, hcm, fun i hi => by simp at hi⟩
  ·have each : ∀ i : Fin len, ∃ q : α × List Value, El (fun _ => True) w q.1 q.2 ∧ ∀ j, j < size → w.cell? ((a.add (i.1 * size)).add j) = q.2[j]? := fun i => by
    have h1 := hall i.1 i.2;have hi : i.1 < elems.length := by omega
    rw [List.getElem?_eq_getElem hi, Option.bind_eq_some_iff] at h1;obtain ⟨cs', hc', htr⟩ := h1;obtain ⟨p, hp⟩ := hel _ _ _ htr;rw [hc] at hc';obtain ⟨_, _, hcell⟩ := World.cells?_some hc';exact ⟨(p, cs'), hp, hcell⟩
   have hspot : a.spot = none := by
    obtain ⟨q, hq, hcell⟩ := each ⟨0, by omega⟩;have h1 := hcell 0 h0;have hl := hE.len hq;rw [List.getElem?_eq_getElem (by omega)] at h1;have := (Zej h1).1
    simpa [Addr.add] using this
   obtain ⟨ab, ao, asp⟩ := a;simp only at hspot;subst hspot;have ha : ∀ i k, ((⟨ab, ao, none⟩ : Addr).add i).add k = ⟨ab, ao + i + k, none⟩ := fun i k => by
    unfold Addr.add
    split <;> split <;> simp_all
   refine ⟨List.ofFn fun i => (Classical.choose (each i)).1, _, rfl, some ⟨ab, ao, none⟩, cap, by simp, by simpa using hlc, hcm, fun i hi => ?_⟩;have hi' : i < len := by simpa using hi
   have hc2 := Classical.choose_spec (each ⟨i, hi'⟩);obtain ⟨h1, h2⟩ := hc2;have hl := hE.len h1;refine ⟨ab, ao, (Classical.choose (each ⟨i, hi'⟩)).2, rfl, trivial, ?_, by simpa using h1, fun j y hj => ?_⟩
   ·have h3 := h2 0 h0;rw [List.getElem?_eq_getElem (by omega), ha] at h3;exact (Zej h3).2
   ·have hjs : j < size := by have := (List.getElem?_eq_some_iff.1 hj).1; omega
    have h3 := h2 j hjs;rw [ha] at h3;exact h3.trans hj
theorem Zea : Tryz.prog.cellsOf 3 = 1 := by kernel_rfl
theorem Zeh : Tryz.prog.cellsOf 9 = 1 := by kernel_rfl
end
section
open Go.ChangeShapes Go.WideShapes Go.ChangeAt Go.RowKit
def Zde {α : Type} (N : Nat) (t : TypeId) (El : Za6 α) : Prop := ∀ {H : Type} {enc : TypeId × Value → H} {w : World} {spare : Nat → Bool} {held : Bool} (n : Nat) (_ : n ≤ N) (cs : List Value) (x : DataW H × List MemPlace), DataW.trod enc Tryz.prog w 0 spare held n t cs = some x → ∃ a, El (fun _ => True) w a cs
theorem Zlj.le {α : Type} {t : TypeId} {El : Za6 α} (h : Zlj t El) (N : Nat) : Zde N t El := fun n _ cs x hx => h n cs x hx
theorem Zde.mono {α : Type} {t : TypeId} {El : Za6 α} {N M : Nat} (h : Zde N t El) (hm : M ≤ N) : Zde M t El := fun n hn cs x hx => h n (Nat.le_trans hn hm) cs x hx
theorem Zdr {N : Nat} {α : Type} {El : Za6 α} {size : Nat} {S E : TypeId} (hS : Tryz.prog.underlying S = some (.slice E)) (hc : Tryz.prog.cellsOf E = size) (h0 : 0 < size) (hE : Zb2 El size) (hel : Zde N E El) : Zde N S (Zt6 El size) := by
 intro H enc w spare held n hn cs x h
 rcases DataW.trod_slice hS h with ⟨rfl, _⟩ | ⟨a, len, cap, elems, rest, m, hm, rfl, _, _, hlc, hcm, hel2, hall, _, _⟩
 ·exact ⟨[], _, rfl, Z5.nil _ _ _ _⟩
 ·by_cases hz : len = 0
  ·subst hz;exact ⟨[], _, rfl, some a, cap, rfl, Nat.zero_le _, hcm, fun i hi => by simp at hi⟩
  ·have each : ∀ i : Fin len, ∃ q : α × List Value, El (fun _ => True) w q.1 q.2 ∧ ∀ j, j < size → w.cell? ((a.add (i.1 * size)).add j) = q.2[j]? := fun i => by
    have h1 := hall i.1 i.2;have hi : i.1 < elems.length := by omega
    rw [List.getElem?_eq_getElem hi, Option.bind_eq_some_iff] at h1;obtain ⟨cs', hc', htr⟩ := h1;obtain ⟨p, hp⟩ := hel m (by omega) _ _ htr;rw [hc] at hc';obtain ⟨_, _, hcell⟩ := World.cells?_some hc';exact ⟨(p, cs'), hp, hcell⟩
   have hspot : a.spot = none := by
    obtain ⟨q, hq, hcell⟩ := each ⟨0, by omega⟩;have h1 := hcell 0 h0;have hl := hE.len hq;rw [List.getElem?_eq_getElem (by omega)] at h1;have := (Zej h1).1
    simpa [Addr.add] using this
   obtain ⟨ab, ao, asp⟩ := a;simp only at hspot;subst hspot;have ha : ∀ i k, ((⟨ab, ao, none⟩ : Addr).add i).add k = ⟨ab, ao + i + k, none⟩ := fun i k => by
    unfold Addr.add
    split <;> split <;> simp_all
   refine ⟨List.ofFn fun i => (Classical.choose (each i)).1, _, rfl, some ⟨ab, ao, none⟩, cap, by simp, by simpa using hlc, hcm, fun i hi => ?_⟩;have hi' : i < len := by simpa using hi
   have hc2 := Classical.choose_spec (each ⟨i, hi'⟩);obtain ⟨h1, h2⟩ := hc2;have hl := hE.len h1;refine ⟨ab, ao, (Classical.choose (each ⟨i, hi'⟩)).2, rfl, trivial, ?_, by simpa using h1, fun j y hj => ?_⟩
   ·have h3 := h2 0 h0;rw [List.getElem?_eq_getElem (by omega), ha] at h3;exact (Zej h3).2
   ·have hjs : j < size := by have := (List.getElem?_eq_some_iff.1 hj).1; omega
    have h3 := h2 j hjs;rw [ha] at h3;exact h3.trans hj
theorem Zcz : Tryz.prog.cellsOf 24 = 1 := by kernel_rfl
theorem Zis : Tryz.prog.cellsOf 126 = 3 := by kernel_rfl
theorem Zi6 : Zlj 126 Zao := by
 intro H enc w spare held n cs x h;obtain ⟨xs, m, _, _, hlen, hxl, hg⟩ := DataW.trod_struct Tryz.underlying126 h;rw [Zis] at hlen
 match cs, hlen with
 | [c0, c1, c2], _ =>
  match xs, hxl with
  | [y0, y1, y2], _ =>
   have g0 := hg 0 _ rfl;simp [Zea, Zcz, Zeh] at g0;have g1 := hg 1 _ rfl;simp [Zea, Zcz, Zeh] at g1;have g2 := hg 2 _ rfl;simp [Zea, Zcz, Zeh] at g2;obtain ⟨r0, e0, h0⟩ := Zep _ _ _ g0;simp only [List.cons.injEq, and_true] at e0;subst e0;obtain ⟨r1, v1, e1, h1⟩ := Zqt Tryz.underlying24 Zeh (by decide) Zt Zep _ _ _ g1;simp only [List.cons.injEq, and_true] at e1;subst e1;obtain ⟨r2, e2, h2⟩ := Zd2 _ _ _ g2;simp only [List.cons.injEq, and_true] at e2;subst e2;exact ⟨⟨r0, r1, r2⟩, _, rfl, h0, h1, h2⟩
theorem Zcy : Tryz.prog.cellsOf 120 = 1 := by kernel_rfl
theorem Zi7 : Tryz.prog.cellsOf 122 = 6 := by kernel_rfl
theorem Zgr (N : Nat) (ih : Zde N 122 (Zds N)) : Zde (N + 1) 122 (Zdf (Zds N)) := by
 intro H enc w spare held n hn cs x h;obtain ⟨xs, m, hm, _, hlen, hxl, hg⟩ := DataW.trod_struct Tryz.underlying122 h;rw [Zi7] at hlen
 match cs, hlen with
 | [c0, c1, c2, c3, c4, c5], _ =>
  match xs, hxl with
  | [y0, y1, y2, y3, y4, y5], _ =>
   have g0 := hg 0 _ rfl;simp [Zea, Zcy, Zeh] at g0;have g1 := hg 1 _ rfl;simp [Zea, Zcy, Zeh] at g1;have g2 := hg 2 _ rfl;simp [Zea, Zcy, Zeh] at g2;have g3 := hg 3 _ rfl;simp [Zea, Zcy, Zeh] at g3;have g4 := hg 4 _ rfl;simp [Zea, Zcy, Zeh] at g4;have g5 := hg 5 _ rfl;simp [Zea, Zcy, Zeh] at g5;obtain ⟨r0, e0, h0⟩ := Zd2 _ _ _ g0;simp only [List.cons.injEq, and_true] at e0;subst e0;obtain ⟨r1, e1, h1⟩ := Zd2 _ _ _ g1;simp only [List.cons.injEq, and_true] at e1;subst e1;obtain ⟨r2, e2, h2⟩ := Zd2 _ _ _ g2;simp only [List.cons.injEq, and_true] at e2;subst e2;obtain ⟨r3, e3, h3⟩ := Zd2 _ _ _ g3;simp only [List.cons.injEq, and_true] at e3;subst e3;obtain ⟨r4, e4, h4⟩ := Zep _ _ _ g4;simp only [List.cons.injEq, and_true] at e4;subst e4;obtain ⟨r5, v5, e5, h5⟩ := Zdr (N := N) Tryz.underlying120 Zi7 (by decide) (Zad N) (ih) m (by omega) _ _ g5;simp only [List.cons.injEq, and_true] at e5;subst e5;exact ⟨⟨r0, r1, r2, r3, r4, r5⟩, _, rfl, h0, h1, h2, h3, h4, h5⟩
theorem Zlk : ∀ N, Zde N 122 (Zds N)
 | 0 => fun n hn cs x h => by
  obtain rfl : n = 0 := by omega
  simp [DataW.trod] at h
 | N + 1 => Zgr N (Zlk N)
theorem Zct : Tryz.prog.cellsOf 24 = 1 := by kernel_rfl
theorem Zmh : Tryz.prog.cellsOf 124 = 9 := by kernel_rfl
theorem Zlw (N : Nat) : Zde (N + 1) 124 (Zby (Zds N)) := by
 intro H enc w spare held n hn cs x h;obtain ⟨xs, m, hm, _, hlen, hxl, hg⟩ := DataW.trod_struct Tryz.underlying124 h;rw [Zmh] at hlen
 match cs, hlen with
 | [c0, c1, c2, c3, c4, c5, c6, c7, c8], _ =>
  match xs, hxl with
  | [y0, y1, y2, y3], _ =>
   have g0 := hg 0 _ rfl;simp [Zi7, Zea, Zct, Zeh] at g0;have g1 := hg 1 _ rfl;simp [Zi7, Zea, Zct, Zeh] at g1;have g2 := hg 2 _ rfl;simp [Zi7, Zea, Zct, Zeh] at g2;have g3 := hg 3 _ rfl;simp [Zi7, Zea, Zct, Zeh] at g3;obtain ⟨r0, e0, h0⟩ := Zep _ _ _ g0;simp only [List.cons.injEq, and_true] at e0;subst e0;obtain ⟨r1, e1, h1⟩ := Zd2 _ _ _ g1;simp only [List.cons.injEq, and_true] at e1;subst e1;obtain ⟨r2, v2, e2, h2⟩ := Zdr (N := N) Tryz.underlying24 Zeh (by decide) Zt (Zep.le N) m (by omega) _ _ g2;simp only [List.cons.injEq, and_true] at e2;subst e2;obtain ⟨r3, w30, e3, h30, h31, h32, h33, h34, h35⟩ := Zgr N (Zlk N) m (by omega) _ _ g3;simp only [List.cons.injEq, and_true] at e3;obtain ⟨q30, q31, q32, q33, q34, q35⟩ := e3;subst q30 q31 q32 q33 q34 q35;exact ⟨⟨r0, r1, r2, r3⟩, _, _, rfl, h0, h1, h2, h30, h31, h32, h33, h34, h35⟩
theorem Zcj : Tryz.prog.cellsOf 22 = 1 := by kernel_rfl
theorem Zb6 : Tryz.prog.cellsOf 23 = 1 := by kernel_rfl
theorem Zcu : Tryz.prog.cellsOf 24 = 1 := by kernel_rfl
theorem Zqu : Tryz.prog.cellsOf 26 = 4 := by kernel_rfl
theorem Zlx (N : Nat) : Zde (N + 1) 26 (Zdj (Zds N)) := by
 intro H enc w spare held n hn cs x h;obtain ⟨xs, m, hm, _, hlen, hxl, hg⟩ := DataW.trod_struct Tryz.underlying26 h;rw [Zqu] at hlen
 match cs, hlen with
 | [c0, c1, c2, c3], _ =>
  match xs, hxl with
  | [y0, y1, y2, y3], _ =>
   have g0 := hg 0 _ rfl;simp [Zea, Zb6, Zcj, Zcu] at g0;have g1 := hg 1 _ rfl;simp [Zea, Zb6, Zcj, Zcu] at g1;have g2 := hg 2 _ rfl;simp [Zea, Zb6, Zcj, Zcu] at g2;have g3 := hg 3 _ rfl;simp [Zea, Zb6, Zcj, Zcu] at g3;obtain ⟨r0, v0, e0, h0⟩ := Zdr (N := N) Tryz.underlying22 Zmh (by decide) (Za9 (Zad N)) (Zde.mono (Zlw N) (by omega)) m (by omega) _ _ g0;simp only [List.cons.injEq, and_true] at e0;subst e0;obtain ⟨r1, v1, e1, h1⟩ := Zdr (N := N) Tryz.underlying23 Zis (by decide) Z7 (Zi6.le N) m (by omega) _ _ g1;simp only [List.cons.injEq, and_true] at e1;subst e1;obtain ⟨r2, v2, e2, h2⟩ := Zdr (N := N) Tryz.underlying24 Zeh (by decide) Zt (Zep.le N) m (by omega) _ _ g2;simp only [List.cons.injEq, and_true] at e2;subst e2;obtain ⟨r3, e3, h3⟩ := Zd2 _ _ _ g3;simp only [List.cons.injEq, and_true] at e3;subst e3;exact ⟨⟨r0, r1, r2, r3⟩, _, _, _, rfl, h0, h1, h2, h3⟩
end
section
open Go.ChangeShapes Go.WideShapes Go.ChangeAt Go.RowKit
theorem own : ownKnob Tryz.prog.godebug = none := by kernel_rfl
theorem Zt5 : laidOutB Tryz.prog = true := by kernel_rfl
section
variable {H : Type} {enc : TypeId × Value → H} {P : Program}
theorem Zhq (hl : laidOutB P = true) {W W' : World} {sp : Nat → Bool} : ∀ (ts : List TypeId) (vs : List Value) (ds : List (DataW H)) (ps : List MemPlace),
  (ts.all fun t => P.readableRec t && decide (t < P.types.size)) = true → DataW.TrodAll enc P W 0 (fun _ => true) true ts vs ds ps → (∀ p ∈ ps, W.sameAt W' p) → (∀ p ∈ ps, sp p.block = true) → DataW.TrodAll enc P W' 0 sp true ts vs ds ps
 | [], vs, ds, ps, _, h, _, _ => by
  obtain ⟨rfl, rfl, rfl⟩ := trodAll_nil h;exact trodAll_mk0
 | t :: ts, vs, ds, ps, hr, h, h1, h2 => by
  obtain ⟨v, vs', d, ds', p, q, rfl, rfl, rfl, hp, hq⟩ := trodAll_cons h;simp only [List.all_cons, Bool.and_eq_true, nJ] at hr;exact trodAll_cons_mk (WideElems.Trod_stays hl hr.1.1 hr.1.2 hp (fun x hx => h1 x (by simp [hx])) (fun x hx => h2 x (by simp [hx])))
   (Zhq hl ts vs' ds' q hr.2 hq (fun x hx => h1 x (by simp [hx])) (fun x hx => h2 x (by simp [hx])))
theorem Ztg (hl : laidOutB P = true) {f : Func} {s : ChangeSpec} {apart : Bool} {W W' : World} {args : Array Value} {ds gs : List (DataW H)} {before : List MemPlace} {t : TypeId}
  (hW : DataW.Whole enc P f.params.toList s.vars apart W args.toList ds gs before) (hv : s.vars = []) (hfn : s.fn H ds = { results := [.lit (.bool true)], args := ds })
  (hr : f.resultTypes = #[t]) (ht : P.underlying t = some .bool) (hp : (f.params.toList.all fun t => P.readableRec t && decide (t < P.types.size)) = true)
  (hb : Below W.heap.size W W') : s.post enc P f apart true false false W args (.bool true) W' := by
 have hlt : ∀ p ∈ before, p.block < W.heap.size := fun p hp => hW.lt p hp;have hW0 := hW;obtain ⟨p, q, hA, hV, rfl, hfz, hnd⟩ := hW;rw [hv] at hV;obtain ⟨rfl, rfl⟩ := trodVars_none hV;refine ⟨ds, [], p ++ [], [], p, [], hW0, ?_, ?_, ?_, World.keptBut_mono (fun x hx => ⟨hx, .inr (.inl (by simpa using hx))⟩) (hb.frame (· ∈ p ++ [])), fun h => by cases h⟩
 ·rw [List.append_nil, hfn, hr];exact trodAll_mk1 (shut_bool ht true)
 ·rw [List.append_nil, hfn];exact Zhq hl _ _ _ _ hp hA (fun x hx => hb.same (hlt x (by simp [hx]))) (fun x hx => by simpa using hlt x (by simp [hx]))
 ·rw [List.append_nil, hfn, hv]
  rfl
end
end
end Go.Proofs.YtcmmdchjppaimaaGreatDoor
