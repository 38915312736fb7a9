/- Part of the walks that the claim stands on. -/
import Derived.Test.YtpmhelkiicigfaaGreatDoorS5
import Derived.Test.YtpmhelkiicigfaaGreatDoorS3
import Derived.Test.YtpmhelkiicigfaaGreatDoorS1
import Derived.Test.YtpmhelkiicigfaaGreatDoorChecked
import Derived.ProofKit
import Derived.OpenShut
import Derived.ChangeArms
import Derived.Below
set_option maxRecDepth 100000
set_option maxHeartbeats 40000000
namespace Go.Proofs.YtpmhelkiicigfaaGreatDoor
open Go.RowKit
def Zd8 (A : Act) (W : World) (r : Zf) (q : Zg6) (C0 C1 : Value) (l : Array Bool) (a : Act) (u : World) : Prop :=
 ∃ x0 x1 x2 x3 x4 x5 x6 x7 x8 x9 x10 : Value, a = (((((((((((A.put (some 135) x0).put (some 136) x1).put (some 137) x2).put (some 138) x3).put (some 139) x4).put (some 134) x5).put (some 140) x6).put (some 141) x7).put (some 142) x8).put (some 143) x9).put (some 18) x10) ∧ Za W u ∧ Hd (bt l 0 → x0 = C0) ∧ Hd (bt l 1 → StR u r x1) ∧ Hd (bt l 2 → x2 = C1) ∧ Hd (bt l 3 → x3 = C1) ∧ Hd (bt l 4 → Zh8 W u q (fun b => bt l 10 ∧ b = Zg5 x10) x4) ∧ Hd (bt l 5 → x5 = x4 ∧ bt l 4) ∧ Hd (bt l 6 → x6 = Zgh x5 0 ∧ bt l 5) ∧ Hd (bt l 7 → x7 = Zgh x5 1 ∧ bt l 5) ∧ Hd (bt l 8 → x8 = Zgh x5 2 ∧ bt l 5) ∧ Hd (bt l 9 → x9 = Zgh x5 3 ∧ bt l 5) ∧ Hd (bt l 10 → AlR W u (.cells #[.int .i64 0, .string ⟨#[]⟩, .int .i64 0, .int .i64 0, .int .i64 0, .slice none 0 0] 55) x10)
def Zer (A : Act) (W : World) (r : Zf) (q : Zg6) (C0 C1 : Value) (l : Array Bool) (a : Act) (u : World) : Prop :=
 ∃ x0 x1 x2 x3 x4 x5 x6 x7 x8 x9 : Value, a = ((((((((((A.put (some 45) x0).put (some 46) x1).put (some 47) x2).put (some 48) x3).put (some 44) x4).put (some 49) x5).put (some 50) x6).put (some 51) x7).put (some 52) x8).put (some 11) x9) ∧ Za W u ∧ Hd (bt l 0 → x0 = C0) ∧ Hd (bt l 1 → x1 = C1) ∧ Hd (bt l 2 → x2 = C1) ∧ Hd (bt l 3 → Zh8 W u q (fun b => bt l 9 ∧ b = Zg5 x9) x3) ∧ Hd (bt l 4 → x4 = x3 ∧ bt l 3) ∧ Hd (bt l 5 → x5 = Zgh x4 0 ∧ bt l 4) ∧ Hd (bt l 6 → x6 = Zgh x4 1 ∧ bt l 4) ∧ Hd (bt l 7 → x7 = Zgh x4 2 ∧ bt l 4) ∧ Hd (bt l 8 → x8 = Zgh x4 3 ∧ bt l 4) ∧ Hd (bt l 9 → AlR W u (.cells #[.int .i64 0, .string ⟨#[]⟩, .int .i64 0, .int .i64 0, .int .i64 0, .slice none 0 0] 55) x9)
def Zd9 (A : Act) (W : World) (r : Zf) (q : Zg6) (C0 C1 : Value) (l : Array Bool) (a : Act) (u : World) : Prop :=
 ∃ x0 x1 x2 x3 x4 x5 x6 x7 x8 x9 x10 : Value, a = (((((((((((A.put (some 33) x0).put (some 34) x1).put (some 35) x2).put (some 36) x3).put (some 37) x4).put (some 32) x5).put (some 38) x6).put (some 39) x7).put (some 40) x8).put (some 41) x9).put (some 6) x10) ∧ Za W u ∧ Hd (bt l 0 → x0 = C0) ∧ Hd (bt l 1 → StR u r x1) ∧ Hd (bt l 2 → x2 = C1) ∧ Hd (bt l 3 → x3 = C1) ∧ Hd (bt l 4 → Zh8 W u q (fun b => bt l 10 ∧ b = Zg5 x10) x4) ∧ Hd (bt l 5 → x5 = x4 ∧ bt l 4) ∧ Hd (bt l 6 → x6 = Zgh x5 0 ∧ bt l 5) ∧ Hd (bt l 7 → x7 = Zgh x5 1 ∧ bt l 5) ∧ Hd (bt l 8 → x8 = Zgh x5 2 ∧ bt l 5) ∧ Hd (bt l 9 → x9 = Zgh x5 3 ∧ bt l 5) ∧ Hd (bt l 10 → AlR W u (.cells #[.int .i64 0, .string ⟨#[]⟩, .int .i64 0, .int .i64 0, .int .i64 0, .slice none 0 0] 55) x10)
theorem Zsp (r : Zf) (cs : List Value) (w : World) (x : Zd) (h : Zcf (fun _ => True) w r cs) (hx : Zg (fun _ => True) w x [.int .i64 x.kind, .int .i64 x.aH, .int .i64 x.index, .string x.text, .int .i64 x.set_.low, .int .i64 x.set_.high]) (ht : Spc w) (hp : Pw w) :
  Calls Tryz.prog 4 #[.agg cs.toArray, .agg #[.int .i64 x.kind, .int .i64 x.aH, .int .i64 x.index, .string x.text, .int .i64 x.set_.low, .int .i64 x.set_.high]] w fun e w' => e = .returned (.bool true) ∧ Below w.heap.size w w' := by
 have hh := h;obtain ⟨aL, aM, aN, aO, aP, aQ, aR, rfl, _⟩ := h;have HH := zh hh;have HX64 := zh hx;obtain ⟨w3, hw3⟩ : ∃ z, z = ((w.alloc (.cells #[aL, aM, aN, aO, .string r.aC, .int .i64 r.aD, aP, aQ, aR, .bool r.aF, .int .i64 r.ticks, .int .i64 r.aG, .int .i64 r.made] 47)).alloc (.cells #[.int .i64 x.kind, .int .i64 x.aH, .int .i64 x.index, .string x.text, .int .i64 x.set_.low, .int .i64 x.set_.high] 50)) := ⟨_, rfl⟩;have HL := zh (show Za w w3 by rw [hw3]; exact ((Za.refl w).alloc _).alloc _);have HMB := zh (show w3.heap[w.heap.size]? = some (.cells #[aL, aM, aN, aO, .string r.aC, .int .i64 r.aD, aP, aQ, aR, .bool r.aF, .int .i64 r.ticks, .int .i64 r.aG, .int .i64 r.made] 47 (0, 0)) by rw [hw3]; exact ((Za.refl (w.alloc (.cells #[aL, aM, aN, aO, .string r.aC, .int .i64 r.aD, aP, aQ, aR, .bool r.aF, .int .i64 r.ticks, .int .i64 r.aG, .int .i64 r.made] 47))).alloc _).block (w.heap.size) (by simp) |>.trans (Za8 (by simp)));have HXB := zh (show w3.heap[w.heap.size + 1]? = some (.cells #[.int .i64 x.kind, .int .i64 x.aH, .int .i64 x.index, .string x.text, .int .i64 x.set_.low, .int .i64 x.set_.high] 50 (0, 0)) by rw [hw3]; exact Za8 (by simp));have HT := zh (ht.below HL.o);have HPW := zh (hp.below HL.o);have HLC := zh (Za.refl w3);obtain ⟨qq, hqq⟩ : ∃ z, Zet r x = z := ⟨_, rfl⟩
 have HQ := zh hqq;clear hqq hh hx ht hp;go_enter Tryz.func4, Tryz.ntmps4;go_upto_region 1 with (fail);rw [← hw3];clear hw3;have HMBC := zB HLC HMB;obtain ⟨n0, n1, n2, n3, n4, n5, n6, n7, n8, n9, n10, n11, n12⟩ := Zbb HMBC.o;have HXBC := zB HLC HXB;have p0 := cz6 HXBC.o
 by_cases hb1 : (1048576 : Int) < (Zav r : Nat)
 ·have HLF := zh (Z8 (n := Zav r) (l := (1048576 : Int)) (by omega));go_wp2_with fail;refine (Zj4 r _ (fun _ => True) _ 1048576 (by decide) (by decide) (Zal.keep HH.o (fun _ h => h) (Ze.later (HL.o.trans HLC.o)))).mono ?_;rintro e x1 ⟨rfl, hcl⟩;clear HMBC n0 n1 n2 n3 n4 n5 n6 n7 n8 n9 n10 n11 n12 HXBC p0;replace HLC := zh (HLC.o.trans hcl);clear hcl;have HMBC := zB HLC HMB;obtain ⟨n0, n1, n2, n3, n4, n5, n6, n7, n8, n9, n10, n11, n12⟩ := Zbb HMBC.o;have HXBC := zB HLC HXB;have p0 := cz6 HXBC.o;rw [HLF.o];go_wp2_with fail;go_ret;exact ⟨rfl, HL.o.trans HLC.o⟩
 ·have HLF := zh (Zan (n := Zav r) (l := (1048576 : Int)) (by omega));go_wp2_with fail;refine (Zj4 r _ (fun _ => True) _ 1048576 (by decide) (by decide) (Zal.keep HH.o (fun _ h => h) (Ze.later (HL.o.trans HLC.o)))).mono ?_;rintro e y1 ⟨rfl, hcl⟩;clear HMBC n0 n1 n2 n3 n4 n5 n6 n7 n8 n9 n10 n11 n12 HXBC p0;replace HLC := zh (HLC.o.trans hcl);clear hcl;have HMBC := zB HLC HMB;obtain ⟨n0, n1, n2, n3, n4, n5, n6, n7, n8, n9, n10, n11, n12⟩ := Zbb HMBC.o;have HXBC := zB HLC HXB;have p0 := cz6 HXBC.o;rw [HLF.o];have u1 : decide ((1048576 - (Zav r : Nat) : Int) < 0) = false := decide_eq_false (by omega)
  by_cases hb2 : (1048576 - (Zav r : Nat)) < (Zw x : Nat)
  ·have HLF := zh (Z8 (n := Zw x) (l := (1048576 - (Zav r : Nat))) (by omega));go_wp2_with fail;refine (Zgr x _ (fun _ => True) _ (1048576 - (Zav r : Nat)) (by omega) (by omega) (Zc.keep (G := fun _ => True) HX64.o (fun _ h => h) (Ze.later (HL.o.trans HLC.o)))).mono ?_;rintro e x2 ⟨rfl, hcl⟩;clear HMBC n0 n1 n2 n3 n4 n5 n6 n7 n8 n9 n10 n11 n12 HXBC p0;replace HLC := zh (HLC.o.trans hcl);clear hcl;have HMBC := zB HLC HMB;obtain ⟨n0, n1, n2, n3, n4, n5, n6, n7, n8, n9, n10, n11, n12⟩ := Zbb HMBC.o;have HXBC := zB HLC HXB;have p0 := cz6 HXBC.o;rw [HLF.o];go_wp2_with fail;go_ret;exact ⟨rfl, HL.o.trans HLC.o⟩
  ·have HLF := zh (Zan (n := Zw x) (l := (1048576 - (Zav r : Nat))) (by omega));go_wp2_with fail;refine (Zgr x _ (fun _ => True) _ (1048576 - (Zav r : Nat)) (by omega) (by omega) (Zc.keep (G := fun _ => True) HX64.o (fun _ h => h) (Ze.later (HL.o.trans HLC.o)))).mono ?_;rintro e y2 ⟨rfl, hcl⟩;clear HMBC n0 n1 n2 n3 n4 n5 n6 n7 n8 n9 n10 n11 n12 HXBC p0;replace HLC := zh (HLC.o.trans hcl);clear hcl;have HMBC := zB HLC HMB;obtain ⟨n0, n1, n2, n3, n4, n5, n6, n7, n8, n9, n10, n11, n12⟩ := Zbb HMBC.o;have HXBC := zB HLC HXB;have p0 := cz6 HXBC.o;rw [HLF.o];have u2 : decide ((1048576 - (Zav r : Nat) - (Zw x : Nat) : Int) < 0) = false := decide_eq_false (by omega);clear HMBC n0 n1 n2 n3 n4 n5 n6 n7 n8 n9 n10 n11 n12 HXBC p0;have hsz : Zav r ≤ 1048576 := by omega
   have hxz : Zw x ≤ 1048576 := by omega
   have HRK := zh (show (1 : Int) + (Zdg r : Nat) ≤ 1099511627776 by have := Zsk r; omega);have HQ4 := zh (show Za6 (Zb6 lv) qq.p + Zi (Zb6 (lv + 1)) qq.ds + Zi Z2 qq.vs ≤ 100000 by have h1 := Zsl r x; rw [HQ.o] at h1; exact h1);have HN1 := zh (show (1 : Int) + (Za6 (Zb6 lv) qq.p : Nat) ≤ 1099511627776 by have := HQ4.o; omega);have HN2 := zh (show ((1 : Int) + (Za6 (Zb6 lv) qq.p : Nat)) + (Zi (Zb6 (lv + 1)) qq.ds : Nat) ≤ 1099511627776 by have := HQ4.o; omega);have HN3 := zh (show ((1 : Int) + (Za6 (Zb6 lv) qq.p : Nat) + (Zi (Zb6 (lv + 1)) qq.ds : Nat)) + (Zi Z2 qq.vs : Nat) ≤ 1099511627776 by have := HQ4.o; omega);have HP2 := zh (show (1 : Int) ≤ ((1 : Int) + (Za6 (Zb6 lv) qq.p : Nat)) by omega);have HP3 := zh (show (1 : Int) ≤ ((1 : Int) + (Za6 (Zb6 lv) qq.p : Nat) + (Zi (Zb6 (lv + 1)) qq.ds : Nat)) by omega);have kr : decide ((1 : Int) + (Zdg r : Nat) < 0) = false := decide_eq_false (by omega);have kp : decide ((1 : Int) + (Za6 (Zb6 lv) qq.p : Nat) < 0) = false := decide_eq_false (by omega);have kd : decide (((1 : Int) + (Za6 (Zb6 lv) qq.p : Nat)) + (Zi (Zb6 (lv + 1)) qq.ds : Nat) < 0) = false := decide_eq_false (by omega);have kv : decide (((1 : Int) + (Za6 (Zb6 lv) qq.p : Nat) + (Zi (Zb6 (lv + 1)) qq.ds : Nat)) + (Zi Z2 qq.vs : Nat) < 0) = false := decide_eq_false (by omega);go_upto_region 8 with (fail);refine Zm6 (fun A hA => ?_)
   have HA := zh hA;clear hA;refine Zjq (I := Zd9 A y2 r qq (.agg #[aL, aM, aN, aO, .string r.aC, .int .i64 r.aD, aP, aQ, aR, .bool r.aF, .int .i64 r.ticks, .int .i64 r.aG, .int .i64 r.made]) (.agg #[.int .i64 x.kind, .int .i64 x.aH, .int .i64 x.index, .string x.text, .int .i64 x.set_.low, .int .i64 x.set_.high])) [11, 12, 13, 14] [7, 8, 9] [0, 1, 2, 3, 4, 5, 6, 10] [_, _, _, _] (by kernel_rfl) (by kernel_rfl) (by kernel_rfl) rfl (fun _ _ _ _ _ h => h) ?_ ?_ ?_ ?_
   ·rintro _ rfl;unfold Zd9;refine ⟨undef, undef, undef, undef, undef, undef, undef, undef, undef, undef, undef, ?_, Below.drew (Za.refl _), zh fun h => (Za5 h).elim, zh fun h => (Za5 h).elim, zh fun h => (Za5 h).elim, zh fun h => (Za5 h).elim, zh fun h => (Za5 h).elim, zh fun h => (Za5 h).elim, zh fun h => (Za5 h).elim, zh fun h => (Za5 h).elim, zh fun h => (Za5 h).elim, zh fun h => (Za5 h).elim, zh fun h => (Za5 h).elim⟩;rw [HA.o];simp only [Act.put, nA, nB, nC]
   ·intro Q' i hi o' ho';simp only [List.mem_cons, List.not_mem_nil, or_false] at hi
    rcases hi with rfl | rfl | rfl | rfl | rfl | rfl | rfl | rfl
    ·refine Zc2 (n := 15) rfl rfl [] (by kernel_rfl) (fun l a u hI hs hun hD => ?_) ho';obtain ⟨x0, x1, x2, x3, x4, x5, x6, x7, x8, x9, x10, ha, hu, F0, F1, F2, F3, F4, F5, F6, F7, F8, F9, F10⟩ := hI;rw [HA.o] at ha;simp only [Act.put, nA, nB, nC] at ha;subst ha;have HLC := zh (HLC.o.trans hu);have HMBC := zB HLC HMB;obtain ⟨n0, n1, n2, n3, n4, n5, n6, n7, n8, n9, n10, n11, n12⟩ := Zbb HMBC.o;go_wp2_with fail
     first | refine Z1 ?_ | skip
     unfold Zd9;refine ⟨(.agg #[aL, aM, aN, aO, .string r.aC, .int .i64 r.aD, aP, aQ, aR, .bool r.aF, .int .i64 r.ticks, .int .i64 r.aG, .int .i64 r.made]), x1, x2, x3, x4, x5, x6, x7, x8, x9, x10, ?_, hu.trans (Za.refl _),
      zh fun _ => rfl, kS F1 (Za.refl _), kc F2, kc F3, kP F4 (Za.refl _), kM F5, kM F6, kM F7, kM F8, kM F9, kA F10 (Za.refl _)⟩
     rw [HA.o];simp only [Act.put, nA, nB, nC]
    ·refine Zc2 (n := 15) rfl rfl [0] (by kernel_rfl) (fun l a u hI hs hun hD => ?_) ho';obtain ⟨x0, x1, x2, x3, x4, x5, x6, x7, x8, x9, x10, ha, hu, F0, F1, F2, F3, F4, F5, F6, F7, F8, F9, F10⟩ := hI;rw [HA.o] at ha;simp only [Act.put, nA, nB, nC] at ha;subst ha;have e0 := F0.o (hD 0 (by simp));have HLC := zh (HLC.o.trans hu);go_wp2_with fail;refine (Zfb r _ (fun _ => True) _ hsz (Zal.keep HH.o (fun _ h => h) (Ze.later (HL.o.trans HLC.o)))).mono ?_;rintro e v ⟨cs1, rfl, hsp, hb⟩;go_wp2_with fail
     first | refine Z1 ?_ | skip
     unfold Zd9;refine ⟨x0, .agg cs1.toArray, x2, x3, x4, x5, x6, x7, x8, x9, x10, ?_, hu.trans hb,
      kc F0, zh fun _ => ⟨_, rfl, Zal.keep (Zbq.el hsp) (fun _ _ => trivial) (Ze.refl _ _)⟩, kc F2, kc F3, kP F4 hb, kM F5, kM F6, kM F7, kM F8, kM F9, kA F10 hb⟩
     rw [HA.o];simp only [Act.put, List.setIfInBounds_toArray, List.set_cons_zero, List.set_cons_succ, e0]
    ·refine Zc2 (n := 15) rfl rfl [] (by kernel_rfl) (fun l a u hI hs hun hD => ?_) ho';obtain ⟨x0, x1, x2, x3, x4, x5, x6, x7, x8, x9, x10, ha, hu, F0, F1, F2, F3, F4, F5, F6, F7, F8, F9, F10⟩ := hI;rw [HA.o] at ha;simp only [Act.put, nA, nB, nC] at ha;subst ha;have HLC := zh (HLC.o.trans hu);have HXBC := zB HLC HXB;have p0 := cz6 HXBC.o;go_wp2_with fail
     first | refine Z1 ?_ | skip
     unfold Zd9;refine ⟨x0, x1, (.agg #[.int .i64 x.kind, .int .i64 x.aH, .int .i64 x.index, .string x.text, .int .i64 x.set_.low, .int .i64 x.set_.high]), x3, x4, x5, x6, x7, x8, x9, x10, ?_, hu.trans (Za.refl _),
      kc F0, kS F1 (Za.refl _), zh fun _ => rfl, kc F3, kP F4 (Za.refl _), kM F5, kM F6, kM F7, kM F8, kM F9, kA F10 (Za.refl _)⟩
     rw [HA.o];simp only [Act.put, nA, nB, nC]
    ·refine Zc2 (n := 15) rfl rfl [2, 1] (by kernel_rfl) (fun l a u hI hs hun hD => ?_) ho';obtain ⟨x0, x1, x2, x3, x4, x5, x6, x7, x8, x9, x10, ha, hu, F0, F1, F2, F3, F4, F5, F6, F7, F8, F9, F10⟩ := hI;rw [HA.o] at ha;simp only [Act.put, nA, nB, nC] at ha;subst ha;have e2 := F2.o (hD 2 (by simp));have e1 := F1.o (hD 1 (by simp));have HLC := zh (HLC.o.trans hu);go_wp2_with fail;refine (Zfa x _ (fun _ => True) _ hxz (Zc.keep (G := fun _ => True) HX64.o (fun _ h => h) (Ze.later (HL.o.trans HLC.o)))).mono ?_;rintro e v ⟨cs1, rfl, hv, hb⟩;obtain ⟨rfl, _⟩ := hv;go_wp2_with fail
     first | refine Z1 ?_ | skip
     unfold Zd9;refine ⟨x0, x1, x2, (.agg #[.int .i64 x.kind, .int .i64 x.aH, .int .i64 x.index, .string x.text, .int .i64 x.set_.low, .int .i64 x.set_.high]), x4, x5, x6, x7, x8, x9, x10, ?_, hu.trans hb,
      kc F0, kS F1 hb, kc F2, zh fun _ => rfl, kP F4 hb, kM F5, kM F6, kM F7, kM F8, kM F9, kA F10 hb⟩
     rw [HA.o];simp only [Act.put, List.setIfInBounds_toArray, List.set_cons_zero, List.set_cons_succ, e2]
    ·refine Zc2 (n := 15) rfl rfl [1, 3, 3] (by kernel_rfl) (fun l a u hI hs hun hD => ?_) ho';obtain ⟨x0, x1, x2, x3, x4, x5, x6, x7, x8, x9, x10, ha, hu, F0, F1, F2, F3, F4, F5, F6, F7, F8, F9, F10⟩ := hI;rw [HA.o] at ha;simp only [Act.put, nA, nB, nC] at ha;subst ha;have e1 := F1.o (hD 1 (by simp));have e3 := F3.o (hD 3 (by simp));have e3 := F3.o (hD 3 (by simp));have HLC := zh (HLC.o.trans hu);obtain ⟨cs1, h1, hs1⟩ := e1;go_wp2_with fail;refine (Zgb r (cs1) (fun _ => True) _ x hsz hs1 (Zc.keep (G := fun _ => True) HX64.o (fun _ h => h) (Ze.later (HL.o.trans HLC.o)))).mono ?_;rintro e v hex;rw [HQ.o] at hex;obtain ⟨z, rfl, hr, hb⟩ := Zh8.new (W := y2) (N := fun b => bt (l.setIfInBounds 4 true) 10 ∧ b = Zg5 x10) hex hu (fun b hN => by rw [hN.2]; exact (F10.o (Zeq (by decide) hN.1)).lt);go_wp2_with fail
     first | refine Z1 ?_ | skip
     unfold Zd9;refine ⟨x0, x1, x2, x3, z, x5, x6, x7, x8, x9, x10, ?_, hu.trans hb,
      kc F0, kS F1 hb, kc F2, kc F3, zh fun _ => hr, kX F5 hun, kM F6, kM F7, kM F8, kM F9, kA F10 hb⟩
     rw [HA.o];simp only [Act.put, List.setIfInBounds_toArray, List.set_cons_zero, List.set_cons_succ, h1, e3]
    ·refine Zc2 (n := 15) rfl rfl [4] (by kernel_rfl) (fun l a u hI hs hun hD => ?_) ho';obtain ⟨x0, x1, x2, x3, x4, x5, x6, x7, x8, x9, x10, ha, hu, F0, F1, F2, F3, F4, F5, F6, F7, F8, F9, F10⟩ := hI;rw [HA.o] at ha;simp only [Act.put, nA, nB, nC] at ha;subst ha;have e4 := F4.o (hD 4 (by simp));clear e4;go_wp2_with fail
     first | refine Z1 ?_ | skip
     unfold Zd9;refine ⟨x0, x1, x2, x3, x4, x4, x6, x7, x8, x9, x10, ?_, hu.trans (Za.refl _),
      kc F0, kS F1 (Za.refl _), kc F2, kc F3, kP F4 (Za.refl _), zh fun _ => ⟨rfl, Zc8 (hD 4 (by simp))⟩, kX F6 hun, kX F7 hun, kX F8 hun, kX F9 hun, kA F10 (Za.refl _)⟩
     rw [HA.o];simp only [Act.put, nA, nB, nC]
    ·refine Zc2 (n := 15) rfl rfl [5] (by kernel_rfl) (fun l a u hI hs hun hD => ?_) ho';obtain ⟨x0, x1, x2, x3, x4, x5, x6, x7, x8, x9, x10, ha, hu, F0, F1, F2, F3, F4, F5, F6, F7, F8, F9, F10⟩ := hI;rw [HA.o] at ha;simp only [Act.put, nA, nB, nC] at ha;subst ha;have e5 := F5.o (hD 5 (by simp));obtain ⟨pc1, vd1, vv1, _, _, _, h6, _, _⟩ := F4.o e5.2;have h7 := e5.1.trans h6;clear h6 e5;go_wp2_with fail
     first | refine Z1 ?_ | skip
     unfold Zd9;refine ⟨x0, x1, x2, x3, x4, x5, .agg pc1.toArray, x7, x8, x9, x10, ?_, hu.trans (Za.refl _),
      kc F0, kS F1 (Za.refl _), kc F2, kc F3, kP F4 (Za.refl _), kM F5, zh fun _ => ⟨by rw [h7]; rfl, Zc8 (hD 5 (by simp))⟩, kM F7, kM F8, kM F9, kA F10 (Za.refl _)⟩
     rw [HA.o];simp only [Act.put, List.setIfInBounds_toArray, List.set_cons_zero, List.set_cons_succ, h7]
    ·refine Zc2 (n := 15) rfl rfl [] (by kernel_rfl) (fun l a u hI hs hun hD => ?_) ho';obtain ⟨x0, x1, x2, x3, x4, x5, x6, x7, x8, x9, x10, ha, hu, F0, F1, F2, F3, F4, F5, F6, F7, F8, F9, F10⟩ := hI;rw [HA.o] at ha;simp only [Act.put, nA, nB, nC] at ha;subst ha;go_wp2_with fail
     first | refine Z1 ?_ | skip
     unfold Zd9;refine ⟨x0, x1, x2, x3, x4, x5, x6, x7, x8, x9, .pointer (some ⟨u.heap.size, 0, none⟩), ?_, hu.trans ((Za.refl _).alloc _),
      kc F0, kS F1 ((Za.refl _).alloc _), kc F2, kc F3, kPa F4 ((Za.refl _).alloc _), kM F5, kM F6, kM F7, kM F8, kM F9, zh fun _ => AlR.new _ hu⟩
     rw [HA.o];simp only [Act.put, nA, nB, nC]
   ·intro i hi o' ho';simp only [List.mem_cons, List.not_mem_nil, or_false] at hi
    rcases hi with rfl | rfl | rfl
    ·refine Zi1 (some 39) (n := 15) rfl rfl rfl [5] (by kernel_rfl) (fun _ => rfl) (fun l a u hI hs hun hD => ?_) ho';obtain ⟨x0, x1, x2, x3, x4, x5, x6, x7, x8, x9, x10, ha, hu, F0, F1, F2, F3, F4, F5, F6, F7, F8, F9, F10⟩ := hI;rw [HA.o] at ha;simp only [Act.put, nA, nB, nC] at ha;subst ha;have e5 := F5.o (hD 5 (by simp));obtain ⟨pc1, vd1, vv1, _, _, _, h6, _, _⟩ := F4.o e5.2;have h7 := e5.1.trans h6;clear h6 e5;refine ⟨vd1, fun y => ?_, ?_⟩
     ·go_simp
     first | refine Z1 ?_ | skip
     unfold Zd9;refine ⟨x0, x1, x2, x3, x4, x5, x6, vd1, x8, x9, x10, ?_, hu.trans (Za.refl _),
      kc F0, kS F1 (Za.refl _), kc F2, kc F3, kP F4 (Za.refl _), kM F5, kM F6, zh fun _ => ⟨by rw [h7]; rfl, Zc8 (hD 5 (by simp))⟩, kM F8, kM F9, kA F10 (Za.refl _)⟩
     rw [HA.o];simp only [Act.put, List.setIfInBounds_toArray, List.set_cons_zero, List.set_cons_succ, h7]
    ·refine Zi1 (some 40) (n := 15) rfl rfl rfl [5] (by kernel_rfl) (fun _ => rfl) (fun l a u hI hs hun hD => ?_) ho';obtain ⟨x0, x1, x2, x3, x4, x5, x6, x7, x8, x9, x10, ha, hu, F0, F1, F2, F3, F4, F5, F6, F7, F8, F9, F10⟩ := hI;rw [HA.o] at ha;simp only [Act.put, nA, nB, nC] at ha;subst ha;have e5 := F5.o (hD 5 (by simp));obtain ⟨pc1, vd1, vv1, _, _, _, h6, _, _⟩ := F4.o e5.2;have h7 := e5.1.trans h6;clear h6 e5;refine ⟨vv1, fun y => ?_, ?_⟩
     ·go_simp
     first | refine Z1 ?_ | skip
     unfold Zd9;refine ⟨x0, x1, x2, x3, x4, x5, x6, x7, vv1, x9, x10, ?_, hu.trans (Za.refl _),
      kc F0, kS F1 (Za.refl _), kc F2, kc F3, kP F4 (Za.refl _), kM F5, kM F6, kM F7, zh fun _ => ⟨by rw [h7]; rfl, Zc8 (hD 5 (by simp))⟩, kM F9, kA F10 (Za.refl _)⟩
     rw [HA.o];simp only [Act.put, List.setIfInBounds_toArray, List.set_cons_zero, List.set_cons_succ, h7]
    ·refine Zi1 (some 41) (n := 15) rfl rfl rfl [5] (by kernel_rfl) (fun _ => rfl) (fun l a u hI hs hun hD => ?_) ho';obtain ⟨x0, x1, x2, x3, x4, x5, x6, x7, x8, x9, x10, ha, hu, F0, F1, F2, F3, F4, F5, F6, F7, F8, F9, F10⟩ := hI;rw [HA.o] at ha;simp only [Act.put, nA, nB, nC] at ha;subst ha;have e5 := F5.o (hD 5 (by simp));obtain ⟨pc1, vd1, vv1, _, _, _, h6, _, _⟩ := F4.o e5.2;have h7 := e5.1.trans h6;clear h6 e5;refine ⟨.int .i64 qq.c, fun y => ?_, ?_⟩
     ·go_simp
     first | refine Z1 ?_ | skip
     unfold Zd9;refine ⟨x0, x1, x2, x3, x4, x5, x6, x7, x8, .int .i64 qq.c, x10, ?_, hu.trans (Za.refl _),
      kc F0, kS F1 (Za.refl _), kc F2, kc F3, kP F4 (Za.refl _), kM F5, kM F6, kM F7, kM F8, zh fun _ => ⟨by rw [h7]; rfl, Zc8 (hD 5 (by simp))⟩, kA F10 (Za.refl _)⟩
     rw [HA.o];simp only [Act.put, List.setIfInBounds_toArray, List.set_cons_zero, List.set_cons_succ, h7]
   ·intro a u hI;obtain ⟨x0, x1, x2, x3, x4, x5, x6, x7, x8, x9, x10, ha, hu, F0, F1, F2, F3, F4, F5, F6, F7, F8, F9, F10⟩ := hI;rw [HA.o] at ha;simp only [Act.put, nA, nB, nC] at ha;subst ha;obtain ⟨pc1, vd1, vv1, How, Dow, Gow, h6, hpt, hN⟩ := F4.o (Zb3 (by kernel_rfl));have h7 := (F5.o (Zb3 (by kernel_rfl))).1;have e6 : x6 = .agg pc1.toArray := by rw [(F6.o (Zb3 (by kernel_rfl))).1, h7, h6]; rfl
    have e7 : x7 = vd1 := by rw [(F7.o (Zb3 (by kernel_rfl))).1, h7, h6]; rfl
    have e8 : x8 = vv1 := by rw [(F8.o (Zb3 (by kernel_rfl))).1, h7, h6]; rfl
    have e9 : x9 = .int .i64 qq.c := by rw [(F9.o (Zb3 (by kernel_rfl))).1, h7, h6]; rfl
    obtain ⟨Bow, e10, hB, hWB⟩ := F10.o (Zb3 (by kernel_rfl));have hFB := hN Bow ⟨(Zb3 (by kernel_rfl)), by rw [e10]; rfl⟩;clear F0 F1 F2 F3 F4 F5 F6 F7 F8 F9 F10 hN HA A;subst e6 e7 e8 e9 e10;obtain ⟨tg, kq, rfl, _, _, _, _, _, hkq⟩ := hpt.pat;obtain ⟨kow, now, rfl, -⟩ := hkq;obtain ⟨aow, bow, rfl, -⟩ := id hpt.defs;obtain ⟨eow, fow, rfl, -⟩ := id hpt.vals;have hd := Zg7 (pcs := [.int .i64 qq.p.op, .string qq.p.text, .int .i64 qq.p.aH, .int .i64 qq.p.set_.low, .int .i64 qq.p.set_.high, .slice kow qq.p.kids.length now]) hu hB rfl hWB hpt hFB;obtain ⟨Yow, hY⟩ : ∃ z, z = Zz u Bow 0 [.int .i64 qq.p.op, .string qq.p.text, .int .i64 qq.p.aH, .int .i64 qq.p.set_.low, .int .i64 qq.p.set_.high, .slice kow qq.p.kids.length now] := ⟨_, rfl⟩;rw [← hY] at hd;simp only [Zz, Nat.zero_add, Nat.reduceAdd] at hY;have HYE := zh hY;have HD := zh hd;have HBK := zh hB;clear hY hd hB hpt;have b0 := cz6 HBK.o;have fb0 := fz HBK.o;go_upto_region 9 with (fail);rw [← HYE.o];clear b0 fb0 HYE HBK;obtain ⟨ho, hl⟩ := HD.o;clear HD hFB hWB;obtain ⟨Sow, hS⟩ : ∃ z, z = u.heap.size := ⟨_, rfl⟩;rw [← hS] at ho;clear hS hu;replace HLC := zh (HLC.o.trans hl);have HOow := zh ho;clear ho hl;have HMBC := zB HLC HMB;obtain ⟨n0, n1, n2, n3, n4, n5, n6, n7, n8, n9, n10, n11, n12⟩ := Zbb HMBC.o;go_wp2_with fail;refine (Zfb r _ (fun _ => True) _ hsz (Zal.keep HH.o (fun _ h => h) (Ze.later (HL.o.trans HLC.o)))).mono ?_;rintro e vx ⟨cs1, rfl, hsp, hb⟩
    clear HMBC n0 n1 n2 n3 n4 n5 n6 n7 n8 n9 n10 n11 n12;have hsp2 := hsp;obtain ⟨_, ox0, ox1, ox2, ox3, ox4, ox5, ox6, rfl, r0, r1, r2, r3, _, _, r4, r5, r6, _⟩ := hsp2;obtain ⟨pox0, dox0, rfl, _⟩ := r0;obtain ⟨pox1, dox1, rfl, _⟩ := r1;obtain ⟨pox2, dox2, rfl, _⟩ := r2;obtain ⟨pox3, dox3, rfl, _⟩ := r3;obtain ⟨pox4, dox4, rfl, _⟩ := r4;obtain ⟨pox5, dox5, rfl, _⟩ := r5;obtain ⟨pox6, dox6, rfl, _⟩ := r6;have hd := Zqk hb hsp (fun b hb => hb);clear hsp hb;obtain ⟨Yox, hY⟩ : ∃ z, z = vx.alloc (.cells #[.slice pox0 r.names.length dox0, .slice pox1 r.aB.length dox1, .slice pox2 r.aA.length dox2, .slice pox3 r.globals.length dox3, .string r.aC, .int .i64 r.aD, .slice pox4 r.output.length dox4, .slice pox5 r.trace.length dox5, .slice pox6 r.aE.length dox6, .bool r.aF, .int .i64 r.ticks, .int .i64 r.aG, .int .i64 r.made] 30) := ⟨_, rfl⟩;rw [← hY] at hd;have HYE := zh hY;have HD := zh hd;clear hY hd;go_upto_region 10 with (fail);rw [← HYE.o];clear HYE;obtain ⟨ho, hl⟩ := HD.o;clear HD;obtain ⟨Box, hB⟩ : ∃ z, z = vx.heap.size := ⟨_, rfl⟩;rw [← hB] at ho
    try rw [← hB]
    clear hB;have HLEwx := zh HOow.o.le;have HX3 := zh HLC.o.size;replace HLC := zh (HLC.o.trans hl);replace HOow := zh (HOow.o.later hl);have HOox := zh ho;have HXL := zh (Nat.le_trans HOox.o.loB (Nat.le_of_lt HOox.o.hiB));have HXY := zh HOox.o.le;have HLC3 := zh HLC.o.size;clear ho hl;go_upto_region 10 with (fail);refine Zm6 (fun A hA => ?_);have HA := zh hA;clear hA;refine Zjq (I := Zer A Yox r qq (.agg #[.slice pox0 r.names.length dox0, .slice pox1 r.aB.length dox1, .slice pox2 r.aA.length dox2, .slice pox3 r.globals.length dox3, .string r.aC, .int .i64 r.aD, .slice pox4 r.output.length dox4, .slice pox5 r.trace.length dox5, .slice pox6 r.aE.length dox6, .bool r.aF, .int .i64 r.ticks, .int .i64 r.aG, .int .i64 r.made]) (.agg #[.int .i64 x.kind, .int .i64 x.aH, .int .i64 x.index, .string x.text, .int .i64 x.set_.low, .int .i64 x.set_.high])) [10, 11, 12, 13] [6, 7, 8] [0, 1, 2, 3, 4, 5, 9] [_, _, _, _] (by kernel_rfl) (by kernel_rfl) (by kernel_rfl) rfl (fun _ _ _ _ _ h => h) ?_ ?_ ?_ ?_
    ·rintro _ rfl;unfold Zer;refine ⟨undef, undef, undef, undef, undef, undef, undef, undef, undef, undef, ?_, Below.drew (Za.refl _), zh fun h => (Za5 h).elim, zh fun h => (Za5 h).elim, zh fun h => (Za5 h).elim, zh fun h => (Za5 h).elim, zh fun h => (Za5 h).elim, zh fun h => (Za5 h).elim, zh fun h => (Za5 h).elim, zh fun h => (Za5 h).elim, zh fun h => (Za5 h).elim, zh fun h => (Za5 h).elim⟩;rw [HA.o];simp only [Act.put, nA, nB, nC]
    ·intro Q' i hi o' ho';simp only [List.mem_cons, List.not_mem_nil, or_false] at hi
     rcases hi with rfl | rfl | rfl | rfl | rfl | rfl | rfl
     ·refine Zc2 (n := 14) rfl rfl [] (by kernel_rfl) (fun l a u hI hs hun hD => ?_) ho';obtain ⟨x0, x1, x2, x3, x4, x5, x6, x7, x8, x9, ha, hu, F0, F1, F2, F3, F4, F5, F6, F7, F8, F9⟩ := hI;rw [HA.o] at ha;simp only [Act.put, nA, nB, nC] at ha;subst ha;have HOC := zh (HOox.o.later hu);have HKox := zh HOC.o.blk;obtain ⟨sox0, sox1, sox2, sox3, sox4, sox5, sox6, sox7, sox8, sox9, sox10, sox11, sox12⟩ := Zbb HKox.o;go_wp2_with fail
      first | refine Z1 ?_ | skip
      unfold Zer;refine ⟨(.agg #[.slice pox0 r.names.length dox0, .slice pox1 r.aB.length dox1, .slice pox2 r.aA.length dox2, .slice pox3 r.globals.length dox3, .string r.aC, .int .i64 r.aD, .slice pox4 r.output.length dox4, .slice pox5 r.trace.length dox5, .slice pox6 r.aE.length dox6, .bool r.aF, .int .i64 r.ticks, .int .i64 r.aG, .int .i64 r.made]), x1, x2, x3, x4, x5, x6, x7, x8, x9, ?_, hu.trans (Za.refl _),
       zh fun _ => rfl, kc F1, kc F2, kP F3 (Za.refl _), kM F4, kM F5, kM F6, kM F7, kM F8, kA F9 (Za.refl _)⟩
      rw [HA.o];simp only [Act.put, nA, nB, nC]
     ·refine Zc2 (n := 14) rfl rfl [] (by kernel_rfl) (fun l a u hI hs hun hD => ?_) ho';obtain ⟨x0, x1, x2, x3, x4, x5, x6, x7, x8, x9, ha, hu, F0, F1, F2, F3, F4, F5, F6, F7, F8, F9⟩ := hI;rw [HA.o] at ha;simp only [Act.put, nA, nB, nC] at ha;subst ha;have HLC := zh (HLC.o.trans hu);have HXBC := zB HLC HXB;have p0 := cz6 HXBC.o;go_wp2_with fail
      first | refine Z1 ?_ | skip
      unfold Zer;refine ⟨x0, (.agg #[.int .i64 x.kind, .int .i64 x.aH, .int .i64 x.index, .string x.text, .int .i64 x.set_.low, .int .i64 x.set_.high]), x2, x3, x4, x5, x6, x7, x8, x9, ?_, hu.trans (Za.refl _),
       kc F0, zh fun _ => rfl, kc F2, kP F3 (Za.refl _), kM F4, kM F5, kM F6, kM F7, kM F8, kA F9 (Za.refl _)⟩
      rw [HA.o];simp only [Act.put, nA, nB, nC]
     ·refine Zc2 (n := 14) rfl rfl [1] (by kernel_rfl) (fun l a u hI hs hun hD => ?_) ho';obtain ⟨x0, x1, x2, x3, x4, x5, x6, x7, x8, x9, ha, hu, F0, F1, F2, F3, F4, F5, F6, F7, F8, F9⟩ := hI;rw [HA.o] at ha;simp only [Act.put, nA, nB, nC] at ha;subst ha;have e1 := F1.o (hD 1 (by simp));have HLC := zh (HLC.o.trans hu);go_wp2_with fail;refine (Zfa x _ (fun _ => True) _ hxz (Zc.keep (G := fun _ => True) HX64.o (fun _ h => h) (Ze.later (HL.o.trans HLC.o)))).mono ?_;rintro e v ⟨cs1, rfl, hv, hb⟩;obtain ⟨rfl, _⟩ := hv;go_wp2_with fail
      first | refine Z1 ?_ | skip
      unfold Zer;refine ⟨x0, x1, (.agg #[.int .i64 x.kind, .int .i64 x.aH, .int .i64 x.index, .string x.text, .int .i64 x.set_.low, .int .i64 x.set_.high]), x3, x4, x5, x6, x7, x8, x9, ?_, hu.trans hb,
       kc F0, kc F1, zh fun _ => rfl, kP F3 hb, kM F4, kM F5, kM F6, kM F7, kM F8, kA F9 hb⟩
      rw [HA.o];simp only [Act.put, List.setIfInBounds_toArray, List.set_cons_zero, List.set_cons_succ, e1]
     ·refine Zc2 (n := 14) rfl rfl [0, 2, 2] (by kernel_rfl) (fun l a u hI hs hun hD => ?_) ho';obtain ⟨x0, x1, x2, x3, x4, x5, x6, x7, x8, x9, ha, hu, F0, F1, F2, F3, F4, F5, F6, F7, F8, F9⟩ := hI;rw [HA.o] at ha;simp only [Act.put, nA, nB, nC] at ha;subst ha;have e0 := F0.o (hD 0 (by simp));have e2 := F2.o (hD 2 (by simp));have e2 := F2.o (hD 2 (by simp));have HLC := zh (HLC.o.trans hu);have hs1 := Zal.keep (Zbq.el (HOox.o.later hu).sp) (fun _ _ => trivial) (Ze.refl _ _) (G := fun _ => True);go_wp2_with fail;refine (Zdv r _ (fun _ => True) _ x hsz hs1 (Zc.keep (G := fun _ => True) HX64.o (fun _ h => h) (Ze.later (HL.o.trans HLC.o))) (HT.o.below HLC.o) (HPW.o.below HLC.o)).mono ?_;rintro e v hex;rw [HQ.o] at hex;obtain ⟨z, rfl, hr, hb⟩ := Zh8.new (W := Yox) (N := fun b => bt (l.setIfInBounds 3 true) 9 ∧ b = Zg5 x9) hex hu (fun b hN => by rw [hN.2]; exact (F9.o (Zeq (by decide) hN.1)).lt);go_wp2_with fail
      first | refine Z1 ?_ | skip
      unfold Zer;refine ⟨x0, x1, x2, z, x4, x5, x6, x7, x8, x9, ?_, hu.trans hb,
       kc F0, kc F1, kc F2, zh fun _ => hr, kX F4 hun, kM F5, kM F6, kM F7, kM F8, kA F9 hb⟩
      rw [HA.o];simp only [Act.put, List.setIfInBounds_toArray, List.set_cons_zero, List.set_cons_succ, e0, e2]
     ·refine Zc2 (n := 14) rfl rfl [3] (by kernel_rfl) (fun l a u hI hs hun hD => ?_) ho';obtain ⟨x0, x1, x2, x3, x4, x5, x6, x7, x8, x9, ha, hu, F0, F1, F2, F3, F4, F5, F6, F7, F8, F9⟩ := hI;rw [HA.o] at ha;simp only [Act.put, nA, nB, nC] at ha;subst ha;have e3 := F3.o (hD 3 (by simp));clear e3;go_wp2_with fail
      first | refine Z1 ?_ | skip
      unfold Zer;refine ⟨x0, x1, x2, x3, x3, x5, x6, x7, x8, x9, ?_, hu.trans (Za.refl _),
       kc F0, kc F1, kc F2, kP F3 (Za.refl _), zh fun _ => ⟨rfl, Zc8 (hD 3 (by simp))⟩, kX F5 hun, kX F6 hun, kX F7 hun, kX F8 hun, kA F9 (Za.refl _)⟩
      rw [HA.o];simp only [Act.put, nA, nB, nC]
     ·refine Zc2 (n := 14) rfl rfl [4] (by kernel_rfl) (fun l a u hI hs hun hD => ?_) ho';obtain ⟨x0, x1, x2, x3, x4, x5, x6, x7, x8, x9, ha, hu, F0, F1, F2, F3, F4, F5, F6, F7, F8, F9⟩ := hI;rw [HA.o] at ha;simp only [Act.put, nA, nB, nC] at ha;subst ha;have e4 := F4.o (hD 4 (by simp));obtain ⟨pc1, vd1, vv1, _, _, _, h6, _, _⟩ := F3.o e4.2;have h7 := e4.1.trans h6;clear h6 e4;go_wp2_with fail
      first | refine Z1 ?_ | skip
      unfold Zer;refine ⟨x0, x1, x2, x3, x4, .agg pc1.toArray, x6, x7, x8, x9, ?_, hu.trans (Za.refl _),
       kc F0, kc F1, kc F2, kP F3 (Za.refl _), kM F4, zh fun _ => ⟨by rw [h7]; rfl, Zc8 (hD 4 (by simp))⟩, kM F6, kM F7, kM F8, kA F9 (Za.refl _)⟩
      rw [HA.o];simp only [Act.put, List.setIfInBounds_toArray, List.set_cons_zero, List.set_cons_succ, h7]
     ·refine Zc2 (n := 14) rfl rfl [] (by kernel_rfl) (fun l a u hI hs hun hD => ?_) ho';obtain ⟨x0, x1, x2, x3, x4, x5, x6, x7, x8, x9, ha, hu, F0, F1, F2, F3, F4, F5, F6, F7, F8, F9⟩ := hI;rw [HA.o] at ha;simp only [Act.put, nA, nB, nC] at ha;subst ha;go_wp2_with fail
      first | refine Z1 ?_ | skip
      unfold Zer;refine ⟨x0, x1, x2, x3, x4, x5, x6, x7, x8, .pointer (some ⟨u.heap.size, 0, none⟩), ?_, hu.trans ((Za.refl _).alloc _),
       kc F0, kc F1, kc F2, kPa F3 ((Za.refl _).alloc _), kM F4, kM F5, kM F6, kM F7, kM F8, zh fun _ => AlR.new _ hu⟩
      rw [HA.o];simp only [Act.put, nA, nB, nC]
    ·intro i hi o' ho';simp only [List.mem_cons, List.not_mem_nil, or_false] at hi
     rcases hi with rfl | rfl | rfl
     ·refine Zi1 (some 50) (n := 14) rfl rfl rfl [4] (by kernel_rfl) (fun _ => rfl) (fun l a u hI hs hun hD => ?_) ho';obtain ⟨x0, x1, x2, x3, x4, x5, x6, x7, x8, x9, ha, hu, F0, F1, F2, F3, F4, F5, F6, F7, F8, F9⟩ := hI;rw [HA.o] at ha;simp only [Act.put, nA, nB, nC] at ha;subst ha;have e4 := F4.o (hD 4 (by simp));obtain ⟨pc1, vd1, vv1, _, _, _, h6, _, _⟩ := F3.o e4.2;have h7 := e4.1.trans h6;clear h6 e4;refine ⟨vd1, fun y => ?_, ?_⟩
      ·go_simp
      first | refine Z1 ?_ | skip
      unfold Zer;refine ⟨x0, x1, x2, x3, x4, x5, vd1, x7, x8, x9, ?_, hu.trans (Za.refl _),
       kc F0, kc F1, kc F2, kP F3 (Za.refl _), kM F4, kM F5, zh fun _ => ⟨by rw [h7]; rfl, Zc8 (hD 4 (by simp))⟩, kM F7, kM F8, kA F9 (Za.refl _)⟩
      rw [HA.o];simp only [Act.put, List.setIfInBounds_toArray, List.set_cons_zero, List.set_cons_succ, h7]
     ·refine Zi1 (some 51) (n := 14) rfl rfl rfl [4] (by kernel_rfl) (fun _ => rfl) (fun l a u hI hs hun hD => ?_) ho';obtain ⟨x0, x1, x2, x3, x4, x5, x6, x7, x8, x9, ha, hu, F0, F1, F2, F3, F4, F5, F6, F7, F8, F9⟩ := hI;rw [HA.o] at ha;simp only [Act.put, nA, nB, nC] at ha;subst ha;have e4 := F4.o (hD 4 (by simp));obtain ⟨pc1, vd1, vv1, _, _, _, h6, _, _⟩ := F3.o e4.2;have h7 := e4.1.trans h6;clear h6 e4;refine ⟨vv1, fun y => ?_, ?_⟩
      ·go_simp
      first | refine Z1 ?_ | skip
      unfold Zer;refine ⟨x0, x1, x2, x3, x4, x5, x6, vv1, x8, x9, ?_, hu.trans (Za.refl _),
       kc F0, kc F1, kc F2, kP F3 (Za.refl _), kM F4, kM F5, kM F6, zh fun _ => ⟨by rw [h7]; rfl, Zc8 (hD 4 (by simp))⟩, kM F8, kA F9 (Za.refl _)⟩
      rw [HA.o];simp only [Act.put, List.setIfInBounds_toArray, List.set_cons_zero, List.set_cons_succ, h7]
     ·refine Zi1 (some 52) (n := 14) rfl rfl rfl [4] (by kernel_rfl) (fun _ => rfl) (fun l a u hI hs hun hD => ?_) ho';obtain ⟨x0, x1, x2, x3, x4, x5, x6, x7, x8, x9, ha, hu, F0, F1, F2, F3, F4, F5, F6, F7, F8, F9⟩ := hI;rw [HA.o] at ha;simp only [Act.put, nA, nB, nC] at ha;subst ha;have e4 := F4.o (hD 4 (by simp));obtain ⟨pc1, vd1, vv1, _, _, _, h6, _, _⟩ := F3.o e4.2;have h7 := e4.1.trans h6;clear h6 e4;refine ⟨.int .i64 qq.c, fun y => ?_, ?_⟩
      ·go_simp
      first | refine Z1 ?_ | skip
      unfold Zer;refine ⟨x0, x1, x2, x3, x4, x5, x6, x7, .int .i64 qq.c, x9, ?_, hu.trans (Za.refl _),
       kc F0, kc F1, kc F2, kP F3 (Za.refl _), kM F4, kM F5, kM F6, kM F7, zh fun _ => ⟨by rw [h7]; rfl, Zc8 (hD 4 (by simp))⟩, kA F9 (Za.refl _)⟩
      rw [HA.o];simp only [Act.put, List.setIfInBounds_toArray, List.set_cons_zero, List.set_cons_succ, h7]
    ·intro a u hI;obtain ⟨x0, x1, x2, x3, x4, x5, x6, x7, x8, x9, ha, hu, F0, F1, F2, F3, F4, F5, F6, F7, F8, F9⟩ := hI;rw [HA.o] at ha;simp only [Act.put, nA, nB, nC] at ha;subst ha;obtain ⟨pc1, vd1, vv1, Hog, Dog, Gog, h6, hpt, hN⟩ := F3.o (Zb3 (by kernel_rfl));have h7 := (F4.o (Zb3 (by kernel_rfl))).1;have e5 : x5 = .agg pc1.toArray := by rw [(F5.o (Zb3 (by kernel_rfl))).1, h7, h6]; rfl
     have e6 : x6 = vd1 := by rw [(F6.o (Zb3 (by kernel_rfl))).1, h7, h6]; rfl
     have e7 : x7 = vv1 := by rw [(F7.o (Zb3 (by kernel_rfl))).1, h7, h6]; rfl
     have e8 : x8 = .int .i64 qq.c := by rw [(F8.o (Zb3 (by kernel_rfl))).1, h7, h6]; rfl
     obtain ⟨Bog, e9, hB, hWB⟩ := F9.o (Zb3 (by kernel_rfl));have hFB := hN Bog ⟨(Zb3 (by kernel_rfl)), by rw [e9]; rfl⟩;clear F0 F1 F2 F3 F4 F5 F6 F7 F8 F9 hN HA A;subst e5 e6 e7 e8 e9;obtain ⟨tg, kq, rfl, _, _, _, _, _, hkq⟩ := hpt.pat;obtain ⟨kog, nog, rfl, -⟩ := hkq;obtain ⟨aog, bog, rfl, -⟩ := id hpt.defs;obtain ⟨eog, fog, rfl, -⟩ := id hpt.vals;have hd := Zg7 (pcs := [.int .i64 qq.p.op, .string qq.p.text, .int .i64 qq.p.aH, .int .i64 qq.p.set_.low, .int .i64 qq.p.set_.high, .slice kog qq.p.kids.length nog]) hu hB rfl hWB hpt hFB;obtain ⟨Yog, hY⟩ : ∃ z, z = Zz u Bog 0 [.int .i64 qq.p.op, .string qq.p.text, .int .i64 qq.p.aH, .int .i64 qq.p.set_.low, .int .i64 qq.p.set_.high, .slice kog qq.p.kids.length nog] := ⟨_, rfl⟩;rw [← hY] at hd;simp only [Zz, Nat.zero_add, Nat.reduceAdd] at hY;have HYE := zh hY;have HD := zh hd;have HBK := zh hB;clear hY hd hB hpt;have b0 := cz6 HBK.o;have fb0 := fz HBK.o;go_upto_region 11 with (fail);rw [← HYE.o];clear b0 fb0 HYE HBK;obtain ⟨ho, hl⟩ := HD.o;clear HD hFB hWB;obtain ⟨Sog, hS⟩ : ∃ z, z = u.heap.size := ⟨_, rfl⟩;rw [← hS] at ho;clear hS hu;replace HLC := zh (HLC.o.trans hl);replace HOow := zh (HOow.o.later hl);replace HOox := zh (HOox.o.later hl);have HOog := zh ho;clear ho hl;have HLExg := zh (HXY.o);have HG3 := zh (Nat.le_trans HLC3.o (Nat.le_refl Yox.heap.size));have HLEwg := zh (Nat.le_trans HLEwx.o (Nat.le_trans HXL.o HXY.o));have HKog := zh HOog.o.blk;have sog0 := cz6 HKog.o
     have HKow := zh HOow.o.blk;have sow0 := cz6 HKow.o;go_wp2_with fail;refine (Zdx (Zcz lv) (Zb9 lv) qq.p _ _ _ _ _ ((Zv (lv + 1)).el HOog.o.parts.pat) ((Zv (lv + 1)).el HOow.o.parts.pat)).mono ?_;rintro e v1 ⟨rfl, hb⟩;clear HKog sog0;clear HKow sow0;replace HLC := zh (HLC.o.trans hb);replace HOow := zh (HOow.o.later hb);replace HOox := zh (HOox.o.later hb);replace HOog := zh (HOog.o.later hb);clear hb;go_wp2_with fail;refine (Zb9 (lv + 1) qq.ds _ _ _ _ _ (HOog.o.parts.defs.el (Zv (lv + 1))) (HOow.o.parts.defs.el (Zv (lv + 1)))).mono ?_;rintro e v2 ⟨rfl, hb⟩;replace HLC := zh (HLC.o.trans hb);replace HOow := zh (HOow.o.later hb);replace HOox := zh (HOox.o.later hb);replace HOog := zh (HOog.o.later hb);clear hb;go_wp2_with fail;refine (Zct qq.vs _ _ _ _ _ (HOog.o.parts.vals.el Zl) (HOow.o.parts.vals.el Zl)).mono ?_;rintro e v8 ⟨rfl, hb⟩;replace HLC := zh (HLC.o.trans hb);replace HOow := zh (HOow.o.later hb);replace HOox := zh (HOox.o.later hb);replace HOog := zh (HOog.o.later hb);clear hb;go_upto_region 13 with (fail);refine Zax [3, 4] [] (by kernel_rfl) (fun W6 hW6 => ?_);have hlW : Za v8 W6 := by rw [hW6]; exact Below.drew (Za.refl _)
     replace HLC := zh (HLC.o.trans hlW);replace HOow := zh (HOow.o.later hlW);replace HOox := zh (HOox.o.later hlW);replace HOog := zh (HOog.o.later hlW);clear hlW;clear hW6;refine tU 0 74 (v := ?_) rfl rfl (fun x hx => ?_) ?_;rotate_left
     ·have HLC := zh (HLC.o.trans hx); have HMBC := zB HLC HMB; have n0 := cell_of_row _ w.heap.size 0 _ _ _ HMBC.o; have n1 := cell_of_row _ w.heap.size 1 _ _ _ HMBC.o; have n2 := cell_of_row _ w.heap.size 2 _ _ _ HMBC.o; have n3 := cell_of_row _ w.heap.size 3 _ _ _ HMBC.o; have n4 := cell_of_row _ w.heap.size 4 _ _ _ HMBC.o; have n5 := cell_of_row _ w.heap.size 5 _ _ _ HMBC.o; have n6 := cell_of_row _ w.heap.size 6 _ _ _ HMBC.o; have n7 := cell_of_row _ w.heap.size 7 _ _ _ HMBC.o; have n8 := cell_of_row _ w.heap.size 8 _ _ _ HMBC.o; have n9 := cell_of_row _ w.heap.size 9 _ _ _ HMBC.o; have n10 := cell_of_row _ w.heap.size 10 _ _ _ HMBC.o; have n11 := cell_of_row _ w.heap.size 11 _ _ _ HMBC.o; have n12 := cell_of_row _ w.heap.size 12 _ _ _ HMBC.o; simp only [nD, nE, nF] at n0 n1 n2 n3 n4 n5 n6 n7 n8 n9 n10 n11 n12; have HOX2 := zh (HOox.o.later hx); have HKox := zh HOX2.o.blk; have sox0 := cell_of_row _ Box 0 _ _ _ HKox.o; have sox1 := cell_of_row _ Box 1 _ _ _ HKox.o; have sox2 := cell_of_row _ Box 2 _ _ _ HKox.o; have sox3 := cell_of_row _ Box 3 _ _ _ HKox.o; have sox4 := cell_of_row _ Box 4 _ _ _ HKox.o; have sox5 := cell_of_row _ Box 5 _ _ _ HKox.o; have sox6 := cell_of_row _ Box 6 _ _ _ HKox.o; have sox7 := cell_of_row _ Box 7 _ _ _ HKox.o; have sox8 := cell_of_row _ Box 8 _ _ _ HKox.o; have sox9 := cell_of_row _ Box 9 _ _ _ HKox.o; have sox10 := cell_of_row _ Box 10 _ _ _ HKox.o; have sox11 := cell_of_row _ Box 11 _ _ _ HKox.o; have sox12 := cell_of_row _ Box 12 _ _ _ HKox.o; simp only [nD, nE, nF] at sox0 sox1 sox2 sox3 sox4 sox5 sox6 sox7 sox8 sox9 sox10 sox11 sox12; go_simp;first|done|with_reducible rfl
     simp only [Act.put, nA, nB, nC];refine tU 1 75 (v := ?_) rfl rfl (fun x hx => ?_) ?_;rotate_left
     ·have HLC := zh (HLC.o.trans hx); have HMBC := zB HLC HMB; have n0 := cell_of_row _ w.heap.size 0 _ _ _ HMBC.o; have n1 := cell_of_row _ w.heap.size 1 _ _ _ HMBC.o; have n2 := cell_of_row _ w.heap.size 2 _ _ _ HMBC.o; have n3 := cell_of_row _ w.heap.size 3 _ _ _ HMBC.o; have n4 := cell_of_row _ w.heap.size 4 _ _ _ HMBC.o; have n5 := cell_of_row _ w.heap.size 5 _ _ _ HMBC.o; have n6 := cell_of_row _ w.heap.size 6 _ _ _ HMBC.o; have n7 := cell_of_row _ w.heap.size 7 _ _ _ HMBC.o; have n8 := cell_of_row _ w.heap.size 8 _ _ _ HMBC.o; have n9 := cell_of_row _ w.heap.size 9 _ _ _ HMBC.o; have n10 := cell_of_row _ w.heap.size 10 _ _ _ HMBC.o; have n11 := cell_of_row _ w.heap.size 11 _ _ _ HMBC.o; have n12 := cell_of_row _ w.heap.size 12 _ _ _ HMBC.o; simp only [nD, nE, nF] at n0 n1 n2 n3 n4 n5 n6 n7 n8 n9 n10 n11 n12; have HOX2 := zh (HOox.o.later hx); have HKox := zh HOX2.o.blk; have sox0 := cell_of_row _ Box 0 _ _ _ HKox.o; have sox1 := cell_of_row _ Box 1 _ _ _ HKox.o; have sox2 := cell_of_row _ Box 2 _ _ _ HKox.o; have sox3 := cell_of_row _ Box 3 _ _ _ HKox.o; have sox4 := cell_of_row _ Box 4 _ _ _ HKox.o; have sox5 := cell_of_row _ Box 5 _ _ _ HKox.o; have sox6 := cell_of_row _ Box 6 _ _ _ HKox.o; have sox7 := cell_of_row _ Box 7 _ _ _ HKox.o; have sox8 := cell_of_row _ Box 8 _ _ _ HKox.o; have sox9 := cell_of_row _ Box 9 _ _ _ HKox.o; have sox10 := cell_of_row _ Box 10 _ _ _ HKox.o; have sox11 := cell_of_row _ Box 11 _ _ _ HKox.o; have sox12 := cell_of_row _ Box 12 _ _ _ HKox.o; simp only [nD, nE, nF] at sox0 sox1 sox2 sox3 sox4 sox5 sox6 sox7 sox8 sox9 sox10 sox11 sox12; go_simp;first|done|with_reducible rfl
     simp only [Act.put, nA, nB, nC];refine Ze3 2 (by kernel_rfl) rfl rfl ?_;go_wp2_with fail;refine (Zfb r _ (fun _ => True) _ hsz (Zal.keep HH.o (fun _ h => h) (Ze.later (HL.o.trans HLC.o)))).mono ?_;rintro e v6 ⟨cs6, rfl, hsp6, hb⟩;go_wp2_with fail;refine ⟨hb, ?_⟩;replace HLC := zh (HLC.o.trans hb);replace HOow := zh (HOow.o.later hb);replace HOox := zh (HOox.o.later hb);replace HOog := zh (HOog.o.later hb);clear hb;refine Za7 [_, _] (by kernel_rfl) rfl rfl ?_;simp only [List.getElem_toArray, List.getElem_cons_succ, List.getElem_cons_zero];go_wp2_with fail;refine (Zna r _ _ _ _ _ (Zbq.el HOox.o.sp) (Zbq.el hsp6)).mono ?_;rintro e v7 ⟨rfl, hb⟩;clear hsp6;replace HLC := zh (HLC.o.trans hb);replace HOow := zh (HOow.o.later hb);replace HOox := zh (HOox.o.later hb);replace HOog := zh (HOog.o.later hb);clear hb;have HKox := zh HOox.o.blk;obtain ⟨sox0, sox1, sox2, sox3, sox4, sox5, sox6, sox7, sox8, sox9, sox10, sox11, sox12⟩ := Zbb HKox.o;go_wp2_with fail;refine (Zlx r _ _ _ 1 (by decide) HRK.o HOox.o.sp).mono ?_;rintro e v5 ⟨rfl, hsp, hk, hb0⟩;clear HKox sox0 sox1 sox2 sox3 sox4 sox5 sox6 sox7 sox8 sox9 sox10 sox11 sox12;have hbb := HOox.o.below hk hb0 HX3.o;replace HLC := zh (show Za w3 _ from Below.trans HLC.o hbb);replace HOow := zh (HOow.o.apart HOox.o.dom hk (.inl HLEwx.o));replace HOog := zh (HOog.o.apart HOox.o.dom hk (.inr HLExg.o));clear hk hsp hb0 hbb HOox;have HKog := zh HOog.o.blk;have sog0 := cz6 HKog.o
     have HKow := zh HOow.o.blk;have sow0 := cz6 HKow.o;go_wp2_with fail;refine (Zdx (Zcz lv) (Zb9 lv) qq.p _ _ _ _ _ ((Zv (lv + 1)).el HOog.o.parts.pat) ((Zv (lv + 1)).el HOow.o.parts.pat)).mono ?_;rintro e v1 ⟨rfl, hb⟩;clear HKog sog0;clear HKow sow0;replace HLC := zh (HLC.o.trans hb);replace HOow := zh (HOow.o.later hb);replace HOog := zh (HOog.o.later hb);clear hb;go_wp2_with fail;refine (Zb9 (lv + 1) qq.ds _ _ _ _ _ (HOog.o.parts.defs.el (Zv (lv + 1))) (HOow.o.parts.defs.el (Zv (lv + 1)))).mono ?_;rintro e v2 ⟨rfl, hb⟩;replace HLC := zh (HLC.o.trans hb);replace HOow := zh (HOow.o.later hb);replace HOog := zh (HOog.o.later hb);clear hb;go_wp2_with fail;refine (Zct qq.vs _ _ _ _ _ (HOog.o.parts.vals.el Zl) (HOow.o.parts.vals.el Zl)).mono ?_;rintro e v8 ⟨rfl, hb⟩;replace HLC := zh (HLC.o.trans hb);replace HOow := zh (HOow.o.later hb);replace HOog := zh (HOog.o.later hb);clear hb;have HKog := zh HOog.o.blk;have sog0 := cz6 HKog.o;go_wp2_with fail;refine (Zkk (Zv lv) (Zcz lv) (Zd7 lv) qq.p _ _ _ 1 (by decide) HN1.o HOog.o.parts.pat).mono ?_;rintro e v4 ⟨rfl, hsp, hk, hb0⟩;clear HKog sog0;have hbb := HOog.o.below (F := Hog) (fun b hb => .inl hb) hk hb0 HG3.o;replace HLC := zh (show Za w3 _ from Below.trans HLC.o hbb)
     replace HOow := zh (HOow.o.apart (F := Hog) (fun b hb => HOog.o.parts.dom b (.inl hb)) hk (.inl HLEwg.o));replace HOog := zh (HOog.o.turnP hk hsp);clear hk hsp hb0 hbb;go_wp2_with fail;refine (Zd7 (lv + 1) qq.ds _ _ _ ((1 : Int) + (Za6 (Zb6 lv) qq.p : Nat)) HP2.o HN2.o HOog.o.parts.defs).mono ?_;rintro e v4b ⟨rfl, hsp, hk, hb0⟩;have hbb := HOog.o.below (F := Dog) (fun b hb => .inr (.inl hb)) hk hb0 HG3.o;replace HLC := zh (show Za w3 _ from Below.trans HLC.o hbb);replace HOow := zh (HOow.o.apart (F := Dog) (fun b hb => HOog.o.parts.dom b (.inr (.inl hb))) hk (.inl HLEwg.o));replace HOog := zh (HOog.o.turnD hk hsp);clear hk hsp hb0 hbb;go_wp2_with fail;refine (Zdu qq.vs _ _ _ ((1 : Int) + (Za6 (Zb6 lv) qq.p : Nat) + (Zi (Zb6 (lv + 1)) qq.ds : Nat)) HP3.o HN3.o HOog.o.parts.vals).mono ?_;rintro e v4c ⟨rfl, hsp, hk, hb0⟩;have hbb := HOog.o.below (F := Gog) (fun b hb => .inr (.inr hb)) hk hb0 HG3.o;replace HLC := zh (show Za w3 _ from Below.trans HLC.o hbb);replace HOow := zh (HOow.o.apart (F := Gog) (fun b hb => HOog.o.parts.dom b (.inr (.inr hb))) hk (.inl HLEwg.o));replace HOog := zh (HOog.o.turnV hk hsp);clear hk hsp hb0 hbb;have HKog := zh HOog.o.blk;have sog0 := cz6 HKog.o;go_wp2_with fail;refine (Zgi (Zcz lv) (Zck lv) qq.p _ _ _ 1 (by decide) HN1.o ((Zv (lv + 1)).el HOog.o.parts.pat)).mono ?_;rintro e v3 ⟨rfl, hb⟩;clear HKog sog0
     replace HLC := zh (HLC.o.trans hb);replace HOow := zh (HOow.o.later hb);replace HOog := zh (HOog.o.later hb);clear hb;go_wp2_with fail;refine (Zck (lv + 1) qq.ds _ _ _ ((1 : Int) + (Za6 (Zb6 lv) qq.p : Nat)) HP2.o HN2.o (HOog.o.parts.defs.el (Zv (lv + 1)))).mono ?_;rintro e v3b ⟨rfl, hb⟩;replace HLC := zh (HLC.o.trans hb);replace HOow := zh (HOow.o.later hb);replace HOog := zh (HOog.o.later hb);clear hb;go_wp2_with fail;refine (Zg8 qq.vs _ _ _ ((1 : Int) + (Za6 (Zb6 lv) qq.p : Nat) + (Zi (Zb6 (lv + 1)) qq.ds : Nat)) HP3.o HN3.o (HOog.o.parts.vals.el Zl)).mono ?_;rintro e v3c ⟨rfl, hb⟩;replace HLC := zh (HLC.o.trans hb);replace HOow := zh (HOow.o.later hb);replace HOog := zh (HOog.o.later hb);clear hb;go_upto_region 35 with (fail);refine Zm6 (fun A hA => ?_);have HA := zh hA;clear hA;refine Zjq (I := Zd8 A v3c r qq (.agg #[aL, aM, aN, aO, .string r.aC, .int .i64 r.aD, aP, aQ, aR, .bool r.aF, .int .i64 r.ticks, .int .i64 r.aG, .int .i64 r.made]) (.agg #[.int .i64 x.kind, .int .i64 x.aH, .int .i64 x.index, .string x.text, .int .i64 x.set_.low, .int .i64 x.set_.high])) [11, 12, 13, 14] [7, 8, 9] [0, 1, 2, 3, 4, 5, 6, 10] [_, _, _, _] (by kernel_rfl) (by kernel_rfl) (by kernel_rfl) rfl (fun _ _ _ _ _ h => h) ?_ ?_ ?_ ?_
     ·rintro _ rfl;unfold Zd8;refine ⟨undef, undef, undef, undef, undef, undef, undef, undef, undef, undef, undef, ?_, Below.drew (Za.refl _), zh fun h => (Za5 h).elim, zh fun h => (Za5 h).elim, zh fun h => (Za5 h).elim, zh fun h => (Za5 h).elim, zh fun h => (Za5 h).elim, zh fun h => (Za5 h).elim, zh fun h => (Za5 h).elim, zh fun h => (Za5 h).elim, zh fun h => (Za5 h).elim, zh fun h => (Za5 h).elim, zh fun h => (Za5 h).elim⟩;rw [HA.o];simp only [Act.put, nA, nB, nC]
     ·intro Q' i hi o' ho';simp only [List.mem_cons, List.not_mem_nil, or_false] at hi
      rcases hi with rfl | rfl | rfl | rfl | rfl | rfl | rfl | rfl
      ·refine Zc2 (n := 15) rfl rfl [] (by kernel_rfl) (fun l a u hI hs hun hD => ?_) ho';obtain ⟨x0, x1, x2, x3, x4, x5, x6, x7, x8, x9, x10, ha, hu, F0, F1, F2, F3, F4, F5, F6, F7, F8, F9, F10⟩ := hI;rw [HA.o] at ha;simp only [Act.put, nA, nB, nC] at ha;subst ha;have HLC := zh (HLC.o.trans hu);have HMBC := zB HLC HMB;obtain ⟨n0, n1, n2, n3, n4, n5, n6, n7, n8, n9, n10, n11, n12⟩ := Zbb HMBC.o;go_wp2_with fail
       first | refine Z1 ?_ | skip
       unfold Zd8;refine ⟨(.agg #[aL, aM, aN, aO, .string r.aC, .int .i64 r.aD, aP, aQ, aR, .bool r.aF, .int .i64 r.ticks, .int .i64 r.aG, .int .i64 r.made]), x1, x2, x3, x4, x5, x6, x7, x8, x9, x10, ?_, hu.trans (Za.refl _),
        zh fun _ => rfl, kS F1 (Za.refl _), kc F2, kc F3, kP F4 (Za.refl _), kM F5, kM F6, kM F7, kM F8, kM F9, kA F10 (Za.refl _)⟩
       rw [HA.o];simp only [Act.put, nA, nB, nC]
      ·refine Zc2 (n := 15) rfl rfl [0] (by kernel_rfl) (fun l a u hI hs hun hD => ?_) ho';obtain ⟨x0, x1, x2, x3, x4, x5, x6, x7, x8, x9, x10, ha, hu, F0, F1, F2, F3, F4, F5, F6, F7, F8, F9, F10⟩ := hI;rw [HA.o] at ha;simp only [Act.put, nA, nB, nC] at ha;subst ha;have e0 := F0.o (hD 0 (by simp));have HLC := zh (HLC.o.trans hu);go_wp2_with fail;refine (Zfb r _ (fun _ => True) _ hsz (Zal.keep HH.o (fun _ h => h) (Ze.later (HL.o.trans HLC.o)))).mono ?_;rintro e v ⟨cs1, rfl, hsp, hb⟩;go_wp2_with fail
       first | refine Z1 ?_ | skip
       unfold Zd8;refine ⟨x0, .agg cs1.toArray, x2, x3, x4, x5, x6, x7, x8, x9, x10, ?_, hu.trans hb,
        kc F0, zh fun _ => ⟨_, rfl, Zal.keep (Zbq.el hsp) (fun _ _ => trivial) (Ze.refl _ _)⟩, kc F2, kc F3, kP F4 hb, kM F5, kM F6, kM F7, kM F8, kM F9, kA F10 hb⟩
       rw [HA.o];simp only [Act.put, List.setIfInBounds_toArray, List.set_cons_zero, List.set_cons_succ, e0]
      ·refine Zc2 (n := 15) rfl rfl [] (by kernel_rfl) (fun l a u hI hs hun hD => ?_) ho';obtain ⟨x0, x1, x2, x3, x4, x5, x6, x7, x8, x9, x10, ha, hu, F0, F1, F2, F3, F4, F5, F6, F7, F8, F9, F10⟩ := hI;rw [HA.o] at ha;simp only [Act.put, nA, nB, nC] at ha;subst ha;have HLC := zh (HLC.o.trans hu);have HXBC := zB HLC HXB;have p0 := cz6 HXBC.o;go_wp2_with fail
       first | refine Z1 ?_ | skip
       unfold Zd8;refine ⟨x0, x1, (.agg #[.int .i64 x.kind, .int .i64 x.aH, .int .i64 x.index, .string x.text, .int .i64 x.set_.low, .int .i64 x.set_.high]), x3, x4, x5, x6, x7, x8, x9, x10, ?_, hu.trans (Za.refl _),
        kc F0, kS F1 (Za.refl _), zh fun _ => rfl, kc F3, kP F4 (Za.refl _), kM F5, kM F6, kM F7, kM F8, kM F9, kA F10 (Za.refl _)⟩
       rw [HA.o];simp only [Act.put, nA, nB, nC]
      ·refine Zc2 (n := 15) rfl rfl [2, 1] (by kernel_rfl) (fun l a u hI hs hun hD => ?_) ho';obtain ⟨x0, x1, x2, x3, x4, x5, x6, x7, x8, x9, x10, ha, hu, F0, F1, F2, F3, F4, F5, F6, F7, F8, F9, F10⟩ := hI;rw [HA.o] at ha;simp only [Act.put, nA, nB, nC] at ha;subst ha;have e2 := F2.o (hD 2 (by simp));have e1 := F1.o (hD 1 (by simp));have HLC := zh (HLC.o.trans hu);go_wp2_with fail;refine (Zfa x _ (fun _ => True) _ hxz (Zc.keep (G := fun _ => True) HX64.o (fun _ h => h) (Ze.later (HL.o.trans HLC.o)))).mono ?_;rintro e v ⟨cs1, rfl, hv, hb⟩;obtain ⟨rfl, _⟩ := hv;go_wp2_with fail
       first | refine Z1 ?_ | skip
       unfold Zd8;refine ⟨x0, x1, x2, (.agg #[.int .i64 x.kind, .int .i64 x.aH, .int .i64 x.index, .string x.text, .int .i64 x.set_.low, .int .i64 x.set_.high]), x4, x5, x6, x7, x8, x9, x10, ?_, hu.trans hb,
        kc F0, kS F1 hb, kc F2, zh fun _ => rfl, kP F4 hb, kM F5, kM F6, kM F7, kM F8, kM F9, kA F10 hb⟩
       rw [HA.o];simp only [Act.put, List.setIfInBounds_toArray, List.set_cons_zero, List.set_cons_succ, e2]
      ·refine Zc2 (n := 15) rfl rfl [1, 3, 3] (by kernel_rfl) (fun l a u hI hs hun hD => ?_) ho';obtain ⟨x0, x1, x2, x3, x4, x5, x6, x7, x8, x9, x10, ha, hu, F0, F1, F2, F3, F4, F5, F6, F7, F8, F9, F10⟩ := hI;rw [HA.o] at ha;simp only [Act.put, nA, nB, nC] at ha;subst ha;have e1 := F1.o (hD 1 (by simp));have e3 := F3.o (hD 3 (by simp));have e3 := F3.o (hD 3 (by simp));have HLC := zh (HLC.o.trans hu);obtain ⟨cs1, h1, hs1⟩ := e1;go_wp2_with fail;refine (Zdv r (cs1) (fun _ => True) _ x hsz hs1 (Zc.keep (G := fun _ => True) HX64.o (fun _ h => h) (Ze.later (HL.o.trans HLC.o))) (HT.o.below HLC.o) (HPW.o.below HLC.o)).mono ?_;rintro e v hex;rw [HQ.o] at hex;obtain ⟨z, rfl, hr, hb⟩ := Zh8.new (W := v3c) (N := fun b => bt (l.setIfInBounds 4 true) 10 ∧ b = Zg5 x10) hex hu (fun b hN => by rw [hN.2]; exact (F10.o (Zeq (by decide) hN.1)).lt);go_wp2_with fail
       first | refine Z1 ?_ | skip
       unfold Zd8;refine ⟨x0, x1, x2, x3, z, x5, x6, x7, x8, x9, x10, ?_, hu.trans hb,
        kc F0, kS F1 hb, kc F2, kc F3, zh fun _ => hr, kX F5 hun, kM F6, kM F7, kM F8, kM F9, kA F10 hb⟩
       rw [HA.o];simp only [Act.put, List.setIfInBounds_toArray, List.set_cons_zero, List.set_cons_succ, h1, e3]
      ·refine Zc2 (n := 15) rfl rfl [4] (by kernel_rfl) (fun l a u hI hs hun hD => ?_) ho';obtain ⟨x0, x1, x2, x3, x4, x5, x6, x7, x8, x9, x10, ha, hu, F0, F1, F2, F3, F4, F5, F6, F7, F8, F9, F10⟩ := hI;rw [HA.o] at ha;simp only [Act.put, nA, nB, nC] at ha;subst ha;have e4 := F4.o (hD 4 (by simp));clear e4;go_wp2_with fail
       first | refine Z1 ?_ | skip
       unfold Zd8;refine ⟨x0, x1, x2, x3, x4, x4, x6, x7, x8, x9, x10, ?_, hu.trans (Za.refl _),
        kc F0, kS F1 (Za.refl _), kc F2, kc F3, kP F4 (Za.refl _), zh fun _ => ⟨rfl, Zc8 (hD 4 (by simp))⟩, kX F6 hun, kX F7 hun, kX F8 hun, kX F9 hun, kA F10 (Za.refl _)⟩
       rw [HA.o];simp only [Act.put, nA, nB, nC]
      ·refine Zc2 (n := 15) rfl rfl [5] (by kernel_rfl) (fun l a u hI hs hun hD => ?_) ho';obtain ⟨x0, x1, x2, x3, x4, x5, x6, x7, x8, x9, x10, ha, hu, F0, F1, F2, F3, F4, F5, F6, F7, F8, F9, F10⟩ := hI;rw [HA.o] at ha;simp only [Act.put, nA, nB, nC] at ha;subst ha;have e5 := F5.o (hD 5 (by simp));obtain ⟨pc1, vd1, vv1, _, _, _, h6, _, _⟩ := F4.o e5.2;have h7 := e5.1.trans h6;clear h6 e5;go_wp2_with fail
       first | refine Z1 ?_ | skip
       unfold Zd8;refine ⟨x0, x1, x2, x3, x4, x5, .agg pc1.toArray, x7, x8, x9, x10, ?_, hu.trans (Za.refl _),
        kc F0, kS F1 (Za.refl _), kc F2, kc F3, kP F4 (Za.refl _), kM F5, zh fun _ => ⟨by rw [h7]; rfl, Zc8 (hD 5 (by simp))⟩, kM F7, kM F8, kM F9, kA F10 (Za.refl _)⟩
       rw [HA.o];simp only [Act.put, List.setIfInBounds_toArray, List.set_cons_zero, List.set_cons_succ, h7]
      ·refine Zc2 (n := 15) rfl rfl [] (by kernel_rfl) (fun l a u hI hs hun hD => ?_) ho';obtain ⟨x0, x1, x2, x3, x4, x5, x6, x7, x8, x9, x10, ha, hu, F0, F1, F2, F3, F4, F5, F6, F7, F8, F9, F10⟩ := hI;rw [HA.o] at ha;simp only [Act.put, nA, nB, nC] at ha;subst ha;go_wp2_with fail
       first | refine Z1 ?_ | skip
       unfold Zd8;refine ⟨x0, x1, x2, x3, x4, x5, x6, x7, x8, x9, .pointer (some ⟨u.heap.size, 0, none⟩), ?_, hu.trans ((Za.refl _).alloc _),
        kc F0, kS F1 ((Za.refl _).alloc _), kc F2, kc F3, kPa F4 ((Za.refl _).alloc _), kM F5, kM F6, kM F7, kM F8, kM F9, zh fun _ => AlR.new _ hu⟩
       rw [HA.o];simp only [Act.put, nA, nB, nC]
     ·intro i hi o' ho';simp only [List.mem_cons, List.not_mem_nil, or_false] at hi
      rcases hi with rfl | rfl | rfl
      ·refine Zi1 (some 141) (n := 15) rfl rfl rfl [5] (by kernel_rfl) (fun _ => rfl) (fun l a u hI hs hun hD => ?_) ho';obtain ⟨x0, x1, x2, x3, x4, x5, x6, x7, x8, x9, x10, ha, hu, F0, F1, F2, F3, F4, F5, F6, F7, F8, F9, F10⟩ := hI;rw [HA.o] at ha;simp only [Act.put, nA, nB, nC] at ha;subst ha;have e5 := F5.o (hD 5 (by simp));obtain ⟨pc1, vd1, vv1, _, _, _, h6, _, _⟩ := F4.o e5.2;have h7 := e5.1.trans h6;clear h6 e5;refine ⟨vd1, fun y => ?_, ?_⟩
       ·go_simp
       first | refine Z1 ?_ | skip
       unfold Zd8;refine ⟨x0, x1, x2, x3, x4, x5, x6, vd1, x8, x9, x10, ?_, hu.trans (Za.refl _),
        kc F0, kS F1 (Za.refl _), kc F2, kc F3, kP F4 (Za.refl _), kM F5, kM F6, zh fun _ => ⟨by rw [h7]; rfl, Zc8 (hD 5 (by simp))⟩, kM F8, kM F9, kA F10 (Za.refl _)⟩
       rw [HA.o];simp only [Act.put, List.setIfInBounds_toArray, List.set_cons_zero, List.set_cons_succ, h7]
      ·refine Zi1 (some 142) (n := 15) rfl rfl rfl [5] (by kernel_rfl) (fun _ => rfl) (fun l a u hI hs hun hD => ?_) ho';obtain ⟨x0, x1, x2, x3, x4, x5, x6, x7, x8, x9, x10, ha, hu, F0, F1, F2, F3, F4, F5, F6, F7, F8, F9, F10⟩ := hI;rw [HA.o] at ha;simp only [Act.put, nA, nB, nC] at ha;subst ha;have e5 := F5.o (hD 5 (by simp));obtain ⟨pc1, vd1, vv1, _, _, _, h6, _, _⟩ := F4.o e5.2;have h7 := e5.1.trans h6;clear h6 e5;refine ⟨vv1, fun y => ?_, ?_⟩
       ·go_simp
       first | refine Z1 ?_ | skip
       unfold Zd8;refine ⟨x0, x1, x2, x3, x4, x5, x6, x7, vv1, x9, x10, ?_, hu.trans (Za.refl _),
        kc F0, kS F1 (Za.refl _), kc F2, kc F3, kP F4 (Za.refl _), kM F5, kM F6, kM F7, zh fun _ => ⟨by rw [h7]; rfl, Zc8 (hD 5 (by simp))⟩, kM F9, kA F10 (Za.refl _)⟩
       rw [HA.o];simp only [Act.put, List.setIfInBounds_toArray, List.set_cons_zero, List.set_cons_succ, h7]
      ·refine Zi1 (some 143) (n := 15) rfl rfl rfl [5] (by kernel_rfl) (fun _ => rfl) (fun l a u hI hs hun hD => ?_) ho';obtain ⟨x0, x1, x2, x3, x4, x5, x6, x7, x8, x9, x10, ha, hu, F0, F1, F2, F3, F4, F5, F6, F7, F8, F9, F10⟩ := hI;rw [HA.o] at ha;simp only [Act.put, nA, nB, nC] at ha;subst ha;have e5 := F5.o (hD 5 (by simp));obtain ⟨pc1, vd1, vv1, _, _, _, h6, _, _⟩ := F4.o e5.2;have h7 := e5.1.trans h6;clear h6 e5;refine ⟨.int .i64 qq.c, fun y => ?_, ?_⟩
       ·go_simp
       first | refine Z1 ?_ | skip
       unfold Zd8;refine ⟨x0, x1, x2, x3, x4, x5, x6, x7, x8, .int .i64 qq.c, x10, ?_, hu.trans (Za.refl _),
        kc F0, kS F1 (Za.refl _), kc F2, kc F3, kP F4 (Za.refl _), kM F5, kM F6, kM F7, kM F8, zh fun _ => ⟨by rw [h7]; rfl, Zc8 (hD 5 (by simp))⟩, kA F10 (Za.refl _)⟩
       rw [HA.o];simp only [Act.put, List.setIfInBounds_toArray, List.set_cons_zero, List.set_cons_succ, h7]
     ·intro a u hI;obtain ⟨x0, x1, x2, x3, x4, x5, x6, x7, x8, x9, x10, ha, hu, F0, F1, F2, F3, F4, F5, F6, F7, F8, F9, F10⟩ := hI;rw [HA.o] at ha;simp only [Act.put, nA, nB, nC] at ha;subst ha;obtain ⟨pc1, vd1, vv1, Hoh, Doh, Goh, h6, hpt, hN⟩ := F4.o (Zb3 (by kernel_rfl));have h7 := (F5.o (Zb3 (by kernel_rfl))).1;have e6 : x6 = .agg pc1.toArray := by rw [(F6.o (Zb3 (by kernel_rfl))).1, h7, h6]; rfl
      have e7 : x7 = vd1 := by rw [(F7.o (Zb3 (by kernel_rfl))).1, h7, h6]; rfl
      have e8 : x8 = vv1 := by rw [(F8.o (Zb3 (by kernel_rfl))).1, h7, h6]; rfl
      have e9 : x9 = .int .i64 qq.c := by rw [(F9.o (Zb3 (by kernel_rfl))).1, h7, h6]; rfl
      obtain ⟨Boh, e10, hB, hWB⟩ := F10.o (Zb3 (by kernel_rfl));have hFB := hN Boh ⟨(Zb3 (by kernel_rfl)), by rw [e10]; rfl⟩;clear F0 F1 F2 F3 F4 F5 F6 F7 F8 F9 F10 hN HA A;subst e6 e7 e8 e9 e10;obtain ⟨tg, kq, rfl, _, _, _, _, _, hkq⟩ := hpt.pat;obtain ⟨koh, noh, rfl, -⟩ := hkq;obtain ⟨aoh, boh, rfl, -⟩ := id hpt.defs;obtain ⟨eoh, foh, rfl, -⟩ := id hpt.vals;have hd := Zg7 (pcs := [.int .i64 qq.p.op, .string qq.p.text, .int .i64 qq.p.aH, .int .i64 qq.p.set_.low, .int .i64 qq.p.set_.high, .slice koh qq.p.kids.length noh]) hu hB rfl hWB hpt hFB;obtain ⟨Yoh, hY⟩ : ∃ z, z = Zz u Boh 0 [.int .i64 qq.p.op, .string qq.p.text, .int .i64 qq.p.aH, .int .i64 qq.p.set_.low, .int .i64 qq.p.set_.high, .slice koh qq.p.kids.length noh] := ⟨_, rfl⟩;rw [← hY] at hd;simp only [Zz, Nat.zero_add, Nat.reduceAdd] at hY;have HYE := zh hY;have HD := zh hd;have HBK := zh hB;clear hY hd hB hpt;have b0 := cz6 HBK.o;have fb0 := fz HBK.o;go_upto_region 36 with (fail);rw [← HYE.o];clear b0 fb0 HYE HBK;obtain ⟨ho, hl⟩ := HD.o;clear HD hFB hWB;obtain ⟨Soh, hS⟩ : ∃ z, z = u.heap.size := ⟨_, rfl⟩;rw [← hS] at ho;clear hS hu;replace HLC := zh (HLC.o.trans hl);replace HOow := zh (HOow.o.later hl);replace HOog := zh (HOog.o.later hl);have HOoh := zh ho;clear ho hl;have HKoh := zh HOoh.o.blk;have soh0 := cz6 HKoh.o;have HKow := zh HOow.o.blk;have sow0 := cz6 HKow.o;go_wp2_with fail
      refine (Zdx (Zcz lv) (Zb9 lv) qq.p _ _ _ _ _ ((Zv (lv + 1)).el HOoh.o.parts.pat) ((Zv (lv + 1)).el HOow.o.parts.pat)).mono ?_;rintro e v1 ⟨rfl, hb⟩;clear HKoh soh0;clear HKow sow0;replace HLC := zh (HLC.o.trans hb);replace HOow := zh (HOow.o.later hb);replace HOog := zh (HOog.o.later hb);replace HOoh := zh (HOoh.o.later hb);clear hb;go_wp2_with fail;refine (Zb9 (lv + 1) qq.ds _ _ _ _ _ (HOoh.o.parts.defs.el (Zv (lv + 1))) (HOow.o.parts.defs.el (Zv (lv + 1)))).mono ?_;rintro e v2 ⟨rfl, hb⟩;replace HLC := zh (HLC.o.trans hb);replace HOow := zh (HOow.o.later hb);replace HOog := zh (HOog.o.later hb);replace HOoh := zh (HOoh.o.later hb);clear hb;go_wp2_with fail;refine (Zct qq.vs _ _ _ _ _ (HOoh.o.parts.vals.el Zl) (HOow.o.parts.vals.el Zl)).mono ?_;rintro e v8 ⟨rfl, hb⟩;replace HLC := zh (HLC.o.trans hb);replace HOow := zh (HOow.o.later hb);replace HOog := zh (HOog.o.later hb);replace HOoh := zh (HOoh.o.later hb);clear hb;have HKog := zh HOog.o.blk;have sog0 := cz6 HKog.o;go_wp2_with fail;refine (Zgi (Zcz lv) (Zck lv) qq.p _ _ _ 1 (by decide) HN1.o ((Zv (lv + 1)).el HOog.o.parts.pat)).mono ?_;rintro e v3 ⟨rfl, hb⟩;clear HKog sog0;replace HLC := zh (HLC.o.trans hb);replace HOog := zh (HOog.o.later hb);clear hb;go_wp2_with fail;refine (Zck (lv + 1) qq.ds _ _ _ ((1 : Int) + (Za6 (Zb6 lv) qq.p : Nat)) HP2.o HN2.o (HOog.o.parts.defs.el (Zv (lv + 1)))).mono ?_
      rintro e v3b ⟨rfl, hb⟩;replace HLC := zh (HLC.o.trans hb);replace HOog := zh (HOog.o.later hb);clear hb;go_wp2_with fail;refine (Zg8 qq.vs _ _ _ ((1 : Int) + (Za6 (Zb6 lv) qq.p : Nat) + (Zi (Zb6 (lv + 1)) qq.ds : Nat)) HP3.o HN3.o (HOog.o.parts.vals.el Zl)).mono ?_;rintro e v3c ⟨rfl, hb⟩;replace HLC := zh (HLC.o.trans hb);replace HOog := zh (HOog.o.later hb);clear hb;go_wp2_with fail;go_ret;exact ⟨rfl, HL.o.trans HLC.o⟩
end Go.Proofs.YtpmhelkiicigfaaGreatDoor
namespace Go.Proofs.YtpmhelkiicigfaaGreatDoor
open Go.ChangeShapes Go.WideShapes Go.ChangeAt Go.RowKit
theorem Zi5 {w : World} {a : Addr} {v : Value} (h : w.cell? a = some v) : a.spot = none ∧ a.block < w.heap.size := by
 unfold World.cell? at h
 rcases hh : w.heap[a.block]? with _ | o
 ·rw [hh] at h; cases h
 ·refine ⟨?_, (Array.getElem?_eq_some_iff.1 hh).1⟩;rw [hh] at h
  cases o <;> simp at h
  exact h.1
/-- A reading at the type t gives such a thing. -/
def Zg9 {α : Type} (t : TypeId) (El : Zbt α) : Prop := ∀ {H : Type} {enc : TypeId × Value → H} {w : World} {spare : Nat → Bool} {held : Bool} (n : Nat) (cs : List Value) (x : DataW H × List MemPlace), DataW.trod enc Tryz.prog w 0 spare held n t cs = some x → ∃ a, El (fun _ => True) w a cs
theorem Zbv : Zg9 3 Zqp := fun n cs x h => by
 obtain ⟨m, e, _, hw⟩ := DataW.trod_int Tryz.underlying3 h;have := bounds_i64 hw;exact ⟨m, e, by unfold Zy; omega⟩
theorem Zea : Zg9 9 Zbz := fun n cs x h => by
 obtain ⟨s, e, _, hs⟩ := DataW.trod_string Tryz.underlying9 h;exact ⟨s, e, hs⟩
theorem Zqm : Zg9 4 Zst := fun n cs x h => by
 obtain ⟨b, e, _⟩ := DataW.trod_bool Tryz.underlying4 h;exact ⟨b, e⟩
theorem Zcu {α : Type} {El : Zbt α} {size : Nat} {S E : TypeId} (hS : Tryz.prog.underlying S = some (.slice E)) (hc : Tryz.prog.cellsOf E = size) (h0 : 0 < size) (hE : Zcx El size) (hel : Zg9 E El) : Zg9 S (Zwj El size) := by
 intro H enc w spare held n cs x h
 rcases DataW.trod_slice hS h with ⟨rfl, _⟩ | ⟨a, len, cap, elems, rest, m, _, rfl, _, _, hlc, hcm, hel2, hall, _, _⟩
 ·exact ⟨[], _, rfl, Zo.nil _ _ _ _⟩
 ·by_cases hz : len = 0
  ·subst hz;exact ⟨[], _, rfl, some a, cap, rfl, Nat.zero_le _, hcm, fun i hi => by simp at hi⟩
  ·have each : ∀ i : Fin len, ∃ q : α × List Value, El (fun _ => True) w q.1 q.2 ∧ ∀ j, j < size → w.cell? ((a.add (i.1 * size)).add j) = q.2[j]? := fun i => by
    have h1 := hall i.1 i.2;have hi : i.1 < elems.length := by omega
    rw [List.getElem?_eq_getElem hi, Option.bind_eq_some_iff] at h1;obtain ⟨cs', hc', htr⟩ := h1;obtain ⟨p, hp⟩ := hel _ _ _ htr;rw [hc] at hc';obtain ⟨_, _, hcell⟩ := World.cells?_some hc';exact ⟨(p, cs'), hp, hcell⟩
   have hspot : a.spot = none := by
    obtain ⟨q, hq, hcell⟩ := each ⟨0, by omega⟩;have h1 := hcell 0 h0;have hl := hE.len hq;rw [List.getElem?_eq_getElem (by omega)] at h1;have := (Zi5 h1).1
    simpa [Addr.add] using this
   obtain ⟨ab, ao, asp⟩ := a;simp only at hspot;subst hspot;have ha : ∀ i k, ((⟨ab, ao, none⟩ : Addr).add i).add k = ⟨ab, ao + i + k, none⟩ := fun i k => by
    unfold Addr.add
    split <;> split <;> simp_all
   refine ⟨List.ofFn fun i => (Classical.choose (each i)).1, _, rfl, some ⟨ab, ao, none⟩, cap, by simp, by simpa using hlc, hcm, fun i hi => ?_⟩;have hi' : i < len := by simpa using hi
   have hc2 := Classical.choose_spec (each ⟨i, hi'⟩);obtain ⟨h1, h2⟩ := hc2;have hl := hE.len h1;refine ⟨ab, ao, (Classical.choose (each ⟨i, hi'⟩)).2, rfl, trivial, ?_, by simpa using h1, fun j y hj => ?_⟩
   ·have h3 := h2 0 h0;rw [List.getElem?_eq_getElem (by omega), ha] at h3;exact (Zi5 h3).2
   ·have hjs : j < size := by have := (List.getElem?_eq_some_iff.1 hj).1; omega
    have h3 := h2 j hjs;rw [ha] at h3;exact h3.trans hj
theorem Zcd : Tryz.prog.cellsOf 3 = 1 := by kernel_rfl
theorem Zcr : Tryz.prog.cellsOf 9 = 1 := by kernel_rfl
theorem Zeb : Tryz.prog.cellsOf 4 = 1 := by kernel_rfl
end Go.Proofs.YtpmhelkiicigfaaGreatDoor
namespace Go.Proofs.YtpmhelkiicigfaaGreatDoor
open Go.ChangeShapes Go.WideShapes Go.ChangeAt Go.RowKit
theorem Zju : Tryz.prog.cellsOf 48 = 2 := by kernel_rfl
theorem Zqn : Zg9 48 Ze2 := by
 intro H enc w spare held n cs x h;obtain ⟨xs, m, _, _, hlen, hxl, hg⟩ := DataW.trod_struct Tryz.underlying48 h;rw [Zju] at hlen
 match cs, hlen with
 | [c0, c1], _ =>
  match xs, hxl with
  | [y0, y1], _ =>
   have g0 := hg 0 _ rfl;simp [Zcd] at g0;have g1 := hg 1 _ rfl;simp [Zcd] at g1;obtain ⟨r0, e0, h0⟩ := Zbv _ _ _ g0;simp only [List.cons.injEq, and_true] at e0;subst e0;obtain ⟨r1, e1, h1⟩ := Zbv _ _ _ g1;simp only [List.cons.injEq, and_true] at e1;subst e1;exact ⟨⟨r0, r1⟩, rfl, h0, h1⟩
theorem Zcv : Tryz.prog.cellsOf 24 = 1 := by kernel_rfl
theorem Zi6 : Tryz.prog.cellsOf 143 = 3 := by kernel_rfl
theorem Zjv : Zg9 143 Za1 := by
 intro H enc w spare held n cs x h;obtain ⟨xs, m, _, _, hlen, hxl, hg⟩ := DataW.trod_struct Tryz.underlying143 h;rw [Zi6] at hlen
 match cs, hlen with
 | [c0, c1, c2], _ =>
  match xs, hxl with
  | [y0, y1, y2], _ =>
   have g0 := hg 0 _ rfl;simp [Zcd, Zcv, Zcr] at g0;have g1 := hg 1 _ rfl;simp [Zcd, Zcv, Zcr] at g1;have g2 := hg 2 _ rfl;simp [Zcd, Zcv, Zcr] at g2;obtain ⟨r0, e0, h0⟩ := Zea _ _ _ g0;simp only [List.cons.injEq, and_true] at e0;subst e0;obtain ⟨r1, v1, e1, h1⟩ := Zcu Tryz.underlying24 Zcr (by decide) Zad Zea _ _ _ g1;simp only [List.cons.injEq, and_true] at e1;subst e1;obtain ⟨r2, e2, h2⟩ := Zbv _ _ _ g2;simp only [List.cons.injEq, and_true] at e2;subst e2;exact ⟨⟨r0, r1, r2⟩, _, rfl, h0, h1, h2⟩
theorem Zkr : Tryz.prog.cellsOf 50 = 6 := by kernel_rfl
theorem Zff : Zg9 50 Zg := by
 intro H enc w spare held n cs x h;obtain ⟨xs, m, _, _, hlen, hxl, hg⟩ := DataW.trod_struct Tryz.underlying50 h;rw [Zkr] at hlen
 match cs, hlen with
 | [c0, c1, c2, c3, c4, c5], _ =>
  match xs, hxl with
  | [y0, y1, y2, y3, y4], _ =>
   have g0 := hg 0 _ rfl;simp [Zju, Zcd, Zcr] at g0;have g1 := hg 1 _ rfl;simp [Zju, Zcd, Zcr] at g1;have g2 := hg 2 _ rfl;simp [Zju, Zcd, Zcr] at g2;have g3 := hg 3 _ rfl;simp [Zju, Zcd, Zcr] at g3;have g4 := hg 4 _ rfl;simp [Zju, Zcd, Zcr] at g4;obtain ⟨r0, e0, h0⟩ := Zbv _ _ _ g0;simp only [List.cons.injEq, and_true] at e0;subst e0;obtain ⟨r1, e1, h1⟩ := Zbv _ _ _ g1;simp only [List.cons.injEq, and_true] at e1;subst e1;obtain ⟨r2, e2, h2⟩ := Zbv _ _ _ g2;simp only [List.cons.injEq, and_true] at e2;subst e2;obtain ⟨r3, e3, h3⟩ := Zea _ _ _ g3;simp only [List.cons.injEq, and_true] at e3;subst e3;obtain ⟨r4, e4, h40, h41⟩ := Zqn _ _ _ g4;simp only [List.cons.injEq, and_true] at e4;obtain ⟨q40, q41⟩ := e4;subst q40 q41;exact ⟨⟨r0, r1, r2, r3, r4⟩, rfl, h0, h1, h2, h3, h40, h41⟩
theorem Zcl : Tryz.prog.cellsOf 44 = 1 := by kernel_rfl
theorem Zpc : Tryz.prog.cellsOf 146 = 5 := by kernel_rfl
theorem Znb : Zg9 146 Zbk := by
 intro H enc w spare held n cs x h;obtain ⟨xs, m, _, _, hlen, hxl, hg⟩ := DataW.trod_struct Tryz.underlying146 h;rw [Zpc] at hlen
 match cs, hlen with
 | [c0, c1, c2, c3, c4], _ =>
  match xs, hxl with
  | [y0, y1, y2, y3, y4], _ =>
   have g0 := hg 0 _ rfl;simp [Zcd, Zcl] at g0;have g1 := hg 1 _ rfl;simp [Zcd, Zcl] at g1;have g2 := hg 2 _ rfl;simp [Zcd, Zcl] at g2;have g3 := hg 3 _ rfl;simp [Zcd, Zcl] at g3;have g4 := hg 4 _ rfl;simp [Zcd, Zcl] at g4;obtain ⟨r0, e0, h0⟩ := Zbv _ _ _ g0;simp only [List.cons.injEq, and_true] at e0;subst e0;obtain ⟨r1, e1, h1⟩ := Zbv _ _ _ g1;simp only [List.cons.injEq, and_true] at e1;subst e1;obtain ⟨r2, e2, h2⟩ := Zbv _ _ _ g2;simp only [List.cons.injEq, and_true] at e2;subst e2;obtain ⟨r3, v3, e3, h3⟩ := Zcu Tryz.underlying44 Zkr (by decide) Zc Zff _ _ _ g3;simp only [List.cons.injEq, and_true] at e3;subst e3;obtain ⟨r4, v4, e4, h4⟩ := Zcu Tryz.underlying44 Zkr (by decide) Zc Zff _ _ _ g4;simp only [List.cons.injEq, and_true] at e4;subst e4;exact ⟨⟨r0, r1, r2, r3, r4⟩, _, _, rfl, h0, h1, h2, h3, h4⟩
theorem Zpd : Tryz.prog.cellsOf 156 = 2 := by kernel_rfl
theorem Znc : Zg9 156 Zbg := by
 intro H enc w spare held n cs x h;obtain ⟨xs, m, _, _, hlen, hxl, hg⟩ := DataW.trod_struct Tryz.underlying156 h;rw [Zpd] at hlen
 match cs, hlen with
 | [c0, c1], _ =>
  match xs, hxl with
  | [y0, y1], _ =>
   have g0 := hg 0 _ rfl;simp [Zcd] at g0;have g1 := hg 1 _ rfl;simp [Zcd] at g1;obtain ⟨r0, e0, h0⟩ := Zbv _ _ _ g0;simp only [List.cons.injEq, and_true] at e0;subst e0;obtain ⟨r1, e1, h1⟩ := Zbv _ _ _ g1;simp only [List.cons.injEq, and_true] at e1;subst e1;exact ⟨⟨r0, r1⟩, rfl, h0, h1⟩
theorem Zas : Tryz.prog.cellsOf 24 = 1 := by kernel_rfl
theorem Zac : Tryz.prog.cellsOf 42 = 1 := by kernel_rfl
theorem Zat : Tryz.prog.cellsOf 43 = 1 := by kernel_rfl
theorem Zaz : Tryz.prog.cellsOf 44 = 1 := by kernel_rfl
theorem Zau : Tryz.prog.cellsOf 45 = 1 := by kernel_rfl
theorem Zvl : Tryz.prog.cellsOf 47 = 13 := by kernel_rfl
theorem Zpe : Zg9 47 Zcf := by
 intro H enc w spare held n cs x h;obtain ⟨xs, m, _, _, hlen, hxl, hg⟩ := DataW.trod_struct Tryz.underlying47 h;rw [Zvl] at hlen
 match cs, hlen with
 | [c0, c1, c2, c3, c4, c5, c6, c7, c8, c9, c10, c11, c12], _ =>
  match xs, hxl with
  | [y0, y1, y2, y3, y4, y5, y6, y7, y8, y9, y10, y11, y12], _ =>
   have g0 := hg 0 _ rfl;simp [Zeb, Zcd, Zau, Zat, Zac, Zaz, Zas, Zcr] at g0;have g1 := hg 1 _ rfl;simp [Zeb, Zcd, Zau, Zat, Zac, Zaz, Zas, Zcr] at g1;have g2 := hg 2 _ rfl;simp [Zeb, Zcd, Zau, Zat, Zac, Zaz, Zas, Zcr] at g2;have g3 := hg 3 _ rfl;simp [Zeb, Zcd, Zau, Zat, Zac, Zaz, Zas, Zcr] at g3;have g4 := hg 4 _ rfl;simp [Zeb, Zcd, Zau, Zat, Zac, Zaz, Zas, Zcr] at g4;have g5 := hg 5 _ rfl;simp [Zeb, Zcd, Zau, Zat, Zac, Zaz, Zas, Zcr] at g5;have g6 := hg 6 _ rfl;simp [Zeb, Zcd, Zau, Zat, Zac, Zaz, Zas, Zcr] at g6;have g7 := hg 7 _ rfl;simp [Zeb, Zcd, Zau, Zat, Zac, Zaz, Zas, Zcr] at g7;have g8 := hg 8 _ rfl;simp [Zeb, Zcd, Zau, Zat, Zac, Zaz, Zas, Zcr] at g8;have g9 := hg 9 _ rfl;simp [Zeb, Zcd, Zau, Zat, Zac, Zaz, Zas, Zcr] at g9;have g10 := hg 10 _ rfl
   simp [Zeb, Zcd, Zau, Zat, Zac, Zaz, Zas, Zcr] at g10;have g11 := hg 11 _ rfl;simp [Zeb, Zcd, Zau, Zat, Zac, Zaz, Zas, Zcr] at g11;have g12 := hg 12 _ rfl;simp [Zeb, Zcd, Zau, Zat, Zac, Zaz, Zas, Zcr] at g12;obtain ⟨r0, v0, e0, h0⟩ := Zcu Tryz.underlying24 Zcr (by decide) Zad Zea _ _ _ g0;simp only [List.cons.injEq, and_true] at e0;subst e0;obtain ⟨r1, v1, e1, h1⟩ := Zcu Tryz.underlying42 Zi6 (by decide) Zah Zjv _ _ _ g1;simp only [List.cons.injEq, and_true] at e1;subst e1;obtain ⟨r2, v2, e2, h2⟩ := Zcu Tryz.underlying43 Zpc (by decide) Za4 Znb _ _ _ g2;simp only [List.cons.injEq, and_true] at e2;subst e2;obtain ⟨r3, v3, e3, h3⟩ := Zcu Tryz.underlying44 Zkr (by decide) Zc Zff _ _ _ g3;simp only [List.cons.injEq, and_true] at e3;subst e3;obtain ⟨r4, e4, h4⟩ := Zea _ _ _ g4;simp only [List.cons.injEq, and_true] at e4;subst e4;obtain ⟨r5, e5, h5⟩ := Zbv _ _ _ g5;simp only [List.cons.injEq, and_true] at e5;subst e5;obtain ⟨r6, v6, e6, h6⟩ := Zcu Tryz.underlying24 Zcr (by decide) Zad Zea _ _ _ g6;simp only [List.cons.injEq, and_true] at e6;subst e6;obtain ⟨r7, v7, e7, h7⟩ := Zcu Tryz.underlying24 Zcr (by decide) Zad Zea _ _ _ g7
   simp only [List.cons.injEq, and_true] at e7;subst e7;obtain ⟨r8, v8, e8, h8⟩ := Zcu Tryz.underlying45 Zpd (by decide) Zbd Znc _ _ _ g8;simp only [List.cons.injEq, and_true] at e8;subst e8;obtain ⟨r9, e9⟩ := Zqm _ _ _ g9;unfold Zst at e9;simp only [List.cons.injEq, and_true] at e9;subst e9;obtain ⟨r10, e10, h10⟩ := Zbv _ _ _ g10;simp only [List.cons.injEq, and_true] at e10;subst e10;obtain ⟨r11, e11, h11⟩ := Zbv _ _ _ g11;simp only [List.cons.injEq, and_true] at e11;subst e11;obtain ⟨r12, e12, h12⟩ := Zbv _ _ _ g12;simp only [List.cons.injEq, and_true] at e12;subst e12;exact ⟨⟨r0, r1, r2, r3, r4, r5, r6, r7, r8, r9, r10, r11, r12⟩, _, _, _, _, _, _, _, rfl, h0, h1, h2, h3, h4, h5, h6, h7, h8, h10, h11, h12⟩
end Go.Proofs.YtpmhelkiicigfaaGreatDoor
namespace Go.Proofs.YtpmhelkiicigfaaGreatDoor
open Go.ChangeShapes Go.WideShapes Go.ChangeAt Go.RowKit
theorem own : ownKnob Tryz.prog.godebug = none := by kernel_rfl
theorem Zvm : laidOutB Tryz.prog = true := by kernel_rfl
section
variable {H : Type} {enc : TypeId × Value → H} {P : Program}
/-- Arguments that lie below read again as they did. -/
theorem Zhw (hl : laidOutB P = true) {W W' : World} {sp : Nat → Bool} : ∀ (ts : List TypeId) (vs : List Value) (ds : List (DataW H)) (ps : List MemPlace),
  (ts.all fun t => P.readableRec t && decide (t < P.types.size)) = true → DataW.TrodAll enc P W 0 (fun _ => true) true ts vs ds ps → (∀ p ∈ ps, W.sameAt W' p) → (∀ p ∈ ps, sp p.block = true) → DataW.TrodAll enc P W' 0 sp true ts vs ds ps
 | [], vs, ds, ps, _, h, _, _ => by
  obtain ⟨rfl, rfl, rfl⟩ := trodAll_nil h;exact trodAll_mk0
 | t :: ts, vs, ds, ps, hr, h, h1, h2 => by
  obtain ⟨v, vs', d, ds', p, q, rfl, rfl, rfl, hp, hq⟩ := trodAll_cons h;simp only [List.all_cons, Bool.and_eq_true, nJ] at hr;exact trodAll_cons_mk (WideElems.Trod_stays hl hr.1.1 hr.1.2 hp (fun x hx => h1 x (by simp [hx])) (fun x hx => h2 x (by simp [hx])))
   (Zhw hl ts vs' ds' q hr.2 hq (fun x hx => h1 x (by simp [hx])) (fun x hx => h2 x (by simp [hx])))
theorem Zuq (hl : laidOutB P = true) {f : Func} {s : ChangeSpec} {apart : Bool} {W W' : World} {args : Array Value} {ds gs : List (DataW H)} {before : List MemPlace} {t : TypeId}
  (hW : DataW.Whole enc P f.params.toList s.vars apart W args.toList ds gs before) (hv : s.vars = []) (hfn : s.fn H ds = { results := [.lit (.bool true)], args := ds })
  (hr : f.resultTypes = #[t]) (ht : P.underlying t = some .bool) (hp : (f.params.toList.all fun t => P.readableRec t && decide (t < P.types.size)) = true)
  (hb : Below W.heap.size W W') : s.post enc P f apart true false false W args (.bool true) W' := by
 have hlt : ∀ p ∈ before, p.block < W.heap.size := fun p hp => hW.lt p hp;have hW0 := hW;obtain ⟨p, q, hA, hV, rfl, hfz, hnd⟩ := hW;rw [hv] at hV;obtain ⟨rfl, rfl⟩ := trodVars_none hV;refine ⟨ds, [], p ++ [], [], p, [], hW0, ?_, ?_, ?_, World.keptBut_mono (fun x hx => ⟨hx, .inr (.inl (by simpa using hx))⟩) (hb.frame (· ∈ p ++ [])), fun h => by cases h⟩
 ·rw [List.append_nil, hfn, hr];exact trodAll_mk1 (shut_bool ht true)
 ·rw [List.append_nil, hfn];exact Zhw hl _ _ _ _ hp hA (fun x hx => hb.same (hlt x (by simp [hx]))) (fun x hx => by simpa using hlt x (by simp [hx]))
 ·rw [List.append_nil, hfn, hv]
  rfl
end
end Go.Proofs.YtpmhelkiicigfaaGreatDoor
